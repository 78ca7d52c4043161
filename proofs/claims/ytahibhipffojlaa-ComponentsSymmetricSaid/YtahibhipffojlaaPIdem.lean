/- Done twice is done once: parts left whole keep their blobs. -/
import Derived.Test.YtahibhipffojlaaPEuler
set_option linter.unusedSimpArgs false
set_option linter.unusedVariables false
namespace Go.Proofs.Ytahibhipffojlaa.P
open Go.RowKit Go.Proofs.YtahibhipffojlaaW.PrintWords Go.Proofs.YtahibhipffojlaaW.PrintMore Go.Proofs.Ytahibhipffojlaa.M Go.Proofs.Ytahibhipffojlaa.Topo

/-- a set that holds some parts whole: its labelling gives them the blobs they had -/
theorem Spec.kept {w n : Nat} {e : Bool} {D D' : Nat → Bool} {L L' : List Int} {B B' : List S38} (h : Spec w e n D L B) (h' : Spec w e n D' L' B') (q : Nat → Bool)
    (hD : ∀ j, j < n → (D' j = true ↔ (D j = true ∧ q (L.getD j 0).toNat = true))) (j : Nat) (hj : Vs D' n j) :
    Vs D n j ∧ q (L.getD j 0).toNat = true ∧ B'.getD (L'.getD j 0).toNat z38 = B.getD (L.getD j 0).toNat z38 := by
  have sub : ∀ k, Vs D' n k → Vs D n k := fun k hk => ⟨hk.1, ((hD k hk.1).1 hk.2).1⟩
  have vj := sub j hj
  have qj := ((hD j hj.1).1 hj.2).2
  refine ⟨vj, qj, ?_⟩
  have d := h.dark j vj
  have d' := h'.dark j hj
  obtain ⟨c, hc⟩ := Int.eq_ofNat_of_zero_le d.1
  obtain ⟨c', hc'⟩ := Int.eq_ofNat_of_zero_le d'.1
  have b := h.blob c (by omega)
  have b' := h'.blob c' (by omega)
  rw [hc, hc', Int.toNat_natCast, Int.toNat_natCast]
  refine b'.unique (b.congr fun k => ?_)
  constructor
  · rintro ⟨k1, k2⟩
    have ck := (h.conn j k vj k1).1 (by omega)
    -- the way lies in the lesser set
    have ck' : Conn (Vs D' n) (Adj w e) j k := by
      refine (ck.closed (S := fun x => Conn (Vs D' n) (Adj w e) j x ∧ Conn (Vs D n) (Adj w e) j x) ?_ ⟨.refl hj, .refl vj⟩).1
      rintro x y ⟨x1, x2⟩ vx vy r
      have cy := x2.trans (Conn.one vx r vy)
      have ey := (h.conn j y vj vy).2 cy
      have hy : Vs D' n y := ⟨vy.1, (hD y vy.1).2 ⟨vy.2, by rw [← ey]; exact qj⟩⟩
      exact ⟨x1.trans (Conn.one x1.right r hy), cy⟩
    have := (h'.conn j k hj ck'.right).2 ck'
    exact ⟨ck'.right, by omega⟩
  · rintro ⟨k1, k2⟩
    have ck := (h'.conn j k hj k1).1 (by omega)
    have := (h.conn j k vj (sub k k1)).2 (ck.mono sub)
    exact ⟨sub k k1, by omega⟩
theorem Dk_map (n : Nat) (f : Nat → Bool) (j : Nat) (hj : j < n) : Dk ((List.range n).map f) j = f j := by
  unfold Dk
  rw [List.getD_eq_getElem?_getD, List.getElem?_map, List.getElem?_range hj]
  rfl
theorem map_eq (l : List Bool) (f : Nat → Bool) (h : ∀ j, j < l.length → f j = Dk l j) : (List.range l.length).map f = l := by
  apply List.ext_getElem (by simp)
  intro j h1 h2
  rw [List.getElem_map, List.getElem_range, h j h2]
  unfold Dk
  rw [List.getD_eq_getElem?_getD, List.getElem?_eq_getElem h2]
  rfl
section
variable {w h : Nat} {l : List Bool}
/-- a filled bitmap has no hole -/
theorem fill_again {L L' : List Int} {B B' : List S38} (Sp : Spec w false l.length (fun j => !Dk l j) L B) (a : List Bool) (ha : a = (List.range l.length).map (fillF l L (hz w h B)))
    (Sp' : Spec w false a.length (fun j => !Dk a j) L' B') : (∀ c, c < B'.length → holeP w h B' c = false) ∧ (List.range a.length).map (fillF a L' (hz w h B')) = a := by
  have al : a.length = l.length := by rw [ha]; simp
  rw [al] at Sp'
  have Da : ∀ j, j < l.length → Dk a j = fillF l L (hz w h B) j := fun j hj => by rw [ha]; exact Dk_map _ _ j hj
  have K := Sp.kept Sp' (fun c => !holeP w h B c) (fun j hj => by
    rw [Da j hj]
    unfold fillF
    cases hk : Dk l j with
    | true => simp
    | false =>
      have d := Sp.dark j ⟨hj, by simp [hk]⟩
      rw [if_neg (by simp), if_pos d.1, hz_get _ _ _ _ (by omega)]
      simp [holeP])
  have nh : ∀ c, c < B'.length → holeP w h B' c = false := by
    intro c hc
    obtain ⟨f, f1, _⟩ := (Sp'.blob c hc).first
    obtain ⟨k1, k2, k3⟩ := K f f1.1
    rw [f1.2, Int.toNat_natCast] at k3
    unfold holeP at k2 ⊢
    rw [k3]
    simpa using k2
  refine ⟨nh, map_eq a _ fun j hj => ?_⟩
  unfold fillF
  cases hk : Dk a j with
  | true => simp
  | false =>
    have d := Sp'.dark j ⟨by omega, by simp [hk]⟩
    rw [if_neg (by simp), if_pos d.1, hz_get _ _ _ _ (by omega)]
    exact nh _ (by omega)
/-- what is despeckled stays -/
theorem desp_again {L L' : List Int} {B B' : List S38} (a : Int) (Sp : Spec w true l.length (Dk l) L B) (c : List Bool) (hc : c = (List.range l.length).map (dspF L B a))
    (Sp' : Spec w true c.length (Dk c) L' B') : (List.range c.length).map (dspF L' B' a) = c := by
  have cl : c.length = l.length := by rw [hc]; simp
  rw [cl] at Sp'
  have Dc : ∀ j, j < l.length → Dk c j = dspF L B a j := fun j hj => by rw [hc]; exact Dk_map _ _ j hj
  have K := Sp.kept Sp' (fun k => decide ((B.getD k z38).f1 ≥ a)) (fun j hj => by
    rw [Dc j hj]
    unfold dspF
    cases hk : Dk l j with
    | true =>
      have d := Sp.dark j ⟨hj, hk⟩
      rw [if_pos d.1]; simp
    | false =>
      rw [Sp.light j hj hk]; simp)
  refine map_eq c _ fun j hj => ?_
  unfold dspF
  cases hk : Dk c j with
  | true =>
    have vj : Vs (Dk c) l.length j := ⟨by omega, hk⟩
    obtain ⟨k1, k2, k3⟩ := K j vj
    have d := Sp'.dark j vj
    rw [if_pos d.1, k3]
    simpa using k2
  | false =>
    rw [Sp'.light j (by omega) hk]; simp
end
theorem cnt_none (p : Nat → Bool) (n : Nat) (h : ∀ c, c < n → p c = false) : cnt p n = 0 := by
  induction n with
  | zero => rfl
  | succ n ih => simp only [cnt]; rw [ih (fun c hc => h c (by omega)), h n (by omega)]; rfl
end Go.Proofs.Ytahibhipffojlaa.P
