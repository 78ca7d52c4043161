/- Holes; the results of Despeckle and Fill, told by the labels and the blobs. -/
import Derived.Test.YtahibhipffojlaaPLd
import Derived.Test.YtahibhipffojlaaP0
import Derived.Test.YtahibhipffojlaaMx3
import Derived.Test.YtahibhipffojlaaMx5
set_option linter.unusedSimpArgs false
set_option linter.unusedVariables false
namespace Go.Proofs.Ytahibhipffojlaa.P
open Go.RowKit Go.Proofs.YtahibhipffojlaaW.PrintWords Go.Proofs.YtahibhipffojlaaW.PrintMore Go.Proofs.Ytahibhipffojlaa.M Go.Proofs.Ytahibhipffojlaa.Topo Go.Proofs.Ytahibhipffojlaa.Uf

theorem Spec.congrD {w n : Nat} {e : Bool} {D D' : Nat → Bool} {L : List Int} {B : List S38} (h : Spec w e n D L B) (hD : ∀ j, j < n → D j = D' j) : Spec w e n D' L B := by
  have hv : Vs D n = Vs D' n := funext fun j => propext ⟨fun k => ⟨k.1, by rw [← hD j k.1]; exact k.2⟩, fun k => ⟨k.1, by rw [hD j k.1]; exact k.2⟩⟩
  refine ⟨h.len, fun j hj hd => h.light j hj (by rw [hD j hj]; exact hd), ?_, ?_, ?_, ?_⟩
  · rw [← hv]; exact h.dark
  · rw [← hv]; exact h.conn
  · rw [← hv]; exact h.blob
  · rw [← hv]; exact h.order
/-- no more blobs than pixels -/
theorem Spec.few {w n : Nat} {e : Bool} {D : Nat → Bool} {L : List Int} {B : List S38} (h : Spec w e n D L B) : B.length ≤ n := by
  have g : ∀ c : Nat, ∃ j, c < B.length → j < n ∧ L.getD j 0 = (c : Int) := by
    intro c
    by_cases hc : c < B.length
    · obtain ⟨f, f1, _⟩ := (h.blob c hc).first
      exact ⟨f, fun _ => ⟨f1.1.1, f1.2⟩⟩
    · exact ⟨0, fun q => absurd q hc⟩
  have nd : ((List.range B.length).map fun c => (g c).choose).Nodup := by
    rw [List.Nodup, List.pairwise_map]
    refine List.nodup_range.imp_of_mem fun {a b} ha hb hne e0 => hne ?_
    have a1 := ((g a).choose_spec (List.mem_range.1 ha)).2
    have b1 := ((g b).choose_spec (List.mem_range.1 hb)).2
    rw [e0] at a1
    omega
  have := nd.length_le_of_subset (l₂ := List.range n) (fun x hx => by
    obtain ⟨c, hc, rfl⟩ := List.mem_map.1 hx
    exact List.mem_range.2 ((g c).choose_spec (List.mem_range.1 hc)).1)
  simpa using this
/-- the light parts -/
theorem light_lab (w h : Nat) (l : List Bool) (hw : 0 < w) (hw2 : w ≤ 4096) (hh : 0 < h) (hh2 : h ≤ 4096) (hwh : l.length = w * h) :
    ∃ L B, label.f (l.map fun d => !d) (w : Int) false = some (L, B) ∧ Spec w false l.length (fun j => !Dk l j) L B := by
  obtain ⟨L, B, h1, h2⟩ := label_spec w h (l.map fun d => !d) false hw hw2 hh hh2 (by rw [List.length_map]; exact hwh)
  rw [List.length_map] at h2
  have h5 := h2.congrD (D' := fun j => !Dk l j) (fun j hj => by
    unfold Dk
    rw [List.getD_eq_getElem?_getD, List.getElem?_map, List.getElem?_eq_getElem hj, List.getD_eq_getElem?_getD, List.getElem?_eq_getElem hj]
    rfl)
  exact ⟨L, B, h1, h5⟩

/-- a blob's box lies in the bitmap -/
theorem Blob.box {w h n : Nat} {S : Nat → Prop} {b : S38} (k : Blob w S b) (hS : ∀ j, S j → j < n) (hw : 0 < w) (hn : n = w * h) :
    0 ≤ b.f0.f0 ∧ b.f0.f0 + b.f0.f2 ≤ w ∧ 0 ≤ b.f0.f1 ∧ b.f0.f1 + b.f0.f3 ≤ h ∧ 1 ≤ b.f0.f2 ∧ 1 ≤ b.f0.f3 := by
  obtain ⟨j1, p1, q1⟩ := k.x0'
  obtain ⟨j3, p3, q3⟩ := k.x1'
  obtain ⟨j5, p5, q5⟩ := k.y0'
  obtain ⟨j7, p7, q7⟩ := k.y1'
  have a1 := k.x1 j1 p1
  have a5 := k.y1 j5 p5
  have m3 := Nat.mod_lt j3 hw
  have d7 : j7 / w < h := (Nat.div_lt_iff_lt_mul hw).2 (by rw [Nat.mul_comm, ← hn]; exact hS j7 p7)
  have n1 := Int.natCast_nonneg (j1 % w)
  have n5 := Int.natCast_nonneg (j5 / w)
  generalize j1 % w = u1 at *
  generalize j3 % w = u3 at *
  generalize j5 / w = u5 at *
  generalize j7 / w = u7 at *
  omega
def holeB (W H : Int) (b : S38) : Bool := decide (0 < b.f0.f0 ∧ 0 < b.f0.f1 ∧ b.f0.f0 + b.f0.f2 < W ∧ b.f0.f1 + b.f0.f3 < H)
theorem rdT (B : List S38) (c : Nat) : rd_T38 B (c : Int) = B.getD c z38 := by unfold rd_T38; rw [Int.toNat_natCast]
theorem set_take {α : Type} (f : Nat → α) (z : α) (n t : Nat) (ht : t < n) : (((List.range t).map f) ++ List.replicate (n - t) z).set t (f t) = ((List.range (t + 1)).map f) ++ List.replicate (n - (t + 1)) z := by
  rw [List.set_append_right _ _ (by simp), List.length_map, List.length_range, Nat.sub_self]
  rw [show n - t = (n - (t + 1)) + 1 from by omega, List.replicate_succ, List.set_cons_zero, List.range_succ, List.map_append]
  simp
theorem holes_l1 (W H : Int) (l : List Bool) (L : List Int) (B : List S38) (hb : ∀ c, c < B.length → 0 ≤ (B.getD c z38).f0.f0 ∧ (B.getD c z38).f0.f0 + (B.getD c z38).f0.f2 ≤ W ∧ 0 ≤ (B.getD c z38).f0.f1 ∧ (B.getD c z38).f0.f1 + (B.getD c z38).f0.f3 ≤ H ∧ 1 ≤ (B.getD c z38).f0.f2 ∧ 1 ≤ (B.getD c z38).f0.f3) (hW : W ≤ 4096) (hH : H ≤ 4096) (hB : B.length ≤ 100000000) :
    ∀ (m t K : Nat), t + m = B.length → m < K →
      components_holes.l1 K L (((List.range t).map fun c => holeB W H (B.getD c z38)) ++ List.replicate (B.length - t) false) B (B.length : Int) (t : Int) W H l = some (L, (List.range B.length).map fun c => holeB W H (B.getD c z38)) := by
  intro m
  induction m with
  | zero =>
    intro t K ht hK
    obtain ⟨K, rfl⟩ : ∃ K', K = K' + 1 := ⟨K - 1, by omega⟩
    obtain rfl : t = B.length := by omega
    rw [components_holes.l1, if_neg (by omega), Nat.sub_self, List.replicate_zero, List.append_nil]
  | succ m ih =>
    intro t K ht hK
    obtain ⟨K, rfl⟩ : ∃ K', K = K' + 1 := ⟨K - 1, by omega⟩
    have hbt := hb t (by omega)
    have hlen : ((List.map (fun c => holeB W H (B.getD c z38)) (List.range t) ++ List.replicate (B.length - t) false).length : Int) = (B.length : Int) := by
      rw [List.length_append, List.length_map, List.length_range, List.length_replicate]; omega
    have st := set_take (fun c => holeB W H (B.getD c z38)) false B.length t (by omega)
    have nx := ih (t + 1) K (by omega) (by omega)
    rw [components_holes.l1, if_pos (by omega), if_pos (by omega), if_pos (by omega), rdT, hlen, Int.toNat_natCast, wrap_next (show t < 1000000000 by omega)]
    have q1 : wrap64 ((B.getD t z38).f0.f0 + (B.getD t z38).f0.f2) = (B.getD t z38).f0.f0 + (B.getD t z38).f0.f2 := w64 (by omega)
    have q2 : wrap64 ((B.getD t z38).f0.f1 + (B.getD t z38).f0.f3) = (B.getD t z38).f0.f1 + (B.getD t z38).f0.f3 := w64 (by clear q1; omega)
    rw [q1, q2]
    clear q1 q2
    have go : ∀ b : Bool, b = holeB W H (B.getD t z38) → components_holes.l1 K L ((((List.range t).map fun c => holeB W H (B.getD c z38)) ++ List.replicate (B.length - t) false).set t b) B (B.length : Int) ((t + 1 : Nat) : Int) W H l = some (L, (List.range B.length).map fun c => holeB W H (B.getD c z38)) := by
      intro b hb
      rw [hb, st]
      exact nx
    have htB : (t : Int) < (B.length : Int) := by omega
    by_cases c1 : (B.getD t z38).f0.f0 > 0
    · by_cases c2 : (B.getD t z38).f0.f1 > 0
      · by_cases c3 : (B.getD t z38).f0.f0 + (B.getD t z38).f0.f2 < W
        · rw [if_pos c1, if_pos c2, if_pos c3, if_pos htB]
          exact go _ (by unfold holeB; rw [decide_eq_decide]; omega)
        · rw [if_pos c1, if_pos c2, if_neg c3, if_pos htB]
          exact go _ (by unfold holeB; rw [decide_eq_false (by omega)])
      · rw [if_pos c1, if_neg c2, if_pos htB]
        exact go _ (by unfold holeB; rw [decide_eq_false (by omega)])
    · rw [if_neg c1, if_pos htB]
      exact go _ (by unfold holeB; rw [decide_eq_false (by omega)])
theorem holes_l0 (W H : Int) (l : List Bool) (hl : l.length ≤ 100000000) : ∀ (m t K : Nat), t + m = l.length → m < K →
    components_holes.l0 K (((List.range t).map fun j => !Dk l j) ++ List.replicate (l.length - t) false) l (l.length : Int) (t : Int) W H l =
      ((label.f (l.map fun d => !d) W false).bind fun bt => (if 0 ≤ (bt.2.length : Int) then (if ((bt.2.length : Int) : Int).toNat ≤ 281474976710656 then (components_holes.l1 (K - m - 1) bt.1 (List.replicate ((bt.2.length : Int) : Int).toNat false) bt.2 (bt.2.length : Int) 0 W H l) else (none)) else (none))) := by
  intro m
  induction m with
  | zero =>
    intro t K ht hK
    obtain ⟨K, rfl⟩ : ∃ K', K = K' + 1 := ⟨K - 1, by omega⟩
    obtain rfl : t = l.length := by omega
    have e : (List.range l.length).map (fun j => !Dk l j) ++ List.replicate (l.length - l.length) false = l.map fun d => !d := by
      rw [Nat.sub_self, List.replicate_zero, List.append_nil]
      apply List.ext_getElem (by simp)
      intro j h1 h2
      simp at h1
      simp [Dk, List.getD_eq_getElem?_getD, List.getElem?_eq_getElem h1]
    rw [components_holes.l0, if_neg (by omega), e, show K + 1 - 0 - 1 = K from by omega]
  | succ m ih =>
    intro t K ht hK
    obtain ⟨K, rfl⟩ : ∃ K', K = K' + 1 := ⟨K - 1, by omega⟩
    have hlen : (((List.range t).map (fun j => !Dk l j) ++ List.replicate (l.length - t) false).length : Int) = (l.length : Int) := by
      rw [List.length_append, List.length_map, List.length_range, List.length_replicate]; omega
    have st := set_take (fun j => !Dk l j) false l.length t (by omega)
    have e2 : rdOf false l (t : Int) = Dk l t := by unfold rdOf Dk; rw [Int.toNat_natCast]
    have nx := ih (t + 1) K (by omega) (by omega)
    rw [components_holes.l0, if_pos (by omega), if_pos (by omega), if_pos (by omega), hlen, if_pos (by omega), e2, Int.toNat_natCast, wrap_next (show t < 1000000000 by omega), st, nx, show K + 1 - (m + 1) - 1 = K - m - 1 from by omega]
/-- sides of a valid bitmap, as natural numbers -/
theorem Vd.nat' {W H : Int} {l : List Bool} (v : Vd W H l) : ∃ w h : Nat, W = (w : Int) ∧ H = (h : Int) ∧ 0 < w ∧ w ≤ 4096 ∧ 0 < h ∧ h ≤ 4096 ∧ l.length = w * h := by
  have v1 := v.w1; have v2 := v.w2; have v3 := v.h1; have v4 := v.h2; have v5 := v.len
  obtain ⟨w, rfl⟩ := Int.eq_ofNat_of_zero_le (show 0 ≤ W by omega)
  obtain ⟨h, rfl⟩ := Int.eq_ofNat_of_zero_le (show 0 ≤ H by omega)
  refine ⟨w, h, rfl, rfl, by omega, by omega, by omega, by omega, ?_⟩
  exact Int.ofNat.inj (by rw [← Int.natCast_mul] at v5; exact v5)
def hz (W H : Int) (B : List S38) : List Bool := (List.range B.length).map fun c => holeB W H (B.getD c z38)
theorem hz_len (W H : Int) (B : List S38) : (hz W H B).length = B.length := by simp [hz]
theorem hz_get (W H : Int) (B : List S38) (c : Nat) (hc : c < B.length) : (hz W H B).getD c false = holeB W H (B.getD c z38) := by
  unfold hz
  rw [List.getD_eq_getElem?_getD, List.getElem?_map, List.getElem?_range hc]
  rfl
/-- the program's holes -/
theorem holes_f (w h : Nat) (l : List Bool) (hw : 0 < w) (hw2 : w ≤ 4096) (hh : 0 < h) (hh2 : h ≤ 4096) (hwh : l.length = w * h) (K : Nat) (hK : l.length * 2 + 10 ≤ K) (hs : l.length ≤ 100000000) :
    ∃ L B, components_holes.f K (w : Int) (h : Int) l = some (L, hz w h B) ∧ Spec w false l.length (fun j => !Dk l j) L B ∧ B.length ≤ l.length := by
  obtain ⟨L, B, h1, h3⟩ := light_lab w h l hw hw2 hh hh2 hwh
  have hB : B.length ≤ l.length := h3.few
  refine ⟨L, B, ?_, h3, hB⟩
  unfold components_holes.f
  have h0 := holes_l0 (w : Int) (h : Int) l (by omega) l.length 0 K (by omega) (by omega)
  rw [show ((0 : Nat) : Int) = 0 from rfl, List.range_zero, List.map_nil, List.nil_append, Nat.sub_zero] at h0
  rw [if_pos (by omega), if_pos (by omega), Int.toNat_natCast, h0, h1, Option.bind_some]
  dsimp only
  rw [if_pos (by omega), Int.toNat_natCast, if_pos (by omega)]
  have hb := fun c hc => (h3.blob c hc).box (n := l.length) (fun j hj => hj.1.1) hw hwh
  have := holes_l1 (w : Int) (h : Int) l L B hb (by omega) (by omega) (by omega) B.length 0 (K - l.length - 1) (by omega) (by omega)
  rw [show ((0 : Nat) : Int) = 0 from rfl, List.range_zero, List.map_nil, List.nil_append, Nat.sub_zero] at this
  exact this

/-! the loops' results -/
def dspF (L : List Int) (B : List S38) (a : Int) (j : Nat) : Bool := if L.getD j 0 ≥ 0 then decide ((B.getD (L.getD j 0).toNat z38).f1 ≥ a) else false
theorem rdN (x : List Int) (t : Nat) : rd x (t : Int) = x.getD t 0 := by unfold rd; rw [Int.toNat_natCast]
theorem rdB (x : List Bool) (t : Nat) : rdOf false x (t : Int) = Dk x t := by unfold rdOf Dk; rw [Int.toNat_natCast]
theorem dsp_c (a : Int) (L : List Int) (B : List S38) (W H : Int) (n : Nat) (hn : L.length = n) (hbig : n ≤ 100000000) (hL : ∀ j, j < n → L.getD j 0 < (B.length : Int)) :
    ∀ (m t K : Nat), t + m = n → m < K →
      components_Despeckle.l0 K a B L (n : Int) (t : Int) W H ((List.range t).map (dspF L B a) ++ List.replicate (n - t) false) = some (W, H, (List.range n).map (dspF L B a), 0) := by
  intro m
  induction m with
  | zero =>
    intro t K ht hK
    obtain ⟨K, rfl⟩ : ∃ K', K = K' + 1 := ⟨K - 1, by omega⟩
    obtain rfl : t = n := by omega
    rw [components_Despeckle.l0, if_neg (by omega), Nat.sub_self, List.replicate_zero, List.append_nil]
  | succ m ih =>
    intro t K ht hK
    obtain ⟨K, rfl⟩ : ∃ K', K = K' + 1 := ⟨K - 1, by omega⟩
    have hlen : (((List.range t).map (dspF L B a) ++ List.replicate (n - t) false).length : Int) = (n : Int) := by
      rw [List.length_append, List.length_map, List.length_range, List.length_replicate]; omega
    have st := set_take (dspF L B a) false n t (by omega)
    have nx := ih (t + 1) K (by omega) (by omega)
    have hl := hL t (by omega)
    have htn : (t : Int) < (n : Int) := by omega
    have go : ∀ b : Bool, b = dspF L B a t → components_Despeckle.l0 K a B L (n : Int) ((t + 1 : Nat) : Int) W H (((List.range t).map (dspF L B a) ++ List.replicate (n - t) false).set t b) = some (W, H, (List.range n).map (dspF L B a), 0) := by
      intro b hb
      rw [hb, st]
      exact nx
    rw [components_Despeckle.l0, if_pos htn, if_pos (by omega), if_pos (by omega), rdN, hlen, Int.toNat_natCast, wrap_next (show t < 1000000000 by omega)]
    by_cases c : L.getD t 0 ≥ 0
    · rw [if_pos c, if_pos c, if_pos hl, if_pos htn]
      exact go _ (by unfold dspF; rw [if_pos c]; rfl)
    · rw [if_neg c, if_pos htn]
      exact go _ (by unfold dspF; rw [if_neg c])
theorem snoc {α : Type} (f : Nat → α) (t : Nat) : (List.range t).map f ++ [f t] = (List.range (t + 1)).map f := by rw [List.range_succ, List.map_append]; rfl
def fillF (l : List Bool) (L : List Int) (Z : List Bool) (j : Nat) : Bool := if Dk l j = true then true else if L.getD j 0 ≥ 0 then Z.getD (L.getD j 0).toNat false else false
theorem drop_next (l : List Bool) (t : Nat) (ht : t < l.length) : l.drop t = Dk l t :: l.drop (t + 1) := by
  rw [List.drop_eq_getElem_cons ht]
  unfold Dk
  rw [List.getD_eq_getElem?_getD, List.getElem?_eq_getElem ht]
  rfl
theorem fill_c (L : List Int) (Z : List Bool) (W H : Int) (l : List Bool) (hn : L.length = l.length) (hbig : l.length ≤ 100000000) (hL : ∀ j, j < l.length → L.getD j 0 < (Z.length : Int)) :
    ∀ (m t K : Nat), t + m = l.length → m < K →
      components_Fill.l0 K Z L (l.length : Int) (t : Int) W H ((List.range t).map (fillF l L Z) ++ l.drop t) = some (W, H, (List.range l.length).map (fillF l L Z), 0) := by
  intro m
  induction m with
  | zero =>
    intro t K ht hK
    obtain ⟨K, rfl⟩ : ∃ K', K = K' + 1 := ⟨K - 1, by omega⟩
    obtain rfl : t = l.length := by omega
    rw [components_Fill.l0, if_neg (by omega), List.drop_length, List.append_nil]
  | succ m ih =>
    intro t K ht hK
    obtain ⟨K, rfl⟩ : ∃ K', K = K' + 1 := ⟨K - 1, by omega⟩
    have hlen : (((List.range t).map (fillF l L Z) ++ l.drop t).length : Int) = (l.length : Int) := by
      rw [List.length_append, List.length_map, List.length_range, List.length_drop]; omega
    have nx := ih (t + 1) K (by omega) (by omega)
    have hl := hL t (by omega)
    have htn : (t : Int) < (l.length : Int) := by omega
    have go : ∀ b : Bool, b = fillF l L Z t → components_Fill.l0 K Z L (l.length : Int) ((t + 1 : Nat) : Int) W H (((List.range t).map (fillF l L Z) ++ l.drop t).set t b) = some (W, H, (List.range l.length).map (fillF l L Z), 0) := by
      intro b hb
      rw [hb, List.set_append_right _ _ (by simp), List.length_map, List.length_range, Nat.sub_self, drop_next l t (by omega), List.set_cons_zero, List.append_cons, snoc]
      exact nx
    have stay : Dk l t = fillF l L Z t → components_Fill.l0 K Z L (l.length : Int) ((t + 1 : Nat) : Int) W H ((List.range t).map (fillF l L Z) ++ l.drop t) = some (W, H, (List.range l.length).map (fillF l L Z), 0) := by
      intro hb
      rw [drop_next l t (by omega), hb, List.append_cons, snoc]
      exact nx
    rw [components_Fill.l0, if_pos htn, if_pos (by omega), if_pos (by omega), rdN, hlen, Int.toNat_natCast, wrap_next (show t < 1000000000 by omega)]
    have eZ : rdOf false Z (L.getD t 0) = Z.getD (L.getD t 0).toNat false := rfl
    by_cases c : L.getD t 0 ≥ 0
    · rw [if_pos c, if_pos c, if_pos hl, eZ]
      by_cases d : Z.getD (L.getD t 0).toNat false = true
      · rw [if_pos d, if_pos htn]
        exact go _ (by unfold fillF; rw [if_pos c, d]; split <;> rfl)
      · rw [if_neg d]
        exact stay (by unfold fillF; rw [if_pos c]; cases hk : Dk l t <;> simp_all)
    · rw [if_neg c]
      exact stay (by unfold fillF; rw [if_neg c]; cases hk : Dk l t <;> simp_all)

/-- Despeckle at a valid bitmap -/
theorem desp_prog (w h : Nat) (l : List Bool) (hw : 0 < w) (hw2 : w ≤ 4096) (hh : 0 < h) (hh2 : h ≤ 4096) (hwh : l.length = w * h) (hs : (w : Int) * h ≤ 4194304) (a : Int) (ha : 0 ≤ a) (K : Nat) (hK : l.length + 1 ≤ K) :
    ∃ L B, Spec w true l.length (Dk l) L B ∧ components_Despeckle.f K (w : Int) (h : Int) l a = some (if B.length ≤ 65536 then ((w : Int), (h : Int), (List.range l.length).map (dspF L B a), 0) else (0, 0, [], 4)) := by
  have hb : l.length ≤ 4194304 := by rw [← Int.natCast_mul] at hs; omega
  have v : Vd (w : Int) (h : Int) l := ⟨by omega, by omega, by omega, by omega, hs, by rw [hwh]; exact Int.natCast_mul w h⟩
  obtain ⟨L, B, h1, h3⟩ := label_spec w h l true hw hw2 hh hh2 hwh
  have hB := h3.few
  refine ⟨L, B, h3, ?_⟩
  unfold components_Despeckle.f components_Label.f
  rw [check1 v, Option.bind_some, if_pos rfl, if_neg (by omega), Option.bind_some, if_pos rfl, h1, Option.bind_some]
  dsimp only
  by_cases q : B.length ≤ 65536
  · rw [if_neg (by omega), if_pos q, Option.bind_some]
    dsimp only
    rw [if_pos rfl, if_pos (by omega), Int.toNat_natCast, if_pos (by omega), h3.len]
    have hlt : ∀ j, j < l.length → L.getD j 0 < (B.length : Int) := by
      intro j hj
      cases hk : Dk l j with
      | false => rw [h3.light j hj hk]; omega
      | true => exact (h3.dark j ⟨hj, hk⟩).2
    have c1 := dsp_c a L B (w : Int) (h : Int) l.length h3.len (by omega) hlt l.length 0 K (by omega) (by omega)
    rw [show ((0 : Nat) : Int) = 0 from rfl, List.range_zero, List.map_nil, List.nil_append, Nat.sub_zero] at c1
    exact c1
  · rw [if_pos (by omega), if_neg q, Option.bind_some]
    dsimp only
    rw [if_neg (by decide)]
/-- Fill at a valid bitmap -/
theorem fill_prog (w h : Nat) (l : List Bool) (hw : 0 < w) (hw2 : w ≤ 4096) (hh : 0 < h) (hh2 : h ≤ 4096) (hwh : l.length = w * h) (hs : (w : Int) * h ≤ 4194304) (K : Nat) (hK : l.length * 2 + 10 ≤ K) :
    ∃ L B, Spec w false l.length (fun j => !Dk l j) L B ∧ components_Fill.f K (w : Int) (h : Int) l = some ((w : Int), (h : Int), (List.range l.length).map (fillF l L (hz w h B)), 0) := by
  have hb : l.length ≤ 4194304 := by rw [← Int.natCast_mul] at hs; omega
  have v : Vd (w : Int) (h : Int) l := ⟨by omega, by omega, by omega, by omega, hs, by rw [hwh]; exact Int.natCast_mul w h⟩
  obtain ⟨L, B, h1, h3, hB⟩ := holes_f w h l hw hw2 hh hh2 hwh K (by omega) (by omega)
  refine ⟨L, B, h3, ?_⟩
  unfold components_Fill.f
  rw [check1 v, Option.bind_some, if_pos rfl, h1, Option.bind_some]
  unfold cloneB.f
  rw [if_pos (by omega), Option.bind_some]
  dsimp only
  rw [h3.len]
  have hlt : ∀ j, j < l.length → L.getD j 0 < ((hz w h B).length : Int) := by
    intro j hj
    rw [hz_len]
    cases hk : Dk l j with
    | true => rw [h3.light j hj (by simp [hk])]; omega
    | false => exact (h3.dark j ⟨hj, by simp [hk]⟩).2
  have c1 := fill_c L (hz w h B) (w : Int) (h : Int) l h3.len (by omega) hlt l.length 0 K (by omega) (by omega)
  rw [show ((0 : Nat) : Int) = 0 from rfl, List.range_zero, List.map_nil, List.nil_append, List.drop_zero] at c1
  exact c1
end Go.Proofs.Ytahibhipffojlaa.P
