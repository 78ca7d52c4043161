/- The parts of a picture under a change of place: turned, mirrored, enlarged. -/
import Derived.Test.YtahibhipffojlaaPLoc
import Derived.Test.YtahibhipffojlaaPIdem
set_option linter.unusedSimpArgs false
set_option linter.unusedVariables false
namespace Go.Proofs.Ytahibhipffojlaa.P
open Go.RowKit Go.Proofs.YtahibhipffojlaaW.PrintWords Go.Proofs.YtahibhipffojlaaW.PrintMore Go.Proofs.Ytahibhipffojlaa.M Go.Proofs.Ytahibhipffojlaa.Topo

theorem place {w h x y : Nat} (hx : x < w) (hy : y < h) : w * y + x < w * h ∧ (w * y + x) % w = x ∧ (w * y + x) / w = y := by
  obtain ⟨h1, h2⟩ := at_xy (w := w) (x := x) (y := y) hx
  have : w * (y + 1) ≤ w * h := Nat.mul_le_mul_left w hy
  rw [Nat.mul_succ] at this
  exact ⟨by omega, h1, h2⟩
theorem flat_len (g : Nat → List Nat) (m : Nat) (ps : List Nat) (h : ∀ j, j ∈ ps → (g j).length = m) : (ps.flatMap g).length = m * ps.length := by
  induction ps with
  | nil => rfl
  | cons a t ih =>
    rw [List.flatMap_cons, List.length_append, h a (by simp), ih (fun j hj => h j (by simp [hj])), List.length_cons, Nat.mul_succ]
    omega
theorem map_range (B : List S38) (F : S38 → Int) : B.map F = (List.range B.length).map fun c => F (B.getD c z38) := by
  apply List.ext_getElem (by simp)
  intro j h1 h2
  simp at h1
  rw [List.getElem_map, List.getElem_map, List.getElem_range, List.getD_eq_getElem?_getD, List.getElem?_eq_getElem h1]
  rfl
open Classical in
/-- areas under a map of the pixels that keeps what is joined: each pixel has m forms -/
theorem areas_map {w n w' n' m : Nat} {D D' : Nat → Bool} {L L' : List Int} {B B' : List S38} (Sp : Spec w true n D L B) (Sp' : Spec w' true n' D' L' B')
    (φ : Nat → Nat) (g : Nat → List Nat) (hm : 0 < m) (hφ : ∀ k, Vs D' n' k → Vs D n (φ k))
    (hg : ∀ j, Vs D n j → (g j).length = m ∧ (g j).Nodup ∧ ∀ k, k ∈ g j ↔ (Vs D' n' k ∧ φ k = j))
    (hc : ∀ j k, Vs D' n' j → Vs D' n' k → (Conn (Vs D' n') (Adj w' true) j k ↔ Conn (Vs D n) (Adj w true) (φ j) (φ k))) :
    (B'.map fun b => b.f1).Perm (B.map fun b => (m : Int) * b.f1) := by
  have ex : ∀ c, ∃ k, c < B.length → (Vs D' n' k ∧ L.getD (φ k) 0 = (c : Int)) := by
    intro c
    by_cases hcB : c < B.length
    · obtain ⟨f, f1, _⟩ := (Sp.blob c hcB).first
      obtain ⟨g1, g2, g3⟩ := hg f f1.1
      cases hl : g f with
      | nil => rw [hl] at g1; simp at g1; omega
      | cons k t =>
        have := (g3 k).1 (by rw [hl]; simp)
        exact ⟨k, fun _ => ⟨this.1, by rw [this.2]; exact f1.2⟩⟩
    · exact ⟨0, fun q => absurd q hcB⟩
  have kc := fun c => Classical.choose_spec (ex c)
  generalize (fun c => Classical.choose (ex c)) = kf at *
  obtain ⟨kf, kc⟩ : ∃ kf : Nat → Nat, ∀ c, c < B.length → (Vs D' n' (kf c) ∧ L.getD (φ (kf c)) 0 = (c : Int)) := ⟨fun c => Classical.choose (ex c), fun c => Classical.choose_spec (ex c)⟩
  let σ : Nat → Nat := fun c => (L'.getD (kf c) 0).toNat
  -- a pixel has the label of the new part when its old form had the old one
  have same : ∀ c, c < B.length → ∀ k, Vs D' n' k → (L'.getD k 0 = (σ c : Int) ↔ L.getD (φ k) 0 = (c : Int)) := by
    intro c hcB k hk
    obtain ⟨v1, v2⟩ := kc c hcB
    have d := Sp'.dark _ v1
    have e : ((σ c : Nat) : Int) = L'.getD (kf c) 0 := by
      show (((L'.getD (kf c) 0).toNat : Nat) : Int) = _
      omega
    rw [e, Sp'.conn k (kf c) hk v1, hc k (kf c) hk v1, ← Sp.conn _ _ (hφ k hk) (hφ _ v1), v2]
  have σlt : ∀ c, c < B.length → σ c < B'.length := by
    intro c hcB
    obtain ⟨v1, v2⟩ := kc c hcB
    have d := Sp'.dark _ v1
    show (L'.getD (kf c) 0).toNat < _
    omega
  have lab : ∀ c, c < B.length → L'.getD (kf c) 0 = (σ c : Int) := fun c hcB => (same c hcB _ (kc c hcB).1).2 (kc c hcB).2
  have area : ∀ c, c < B.length → (B'.getD (σ c) z38).f1 = (m : Int) * (B.getD c z38).f1 := by
    intro c hcB
    obtain ⟨ps, p1, p2, p3⟩ := (Sp.blob c hcB).area
    obtain ⟨qs, q1, q2, q3⟩ := (Sp'.blob (σ c) (σlt c hcB)).area
    have vp : ∀ j, j ∈ ps → Vs D n j := fun j hj => ((p2 j).1 hj).1
    have nd : (ps.flatMap g).Nodup := by
      rw [List.Nodup, List.pairwise_flatMap]
      refine ⟨fun j hj => (hg j (vp j hj)).2.1, p1.imp_of_mem fun {a b} ha hb hne x hx y hy => ?_⟩
      rintro rfl
      exact hne ((((hg a (vp a ha)).2.2 x).1 hx).2.symm.trans (((hg b (vp b hb)).2.2 x).1 hy).2)
    have pm : qs.Perm (ps.flatMap g) := by
      rw [List.perm_ext_iff_of_nodup q1 nd]
      intro k
      rw [q2, List.mem_flatMap]
      constructor
      · rintro ⟨k1, k2⟩
        have := (same c hcB k k1).1 k2
        exact ⟨φ k, (p2 _).2 ⟨hφ k k1, this⟩, ((hg _ (hφ k k1)).2.2 k).2 ⟨k1, rfl⟩⟩
      · rintro ⟨j, j1, j2⟩
        obtain ⟨k1, rfl⟩ := ((hg j (vp j j1)).2.2 k).1 j2
        exact ⟨k1, (same c hcB k k1).2 ((p2 _).1 j1).2⟩
    rw [q3, p3, pm.length_eq, flat_len g m ps (fun j hj => (hg j (vp j hj)).1), Int.natCast_mul]
  have pr : ((List.range B.length).map σ).Perm (List.range B'.length) := by
    rw [List.perm_ext_iff_of_nodup ?_ List.nodup_range]
    · intro c'
      rw [List.mem_map, List.mem_range]
      constructor
      · rintro ⟨c, h1, rfl⟩
        exact σlt c (List.mem_range.1 h1)
      · intro h1
        obtain ⟨k, k1, _⟩ := (Sp'.blob c' h1).first
        have d := Sp.dark _ (hφ k k1.1)
        obtain ⟨c, hcc⟩ := Int.eq_ofNat_of_zero_le d.1
        have hcB : c < B.length := by omega
        refine ⟨c, List.mem_range.2 hcB, ?_⟩
        have := (same c hcB k k1.1).2 hcc
        rw [k1.2] at this
        omega
    · rw [List.Nodup, List.pairwise_map]
      refine List.nodup_range.imp_of_mem fun {a b} ha hb hne e => hne ?_
      have ha := List.mem_range.1 ha
      have hb := List.mem_range.1 hb
      have := (same b hb (kf a) (kc a ha).1).1 (by rw [lab a ha, e])
      rw [(kc a ha).2] at this
      omega
  rw [map_range B', map_range B]
  have := (pr.map fun c' => (B'.getD c' z38).f1).symm
  rw [List.map_map] at this
  refine this.trans ?_
  have e : (List.range B.length).map ((fun c' => (B'.getD c' z38).f1) ∘ σ) = (List.range B.length).map fun c => (m : Int) * (B.getD c z38).f1 := List.map_congr_left fun c hc => area c (List.mem_range.1 hc)
  rw [e]

/-! ### areas in order -/
def ins (v : Int) : List Int → List Int
  | [] => [v]
  | a :: r => if a ≤ v then a :: ins v r else v :: a :: r
def isort (l : List Int) : List Int := l.foldl (fun a v => ins v a) []
theorem ins_perm (v : Int) (l : List Int) : (ins v l).Perm (v :: l) := by
  induction l with
  | nil => exact .refl _
  | cons a r ih =>
    unfold ins
    split
    · exact (ih.cons a).trans (.swap _ _ _)
    · exact .refl _
theorem ins_mem (v : Int) (l : List Int) (x : Int) : x ∈ ins v l ↔ (x = v ∨ x ∈ l) := by rw [(ins_perm v l).mem_iff, List.mem_cons]
theorem ins_sorted (v : Int) (l : List Int) (h : l.Pairwise (· ≤ ·)) : (ins v l).Pairwise (· ≤ ·) := by
  induction l with
  | nil => simp [ins]
  | cons a r ih =>
    rw [List.pairwise_cons] at h
    unfold ins
    split
    · rename_i c
      rw [List.pairwise_cons]
      refine ⟨fun x hx => ?_, ih h.2⟩
      rcases (ins_mem v r x).1 hx with rfl | hx
      · exact c
      · exact h.1 x hx
    · rename_i c
      rw [List.pairwise_cons, List.pairwise_cons]
      refine ⟨fun x hx => ?_, h.1, h.2⟩
      rcases List.mem_cons.1 hx with rfl | hx
      · omega
      · have := h.1 x hx; omega
theorem isort_go (l acc : List Int) (h : acc.Pairwise (· ≤ ·)) : (l.foldl (fun a v => ins v a) acc).Perm (acc ++ l) ∧ (l.foldl (fun a v => ins v a) acc).Pairwise (· ≤ ·) := by
  induction l generalizing acc with
  | nil => rw [List.append_nil]; exact ⟨.refl _, h⟩
  | cons v t ih =>
    obtain ⟨h1, h2⟩ := ih (ins v acc) (ins_sorted v acc h)
    refine ⟨h1.trans ?_, h2⟩
    exact ((ins_perm v acc).append_right t).trans List.perm_middle.symm
theorem isort_perm (l : List Int) : (isort l).Perm l := (isort_go l [] List.Pairwise.nil).1
theorem isort_sorted (l : List Int) : (isort l).Pairwise (· ≤ ·) := (isort_go l [] List.Pairwise.nil).2
theorem isort_congr {l l' : List Int} (h : l.Perm l') : isort l = isort l' :=
  List.Perm.eq_of_pairwise (fun a b _ _ h1 h2 => Int.le_antisymm h1 h2) (isort_sorted l) (isort_sorted l') ((isort_perm l).trans (h.trans (isort_perm l').symm))
theorem isort_four (l : List Int) : isort (l.map fun a => 4 * a) = (isort l).map fun a => 4 * a := by
  refine List.Perm.eq_of_pairwise (fun a b _ _ h1 h2 => Int.le_antisymm h1 h2) (isort_sorted _) ?_ ((isort_perm _).trans ((isort_perm l).map _).symm)
  rw [List.pairwise_map]
  exact (isort_sorted l).imp fun {a b} h => by omega

/-! ### pixels one to one -/
theorem areas_iso {w n w' n' : Nat} {D D' : Nat → Bool} {L L' : List Int} {B B' : List S38} (Sp : Spec w true n D L B) (Sp' : Spec w' true n' D' L' B') (φ ψ : Nat → Nat)
    (h1 : ∀ k, k < n' → φ k < n ∧ ψ (φ k) = k) (h2 : ∀ j, j < n → ψ j < n' ∧ φ (ψ j) = j) (hD : ∀ k, k < n' → D' k = D (φ k))
    (hA : ∀ j k, j < n' → k < n' → (Adj w' true j k ↔ Adj w true (φ j) (φ k))) : (B'.map fun b => b.f1).Perm (B.map fun b => b.f1) := by
  have hφ : ∀ k, Vs D' n' k → Vs D n (φ k) := fun k hk => ⟨(h1 k hk.1).1, by rw [← hD k hk.1]; exact hk.2⟩
  have hψ : ∀ j, Vs D n j → Vs D' n' (ψ j) := fun j hj => ⟨(h2 j hj.1).1, by rw [hD _ (h2 j hj.1).1, (h2 j hj.1).2]; exact hj.2⟩
  have r := areas_map (m := 1) Sp Sp' φ (fun j => [ψ j]) (by omega) hφ (fun j hj => ⟨rfl, by simp, fun k => by
    rw [List.mem_singleton]
    constructor
    · rintro rfl
      exact ⟨hψ j hj, (h2 j hj.1).2⟩
    · rintro ⟨k1, rfl⟩
      exact (h1 k k1.1).2.symm⟩) (fun j k hj hk => ⟨fun c => Conn.map φ hφ (fun a b ha hb r => (hA a b ha.1 hb.1).1 r) c, fun c => by
      have := Conn.map (V' := Vs D' n') (R' := Adj w' true) ψ hψ (fun a b ha hb r => (hA _ _ (h2 a ha.1).1 (h2 b hb.1).1).2 (by rw [(h2 a ha.1).2, (h2 b hb.1).2]; exact r)) c
      rw [(h1 j hj.1).2, (h1 k hk.1).2] at this
      exact this⟩)
  have e : (B.map fun b => ((1 : Nat) : Int) * b.f1) = B.map fun b => b.f1 := List.map_congr_left fun b _ => Int.one_mul _
  rw [e] at r
  exact r
/-- enlarged by two -/
theorem areas_big {w h : Nat} {D D' : Nat → Bool} {L L' : List Int} {B B' : List S38} (hw : 0 < w) (Sp : Spec w true (w * h) D L B) (Sp' : Spec (2 * w) true (2 * w * (2 * h)) D' L' B')
    (hD : ∀ k, k < 2 * w * (2 * h) → D' k = D (w * (k / (2 * w) / 2) + k % (2 * w) / 2)) : (B'.map fun b => b.f1).Perm (B.map fun b => ((4 : Nat) : Int) * b.f1) := by
  -- a pixel's place in the great picture and in the small one
  have pl : ∀ X Y, X < 2 * w → Y < 2 * h → 2 * w * Y + X < 2 * w * (2 * h) ∧ (2 * w * Y + X) % (2 * w) = X ∧ (2 * w * Y + X) / (2 * w) = Y := fun X Y hX hY => place hX hY
  have xy : ∀ k, k < 2 * w * (2 * h) → k % (2 * w) < 2 * w ∧ k / (2 * w) < 2 * h ∧ k = 2 * w * (k / (2 * w)) + k % (2 * w) := fun k hk => ⟨Nat.mod_lt _ (by omega), (Nat.div_lt_iff_lt_mul (by omega)).2 (by rw [Nat.mul_comm]; exact hk), (Nat.div_add_mod _ _).symm⟩
  let φ : Nat → Nat := fun k => w * (k / (2 * w) / 2) + k % (2 * w) / 2
  have pφ : ∀ k, k < 2 * w * (2 * h) → φ k < w * h ∧ φ k % w = k % (2 * w) / 2 ∧ φ k / w = k / (2 * w) / 2 := fun k hk => by
    obtain ⟨a, b, _⟩ := xy k hk
    exact place (x := k % (2 * w) / 2) (y := k / (2 * w) / 2) (by omega) (by omega)
  have hφ : ∀ k, Vs D' (2 * w * (2 * h)) k → Vs D (w * h) (φ k) := fun k hk => ⟨(pφ k hk.1).1, by rw [← hD k hk.1]; exact hk.2⟩
  have back : ∀ X Y j, X < 2 * w → Y < 2 * h → Vs D (w * h) j → X / 2 = j % w → Y / 2 = j / w → Vs D' (2 * w * (2 * h)) (2 * w * Y + X) ∧ φ (2 * w * Y + X) = j := by
    intro X Y j hX hY hj e1 e2
    obtain ⟨p1, p2, p3⟩ := pl X Y hX hY
    have e : φ (2 * w * Y + X) = j := by
      show w * ((2 * w * Y + X) / (2 * w) / 2) + (2 * w * Y + X) % (2 * w) / 2 = j
      rw [p2, p3, e1, e2]
      exact Nat.div_add_mod j w
    exact ⟨⟨p1, by rw [hD _ p1]; show D (φ (2 * w * Y + X)) = true; rw [e]; exact hj.2⟩, e⟩
  have jl : ∀ j, j < w * h → j % w < w ∧ j / w < h := fun j hj => ⟨Nat.mod_lt _ hw, (Nat.div_lt_iff_lt_mul hw).2 (by rw [Nat.mul_comm]; exact hj)⟩
  have adj' : ∀ X Y X' Y', X < 2 * w → Y < 2 * h → X' < 2 * w → Y' < 2 * h → X ≤ X' + 1 → X' ≤ X + 1 → Y ≤ Y' + 1 → Y' ≤ Y + 1 → Adj (2 * w) true (2 * w * Y + X) (2 * w * Y' + X') := by
    intro X Y X' Y' a b c d e1 e2 e3 e4
    obtain ⟨_, p2, p3⟩ := pl X Y a b
    obtain ⟨_, q2, q3⟩ := pl X' Y' c d
    unfold Adj
    rw [p2, p3, q2, q3]
    exact ⟨e1, e2, e3, e4, .inl rfl⟩
  -- two forms of one pixel
  have twin : ∀ k k', Vs D' (2 * w * (2 * h)) k → Vs D' (2 * w * (2 * h)) k' → φ k = φ k' → Conn (Vs D' (2 * w * (2 * h))) (Adj (2 * w) true) k k' := by
    intro k k' hk hk' e
    obtain ⟨a1, a2, a3⟩ := xy k hk.1
    obtain ⟨b1, b2, b3⟩ := xy k' hk'.1
    have u1 := (pφ k hk.1).2
    have u2 := (pφ k' hk'.1).2
    rw [e] at u1
    refine Conn.one hk ?_ hk'
    rw [a3, b3]
    exact adj' _ _ _ _ a1 a2 b1 b2 (by omega) (by omega) (by omega) (by omega)
  refine areas_map (m := 4) Sp Sp' φ (fun j => [2 * w * (2 * (j / w)) + 2 * (j % w), 2 * w * (2 * (j / w)) + (2 * (j % w) + 1), 2 * w * (2 * (j / w) + 1) + 2 * (j % w), 2 * w * (2 * (j / w) + 1) + (2 * (j % w) + 1)]) (by omega) hφ (fun j hj => ⟨rfl, ?_, fun k => ?_⟩) (fun j k hj hk => ⟨fun c => ?_, fun c => ?_⟩)
  · obtain ⟨x1, y1⟩ := jl j hj.1
    have inj : ∀ X Y X' Y', X < 2 * w → Y < 2 * h → X' < 2 * w → Y' < 2 * h → 2 * w * Y + X = 2 * w * Y' + X' → X = X' ∧ Y = Y' := by
      intro X Y X' Y' a b c d e
      obtain ⟨_, p2, p3⟩ := pl X Y a b
      obtain ⟨_, q2, q3⟩ := pl X' Y' c d
      rw [e] at p2 p3
      exact ⟨p2.symm.trans q2, p3.symm.trans q3⟩
    have i1 := inj (2 * (j % w)) (2 * (j / w)) (2 * (j % w) + 1) (2 * (j / w)) (by omega) (by omega) (by omega) (by omega)
    have i2 := inj (2 * (j % w)) (2 * (j / w)) (2 * (j % w)) (2 * (j / w) + 1) (by omega) (by omega) (by omega) (by omega)
    have i3 := inj (2 * (j % w)) (2 * (j / w)) (2 * (j % w) + 1) (2 * (j / w) + 1) (by omega) (by omega) (by omega) (by omega)
    have i4 := inj (2 * (j % w) + 1) (2 * (j / w)) (2 * (j % w)) (2 * (j / w) + 1) (by omega) (by omega) (by omega) (by omega)
    have i5 := inj (2 * (j % w) + 1) (2 * (j / w)) (2 * (j % w) + 1) (2 * (j / w) + 1) (by omega) (by omega) (by omega) (by omega)
    have i6 := inj (2 * (j % w)) (2 * (j / w) + 1) (2 * (j % w) + 1) (2 * (j / w) + 1) (by omega) (by omega) (by omega) (by omega)
    simp only [List.nodup_cons, List.mem_cons, List.not_mem_nil, or_false, not_or, not_false_eq_true, List.nodup_nil, and_true]
    refine ⟨⟨fun e => ?_, fun e => ?_, fun e => ?_⟩, ⟨fun e => ?_, fun e => ?_⟩, fun e => ?_⟩
    · have := i1 e; omega
    · have := i2 e; omega
    · have := i3 e; omega
    · have := i4 e; omega
    · have := i5 e; omega
    · have := i6 e; omega
  · obtain ⟨x1, y1⟩ := jl j hj.1
    simp only [List.mem_cons, List.not_mem_nil, or_false]
    constructor
    · rintro (rfl | rfl | rfl | rfl) <;> exact back _ _ j (by omega) (by omega) hj (by omega) (by omega)
    · rintro ⟨k1, rfl⟩
      obtain ⟨a1, a2, a3⟩ := xy k k1.1
      obtain ⟨_, u1, u2⟩ := pφ k k1.1
      rw [u1, u2]
      have c1 : 2 * (k % (2 * w) / 2) = k % (2 * w) ∨ 2 * (k % (2 * w) / 2) + 1 = k % (2 * w) := by omega
      have c2 : 2 * (k / (2 * w) / 2) = k / (2 * w) ∨ 2 * (k / (2 * w) / 2) + 1 = k / (2 * w) := by omega
      rcases c1 with c1 | c1 <;> rcases c2 with c2 | c2 <;> rw [c1, c2]
      · exact .inl a3
      · exact .inr (.inr (.inl a3))
      · exact .inr (.inl a3)
      · exact .inr (.inr (.inr a3))
  · refine Conn.map φ hφ (fun a b ha hb r => ?_) c
    obtain ⟨r1, r2, r3, r4, _⟩ := r
    obtain ⟨_, a1, a2⟩ := pφ a ha.1
    obtain ⟨_, b1, b2⟩ := pφ b hb.1
    unfold Adj
    rw [a1, a2, b1, b2]
    exact ⟨by omega, by omega, by omega, by omega, .inl rfl⟩
  · have go : ∀ b, Conn (Vs D (w * h)) (Adj w true) (φ j) b → ∀ k', Vs D' (2 * w * (2 * h)) k' → φ k' = b → Conn (Vs D' (2 * w * (2 * h))) (Adj (2 * w) true) j k' := by
      intro b cb
      induction cb with
      | refl _ => exact fun k' hk' e => twin j k' hj hk' e.symm
      | step b c cb r hcv ih =>
        intro k' hk' e
        obtain ⟨bx, by'⟩ := jl b cb.right.1
        obtain ⟨cx, cy⟩ := jl c hcv.1
        obtain ⟨r1, r2, r3, r4, _⟩ := r
        obtain ⟨p, hp⟩ : ∃ p, p = 2 * (b % w) + (if b % w < c % w then 1 else 0) := ⟨_, rfl⟩
        obtain ⟨p', hp'⟩ : ∃ p, p = 2 * (b / w) + (if b / w < c / w then 1 else 0) := ⟨_, rfl⟩
        obtain ⟨q, hq⟩ : ∃ p, p = 2 * (c % w) + (if c % w < b % w then 1 else 0) := ⟨_, rfl⟩
        obtain ⟨q', hq'⟩ : ∃ p, p = 2 * (c / w) + (if c / w < b / w then 1 else 0) := ⟨_, rfl⟩
        have P := back p p' b (by split at hp <;> omega) (by split at hp' <;> omega) cb.right (by split at hp <;> omega) (by split at hp' <;> omega)
        have Q := back q q' c (by split at hq <;> omega) (by split at hq' <;> omega) hcv (by split at hq <;> omega) (by split at hq' <;> omega)
        have A := adj' p p' q q' (by split at hp <;> omega) (by split at hp' <;> omega) (by split at hq <;> omega) (by split at hq' <;> omega)
          (by split at hp <;> split at hq <;> omega) (by split at hp <;> split at hq <;> omega) (by split at hp' <;> split at hq' <;> omega) (by split at hp' <;> split at hq' <;> omega)
        exact ((ih _ P.1 P.2).trans (Conn.one P.1 A Q.1)).trans (twin _ k' Q.1 hk' (Q.2.trans e.symm))
    exact go _ c k hk rfl

/-! ### sums in another order -/
theorem S_shift (n : Nat) (f : Nat → Int) : S (n + 1) f = f 0 + S n fun i => f (i + 1) := by
  induction n with
  | zero => simp [S]
  | succ n ih => rw [S, ih]; simp only [S]; omega
theorem S_rev (n : Nat) (f : Nat → Int) : S n (fun i => f (n - 1 - i)) = S n f := by
  induction n with
  | zero => rfl
  | succ n ih =>
    rw [S_shift]
    simp only [S]
    rw [← ih, show n + 1 - 1 - 0 = n from by omega, S_congr n (fun i => f (n + 1 - 1 - (i + 1))) (fun i => f (n - 1 - i)) (fun i hi => by rw [show n + 1 - 1 - (i + 1) = n - 1 - i from by omega])]
    omega
theorem S_add (n : Nat) (f g : Nat → Int) : S n (fun i => f i + g i) = S n f + S n g := by
  induction n with
  | zero => rfl
  | succ n ih => simp only [S]; rw [ih]; omega
theorem S_swap (n m : Nat) (f : Nat → Nat → Int) : S n (fun i => S m fun j => f i j) = S m fun j => S n fun i => f i j := by
  induction n with
  | zero =>
    simp only [S]
    exact (S_zero m _ (fun _ _ => rfl)).symm
  | succ n ih => simp only [S]; rw [ih, S_add]
theorem qd_turn : ∀ a b c d : Bool, qd c a d b = qd a b c d := by decide
theorem qd_mirror : ∀ a b c d : Bool, qd b a d c = qd a b c d := by decide
end Go.Proofs.Ytahibhipffojlaa.P
