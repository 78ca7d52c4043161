/- The law of fours of pixels. -/
import Derived.Test.YtahibhipffojlaaPLoc
import Derived.Test.YtahibhipffojlaaMx18
set_option linter.unusedSimpArgs false
set_option linter.unusedVariables false
namespace Go.Proofs.Ytahibhipffojlaa.P
open Go.RowKit Go.Proofs.YtahibhipffojlaaW.PrintWords Go.Proofs.YtahibhipffojlaaW.PrintMore Go.Proofs.Ytahibhipffojlaa.M Go.Proofs.Ytahibhipffojlaa.Topo

theorem valid1 {w h : Int} {l : List Bool} (v : Vd w h l) : barscanref31_Valid.f w h l = some true := by
  unfold barscanref31_Valid.f
  rw [fits_eq, possible_eq, decide_eq_true ⟨v.w1, v.w2, v.h1, v.h2, v.wh⟩, Option.bind_some, if_pos rfl, w64 (by have := wh_b v.w1 v.w2 v.h1 v.h2; omega), v.len]
  simp
theorem at_f {w h : Nat} {l : List Bool} (v : Vd (w : Int) (h : Int) l) (hl : l.length = w * h) (x y : Int) (hx : -1 ≤ x ∧ x ≤ w) (hy : -1 ≤ y ∧ y ≤ h) : barscanref31_At.f (w : Int) (h : Int) l x y = some (D2 w h l (x, y)) := by
  have w2 := v.w2
  have h2 := v.h2
  unfold barscanref31_At.f
  rw [valid1 v, Option.bind_some, if_pos rfl]
  by_cases i : In w h (x, y)
  · have i' := i
    obtain ⟨i1, i2, i3, i4⟩ := i
    dsimp only at i1 i2 i3 i4
    have lt := ix_lt (x, y) i'
    rw [D2_in _ i', if_pos i1, if_pos i2, if_pos i3, if_pos i4]
    obtain ⟨a, rfl⟩ := Int.eq_ofNat_of_zero_le i1
    obtain ⟨b, rfl⟩ := Int.eq_ofNat_of_zero_le i3
    have e : ix w ((a : Int), (b : Int)) = w * b + a := by unfold ix; simp only [Int.toNat_natCast]
    rw [e] at lt ⊢
    have m : (b : Int) * (w : Int) = ((w * b : Nat) : Int) := by rw [Int.natCast_mul, Int.mul_comm]
    have big : w * b ≤ 4096 * 4096 := Nat.mul_le_mul (by omega) (by omega)
    rw [m, w64 (n := ((w * b : Nat) : Int)) (by omega), show ((w * b : Nat) : Int) + (a : Int) = ((w * b + a : Nat) : Int) from by omega, w64 (n := ((w * b + a : Nat) : Int)) (by omega), if_pos (by omega), if_pos (by omega), rdB]
  · rw [D2_out _ i]
    unfold In at i
    dsimp only at i
    by_cases i1 : x ≥ 0
    · by_cases i2 : x < w
      · by_cases i3 : y ≥ 0
        · rw [if_pos i1, if_pos i2, if_pos i3, if_neg (by omega)]
        · rw [if_pos i1, if_pos i2, if_neg i3]
      · rw [if_pos i1, if_neg i2]
    · rw [if_neg i1]
theorem loc_chain (K : Nat) (x3 s y x w h : Int) (l : List Bool) (a b c d : Bool) (hs : -100000000 ≤ s ∧ s ≤ 100000000) (hx : wrap64 (x + 1) = x + 1) :
    (if a = true then (barscanlaw38_ComponentsLocal.j3 (K + 5) x3 s y x a b c d (0 + 1) w h l) else (barscanlaw38_ComponentsLocal.j3 (K + 5) x3 s y x a b c d 0 w h l)) = barscanlaw38_ComponentsLocal.l1 K x3 (s + qd a b c d) y (x + 1) w h l := by
  have e1 : wrap64 (s + 1) = s + 1 := w64 (by omega)
  have e2 : wrap64 (s + -1) = s + -1 := w64 (by omega)
  have e3 : wrap64 (s + -2) = s + -2 := w64 (by omega)
  have n1 : wrap64 1 = 1 := w64 (by omega)
  have n2 : wrap64 2 = 2 := w64 (by omega)
  have n3 : wrap64 3 = 3 := w64 (by omega)
  have n4 : wrap64 4 = 4 := w64 (by omega)
  rw [show K + 5 = K + 1 + 1 + 1 + 1 + 1 from rfl]
  cases a <;> cases b <;> cases c <;> cases d <;> simp [barscanlaw38_ComponentsLocal.j3, barscanlaw38_ComponentsLocal.j4, barscanlaw38_ComponentsLocal.j5, barscanlaw38_ComponentsLocal.j6, barscanlaw38_ComponentsLocal.j7, qd, b2i, e1, e2, e3, n1, n2, n3, n4, hx, Int.sub_eq_add_neg]
theorem S_bound (f : Nat → Int) (hf : ∀ i, -2 ≤ f i ∧ f i ≤ 2) (n : Nat) : -(2 * n : Int) ≤ S n f ∧ S n f ≤ 2 * n := by
  induction n with
  | zero => simp [S]
  | succ n ih => simp only [S]; have := hf n; omega
theorem quad_bound (D : Pt → Bool) (x y : Int) : -2 ≤ quad D x y ∧ quad D x y ≤ 2 := by
  unfold quad qd
  split
  · omega
  · split
    · omega
    · split <;> omega
section
variable {w h : Nat} {l : List Bool}
def rowQ (w h : Nat) (l : List Bool) (j : Nat) : Int := S (w + 1) fun i => quad (D2 w h l) ((i : Int) - 1) ((j : Int) - 1)
theorem loc_row (v : Vd (w : Int) (h : Int) l) (hl : l.length = w * h) (x3 s : Int) (j : Nat) (hj : j ≤ h) (hs : -10000000 ≤ s ∧ s ≤ 10000000) :
    ∀ (m i K : Nat), i + m = w + 1 → barscanlaw38_ComponentsLocal.l1 (K + 6 * m + 1) x3 (s + S i fun i => quad (D2 w h l) ((i : Int) - 1) ((j : Int) - 1)) ((j : Int) - 1) ((i : Int) - 1) w h l = barscanlaw38_ComponentsLocal.l0 K x3 (s + rowQ w h l j) (j : Int) w h l := by
  have w2 := v.w2
  have h2 := v.h2
  intro m
  induction m with
  | zero =>
    intro i K hi
    obtain rfl : i = w + 1 := by omega
    rw [show K + 6 * 0 + 1 = K + 1 from by omega, barscanlaw38_ComponentsLocal.l1, if_neg (by omega), w64 (by omega), show (j : Int) - 1 + 1 = j from by omega]
    rfl
  | succ m ih =>
    intro i K hi
    have b := S_bound (fun i => quad (D2 w h l) ((i : Int) - 1) ((j : Int) - 1)) (fun i => quad_bound _ _ _) i
    have nx := ih (i + 1) K (by omega)
    simp only [S] at nx
    have e1 : wrap64 ((i : Int) - 1 + 1) = (i : Int) - 1 + 1 := w64 (by omega)
    have e2 : wrap64 ((j : Int) - 1 + 1) = (j : Int) - 1 + 1 := w64 (by clear e1; omega)
    rw [show K + 6 * (m + 1) + 1 = (K + 6 * m + 1 + 5) + 1 from by omega, barscanlaw38_ComponentsLocal.l1, if_pos (by omega), e1, e2,
      at_f v hl _ _ (by omega) (by omega), at_f v hl _ _ (by omega) (by omega), at_f v hl _ _ (by omega) (by omega), at_f v hl _ _ (by omega) (by omega), Option.bind_some, Option.bind_some, Option.bind_some, Option.bind_some,
      loc_chain (K + 6 * m + 1) x3 _ _ _ _ _ l _ _ _ _ (by omega) e1]
    rw [show ((i + 1 : Nat) : Int) - 1 = (i : Int) - 1 + 1 from by omega, ← Int.add_assoc] at nx
    exact nx
theorem loc_rows (v : Vd (w : Int) (h : Int) l) (hl : l.length = w * h) (hf : l.length ≤ 1500) (x3 : Int) (hx : wrap64 (4 * x3) = S (h + 1) (rowQ w h l)) :
    ∀ (m j K : Nat), j + m = h + 1 → m * (6 * (w + 1) + 2) < K → barscanlaw38_ComponentsLocal.l0 K x3 (S j (rowQ w h l)) ((j : Int) - 1) w h l = some true := by
  have w1 := v.w1
  have h1 := v.h1
  have wl : w ≤ 1500 := Nat.le_trans (Nat.le_mul_of_pos_right w (show 0 < h by omega)) (by rw [← hl]; exact hf)
  have hll : h ≤ 1500 := Nat.le_trans (Nat.le_mul_of_pos_left h (show 0 < w by omega)) (by rw [← hl]; exact hf)
  intro m
  induction m with
  | zero =>
    intro j K hj hK
    obtain ⟨K, rfl⟩ : ∃ K', K = K' + 1 := ⟨K - 1, by omega⟩
    obtain rfl : j = h + 1 := by omega
    rw [barscanlaw38_ComponentsLocal.l0, if_neg (by omega), if_pos hx]
    rfl
  | succ m ih =>
    intro j K hj hK
    rw [Nat.succ_mul] at hK
    obtain ⟨K, rfl⟩ : ∃ K', K = (K' + 6 * (w + 1) + 1) + 1 := ⟨K - (6 * (w + 1) + 2), by omega⟩
    have rb : ∀ j, -(2 * (w + 1 : Nat) : Int) ≤ rowQ w h l j ∧ rowQ w h l j ≤ 2 * (w + 1 : Nat) := fun j => S_bound _ (fun i => quad_bound _ _ _) (w + 1)
    have sb : ∀ j : Nat, j ≤ 1501 → -(3010 * j : Int) ≤ S j (rowQ w h l) ∧ S j (rowQ w h l) ≤ 3010 * j := by
      intro j
      induction j with
      | zero => intro _; simp [S]
      | succ j ih => intro hj; have := ih (by omega); have := rb j; simp only [S]; omega
    have sj := sb j (by omega)
    have nx := ih (j + 1) K (by omega) (by omega)
    simp only [S] at nx
    have r := loc_row v hl x3 (S j (rowQ w h l)) j (by omega) (by omega) (w + 1) 0 K (by omega)
    simp only [S, Int.add_zero] at r
    rw [show ((0 : Nat) : Int) - 1 = -1 from rfl] at r
    rw [barscanlaw38_ComponentsLocal.l0, if_pos (by omega), r]
    rw [show ((j + 1 : Nat) : Int) - 1 = (j : Int) from by omega] at nx
    exact nx
end
theorem local_true (W H : Int) (l : List Bool) (K : Nat) (hK : 80000000 ≤ K) : barscanlaw38_ComponentsLocal.f K W H l = some true := by
  unfold barscanlaw38_ComponentsLocal.f barscanlaw38_few.f
  have j0t : ∀ x3 x4, barscanlaw38_ComponentsLocal.j0 K x3 x4 true W H l = some true := by
    intro x3 x4
    obtain ⟨K, rfl⟩ : ∃ K', K = K' + 1 := ⟨K - 1, by omega⟩
    rw [barscanlaw38_ComponentsLocal.j0, if_pos rfl]
    rfl
  by_cases v : Vd W H l
  · have vwh := v.wh
    obtain ⟨w, h, rfl, rfl, hw, hw2, hh, hh2, hwh⟩ := v.nat'
    have hb : l.length ≤ 4194304 := by rw [← Int.natCast_mul] at vwh; omega
    obtain ⟨L, B, L', B', h1, h3, h5, h6⟩ := euler_prog w h l hw hw2 hh hh2 hwh K (by omega) vwh
    rw [h6, Option.bind_some, Option.bind_some]
    by_cases hl : (l.length : Int) ≤ 1500
    · have hB := h3.few
      have hB' := h5.few
      have hc := cnt_le (holeP w h B') B'.length
      rw [decide_eq_true hl, if_pos rfl, rcheck1 v, Option.bind_some, if_pos (by omega)]
      dsimp only
      obtain ⟨K, rfl⟩ : ∃ K', K = K' + 1 := ⟨K - 1, by omega⟩
      rw [barscanlaw38_ComponentsLocal.j0, if_neg (by decide), if_pos rfl]
      rw [hwh] at h3 h5
      have q := euler_quads (l := l) hw hh h3 h5
      have m : (h + 1) * (6 * (w + 1) + 2) ≤ 1501 * (6 * (1500 + 1) + 2) := by
        have wl : w ≤ 1500 := Nat.le_trans (Nat.le_mul_of_pos_right w hh) (by rw [← hwh]; omega)
        have hll : h ≤ 1500 := Nat.le_trans (Nat.le_mul_of_pos_left h hw) (by rw [← hwh]; omega)
        exact Nat.mul_le_mul (by omega) (by omega)
      have e : S (h + 1) (rowQ w h l) = quads w h (D2 w h l) := by
        unfold quads rowQ
        rw [show ((h : Int) + 1).toNat = h + 1 from by omega, show ((w : Int) + 1).toNat = w + 1 from by omega]
      have r := loc_rows v hwh (by omega) ((B.length : Int) - cnt (holeP w h B') B'.length) (by rw [w64 (by omega), q, e]) (h + 1) 0 K (by omega) (by omega)
      simp only [S] at r
      rw [show ((0 : Nat) : Int) - 1 = -1 from rfl] at r
      exact r
    · rw [decide_eq_false hl, if_neg (by simp)]
      exact j0t _ _
  · have e : components_Euler.f K W H l = some (0, 1) := by
      unfold components_Euler.f components_Label.f
      rw [check0 v, Option.bind_some, if_neg (by omega), Option.bind_some]
      dsimp only
      rw [if_neg (by decide)]
    rw [e, Option.bind_some, Option.bind_some]
    by_cases hl : (l.length : Int) ≤ 1500
    · rw [decide_eq_true hl, if_pos rfl, rcheck0 v, Option.bind_some]
      exact j0t _ _
    · rw [decide_eq_false hl, if_neg (by simp)]
      exact j0t _ _
end Go.Proofs.Ytahibhipffojlaa.P
