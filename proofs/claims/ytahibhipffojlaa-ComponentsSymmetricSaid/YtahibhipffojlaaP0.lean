/- Plain facts for the laws of this seat: valid bitmaps, small numbers, equal bitmaps. -/
import Derived.Test.YtahibhipffojlaaMx2
import Derived.Test.YtahibhipffojlaaMx6
import Derived.Test.YtahibhipffojlaaMx8
set_option linter.unusedSimpArgs false
set_option linter.unusedVariables false
namespace Go.Proofs.Ytahibhipffojlaa.P
open Go.RowKit Go.Proofs.YtahibhipffojlaaW.PrintWords Go.Proofs.YtahibhipffojlaaW.PrintMore Go.Proofs.Ytahibhipffojlaa.M

theorem w64 {n : Int} (h : -4611686018427387904 ≤ n ∧ n ≤ 4611686018427387904) : wrap64 n = n := by
  unfold wrap64
  omega

theorem wrap_next {t : Nat} (h : t < 1000000000) : wrap64 ((t : Int) + 1) = ((t + 1 : Nat) : Int) := by
  rw [w64 (by omega)]; omega
/-- a valid bitmap -/
structure Vd (w h : Int) (l : List Bool) : Prop where
  w1 : 1 ≤ w
  w2 : w ≤ 4096
  h1 : 1 ≤ h
  h2 : h ≤ 4096
  wh : w * h ≤ 4194304
  len : (l.length : Int) = w * h
theorem wh_b {w h : Int} (w1 : 1 ≤ w) (w2 : w ≤ 4096) (h1 : 1 ≤ h) (h2 : h ≤ 4096) : 1 ≤ w * h ∧ w * h ≤ 16777216 := by
  have a : w * h ≤ 4096 * h := Int.mul_le_mul_of_nonneg_right w2 (by omega)
  have b : 1 * h ≤ w * h := Int.mul_le_mul_of_nonneg_right w1 (by omega)
  omega
open Classical in
theorem possible_eq (w h : Int) : raster_possible.f w h = some (decide (1 ≤ w ∧ w ≤ 4096 ∧ 1 ≤ h ∧ h ≤ 4096 ∧ w * h ≤ 4194304)) := by
  unfold raster_possible.f
  by_cases a : w ≥ 1
  · by_cases b : w ≤ 4096
    · by_cases c : h ≥ 1
      · by_cases d : h ≤ 4096
        · rw [if_pos a, if_pos b, if_pos c, if_pos d, w64 (by have := wh_b a b c d; omega)]
          congr 1
          simp only [decide_eq_decide]
          omega
        · rw [if_pos a, if_pos b, if_pos c, if_neg d]
          congr 1; symm; simp only [decide_eq_false_iff_not]; omega
      · rw [if_pos a, if_pos b, if_neg c]
        congr 1; symm; simp only [decide_eq_false_iff_not]; omega
    · rw [if_pos a, if_neg b]
      congr 1; symm; simp only [decide_eq_false_iff_not]; omega
  · rw [if_neg a]
    congr 1; symm; simp only [decide_eq_false_iff_not]; omega
theorem check1 {w h : Int} {l : List Bool} (v : Vd w h l) : raster_Check.f w h l = some 0 := by
  unfold raster_Check.f
  rw [possible_eq, decide_eq_true ⟨v.w1, v.w2, v.h1, v.h2, v.wh⟩, Option.bind_some, if_pos rfl, w64 (by have := wh_b v.w1 v.w2 v.h1 v.h2; omega), if_pos v.len]
theorem check0 {w h : Int} {l : List Bool} (v : ¬ Vd w h l) : raster_Check.f w h l = some 1 := by
  unfold raster_Check.f
  rw [possible_eq, Option.bind_some]
  by_cases c : 1 ≤ w ∧ w ≤ 4096 ∧ 1 ≤ h ∧ h ≤ 4096 ∧ w * h ≤ 4194304
  · rw [decide_eq_true c, if_pos rfl, w64 (by have := wh_b c.1 c.2.1 c.2.2.1 c.2.2.2.1; omega), if_neg]
    exact fun e => v ⟨c.1, c.2.1, c.2.2.1, c.2.2.2.1, c.2.2.2.2, e⟩
  · rw [decide_eq_false c, if_neg (by simp)]
theorem fits_eq (w h : Int) : barscanref31_fits.f w h = raster_possible.f w h := rfl
theorem rcheck1 {w h : Int} {l : List Bool} (v : Vd w h l) : barscanref31_Check.f w h l = some 0 := by
  unfold barscanref31_Check.f barscanref31_Valid.f
  rw [fits_eq, possible_eq, decide_eq_true ⟨v.w1, v.w2, v.h1, v.h2, v.wh⟩, Option.bind_some, if_pos rfl, w64 (by have := wh_b v.w1 v.w2 v.h1 v.h2; omega), v.len, Option.bind_some]
  simp
theorem rcheck0 {w h : Int} {l : List Bool} (v : ¬ Vd w h l) : barscanref31_Check.f w h l = some 1 := by
  unfold barscanref31_Check.f barscanref31_Valid.f
  rw [fits_eq, possible_eq, Option.bind_some]
  by_cases c : 1 ≤ w ∧ w ≤ 4096 ∧ 1 ≤ h ∧ h ≤ 4096 ∧ w * h ≤ 4194304
  · have hv : ¬ (l.length : Int) = w * h := fun e => v ⟨c.1, c.2.1, c.2.2.1, c.2.2.2.1, c.2.2.2.2, e⟩
    rw [decide_eq_true c, if_pos rfl, w64 (by have := wh_b c.1 c.2.1 c.2.2.1 c.2.2.2.1; omega), Option.bind_some]
    simp [hv]
  · rw [decide_eq_false c, if_neg (by simp), Option.bind_some]
    simp

/-- a bitmap is equal to itself -/
theorem equal_l0 (a b c d : Int) (l : List Bool) (hl : l.length ≤ 1000000000) : ∀ (n : Nat) (i : Nat) (K : Nat), i + n = l.length → n < K → barscanref31_Equal.l0 K (i : Int) a b l c d l = some true := by
  intro n
  induction n with
  | zero =>
    intro i K hi hK
    obtain ⟨K, rfl⟩ : ∃ K', K = K' + 1 := ⟨K - 1, by omega⟩
    unfold barscanref31_Equal.l0
    rw [if_neg (by omega)]
  | succ n ih =>
    intro i K hi hK
    obtain ⟨K, rfl⟩ : ∃ K', K = K' + 1 := ⟨K - 1, by omega⟩
    unfold barscanref31_Equal.l0
    rw [if_pos (by omega), if_pos (by omega), if_pos (by omega), if_neg (by simp), w64 (by omega)]
    have := ih (i + 1) K (by omega) (by omega)
    rw [show ((i : Int) + 1) = ((i + 1 : Nat) : Int) by omega]
    exact this
theorem equal_self (w h : Int) (l : List Bool) (hl : l.length ≤ 1000000000) (K : Nat) (hK : l.length + 1 < K) : barscanref31_Equal.f K w h l w h l = some true := by
  unfold barscanref31_Equal.f
  rw [if_pos rfl, if_pos rfl]
  obtain ⟨K, rfl⟩ : ∃ K', K = K' + 1 := ⟨K - 1, by omega⟩
  unfold barscanref31_Equal.j0
  dsimp only
  rw [if_neg (by simp)]
  exact equal_l0 w h w h l hl l.length 0 K (by omega) (by omega)
end Go.Proofs.Ytahibhipffojlaa.P
