/- The law of turns, mirrors and enlargings. -/
import Derived.Test.YtahibhipffojlaaPSymP
import Derived.Test.YtahibhipffojlaaMx25
set_option linter.unusedSimpArgs false
set_option linter.unusedVariables false
namespace Go.Proofs.Ytahibhipffojlaa.P
open Go.RowKit Go.Proofs.YtahibhipffojlaaW.PrintWords Go.Proofs.YtahibhipffojlaaW.PrintMore Go.Proofs.Ytahibhipffojlaa.M Go.Proofs.Ytahibhipffojlaa.Topo

theorem valid1 {w h : Int} {l : List Bool} (v : Vd w h l) : barscanref31_Valid.f w h l = some true := by
  unfold barscanref31_Valid.f
  rw [fits_eq, possible_eq, decide_eq_true ⟨v.w1, v.w2, v.h1, v.h2, v.wh⟩, Option.bind_some, if_pos rfl, w64 (by have := wh_b v.w1 v.w2 v.h1 v.h2; omega), v.len]
  simp
theorem at_in {w h : Nat} {l : List Bool} (v : Vd (w : Int) (h : Int) l) (hl : l.length = w * h) (a b : Nat) (ha : a < w) (hb : b < h) : barscanref31_At.f (w : Int) (h : Int) l (a : Int) (b : Int) = some (Dk l (w * b + a)) := by
  have w2 := v.w2
  have h2 := v.h2
  have lt := (place (w := w) (h := h) ha hb).1
  have m : (b : Int) * (w : Int) = ((w * b : Nat) : Int) := by rw [Int.natCast_mul, Int.mul_comm]
  have big : w * b ≤ 4096 * 4096 := Nat.mul_le_mul (by omega) (by omega)
  unfold barscanref31_At.f
  rw [valid1 v, Option.bind_some, if_pos rfl, if_pos (by omega), if_pos (by omega), if_pos (by omega), if_pos (by omega), m, w64 (n := ((w * b : Nat) : Int)) (by omega), show ((w * b : Nat) : Int) + (a : Int) = ((w * b + a : Nat) : Int) from by omega,
    w64 (n := ((w * b + a : Nat) : Int)) (by omega), if_pos (by omega), if_pos (by omega), rdB]
section
variable {SA : List Int} {q : Int} {w h : Nat} {l : List Bool}
theorem Pic.vd (P : Pic SA q w h l) : Vd (w : Int) (h : Int) l := by
  have a := P.hw; have b := P.hw2; have c := P.hh; have d := P.hh2; have e := P.len; have f := P.small
  have m : (w : Int) * (h : Int) = ((w * h : Nat) : Int) := (Int.natCast_mul w h).symm
  exact ⟨by omega, by omega, by omega, by omega, by rw [m]; omega, by rw [m, e]⟩
/-! one turn -/
theorem turned_f (hw : 0 < w) (hh : 0 < h) (hw2 : w ≤ 400) (hh2 : h ≤ 400) (i : Nat) (hi : i < h * w) : barscanref31_turned.f (w : Int) (h : Int) (i : Int) = some ((turnI w h i : Nat) : Int) := by
  obtain ⟨a, b, c⟩ := xy_of hh hi
  have e1 : Int.tmod (i : Int) (h : Int) = ((i % h : Nat) : Int) := by rw [Int.tmod_eq_emod_of_nonneg (by omega)]; omega
  have e2 : Int.tdiv (i : Int) (h : Int) = ((i / h : Nat) : Int) := by rw [Int.tdiv_eq_ediv_of_nonneg (by omega)]; omega
  have lt := (turnI_at (w := w) hh hi).1
  have hsm : w * h ≤ 400 * 400 := Nat.mul_le_mul hw2 hh2
  unfold barscanref31_turned.f turnI at *
  rw [if_neg (by omega), e1, e2]
  clear e1 e2 c
  generalize i % h = x at *
  generalize i / h = y at *
  have m : ((h - 1 - x : Nat) : Int) * (w : Int) = ((w * (h - 1 - x) : Nat) : Int) := by rw [Int.natCast_mul, Int.mul_comm]
  have s : (h : Int) - 1 - (x : Int) = ((h - 1 - x : Nat) : Int) := by omega
  have b1 : -4611686018427387904 ≤ (h : Int) - 1 ∧ (h : Int) - 1 ≤ 4611686018427387904 := by omega
  have b2 : -4611686018427387904 ≤ ((h - 1 - x : Nat) : Int) ∧ ((h - 1 - x : Nat) : Int) ≤ 4611686018427387904 := by omega
  have b3 : -4611686018427387904 ≤ ((w * (h - 1 - x) : Nat) : Int) ∧ ((w * (h - 1 - x) : Nat) : Int) ≤ 4611686018427387904 := by omega
  have b4 : -4611686018427387904 ≤ (y : Int) ∧ (y : Int) ≤ 4611686018427387904 := by omega
  have b5 : -4611686018427387904 ≤ ((w * (h - 1 - x) + y : Nat) : Int) ∧ ((w * (h - 1 - x) + y : Nat) : Int) ≤ 4611686018427387904 := by omega
  rw [w64 b1, s, w64 b2, m, w64 b3, w64 b4, show ((w * (h - 1 - x) : Nat) : Int) + (y : Int) = ((w * (h - 1 - x) + y : Nat) : Int) from by omega, w64 b5]
theorem turn_l1 (P : Pic SA q w h l) (a1 x7 : Int) (W0 H0 : Int) (l0 : List Bool) (hl0 : l0.length = w * h) : ∀ (m t K : Nat), t + m = w * h →
    barscanref31_Turn.l1 (K + m + 1) a1 x7 (t : Int) W0 H0 l0 (w : Int) (h : Int) l (h : Int) (w : Int) ((List.range t).map fun i => Dk l (turnI w h i)) = barscanref31_Turn.l0 K a1 (wrap64 (x7 + 1)) W0 H0 l0 (h : Int) (w : Int) (turnL w h l) := by
  have sm := P.small
  have len := P.len
  intro m
  induction m with
  | zero =>
    intro t K ht
    obtain rfl : t = w * h := by omega
    rw [show K + 0 + 1 = K + 1 from rfl, barscanref31_Turn.l1, if_neg (by omega)]
    rfl
  | succ m ih =>
    intro t K ht
    have nx := ih (t + 1) K (by omega)
    have hi : t < h * w := by rw [Nat.mul_comm]; omega
    have lt := (turnI_at (w := w) P.hh hi).1
    have s := snoc (fun i => Dk l (turnI w h i)) t
    rw [show K + (m + 1) + 1 = (K + m + 1) + 1 from by omega, barscanref31_Turn.l1, if_pos (by omega), turned_f P.hw P.hh P.hw2 P.hh2 t hi, Option.bind_some, if_pos (by omega), if_pos (by omega), if_pos (by rw [List.length_map, List.length_range]; omega), rdB, wrap_next (show t < 1000000000 by omega), s]
    exact nx
theorem turn_l0 (a1 qq : Int) (hq : barscanref31_quarters.f a1 = some qq) (hq2 : 0 ≤ qq ∧ qq ≤ 3) (W0 H0 : Int) (l0 : List Bool) : ∀ (m t K w h : Nat) (l : List Bool), Pic SA q w h l → l0.length = w * h → (t : Int) + m = qq → m * 500 + 10 ≤ K →
    ∃ (w' h' : Nat) (l' : List Bool), barscanref31_Turn.l0 K a1 (t : Int) W0 H0 l0 (w : Int) (h : Int) l = some ((w' : Int), (h' : Int), l', 0) ∧ Pic SA q w' h' l' := by
  intro m
  induction m with
  | zero =>
    intro t K w h l P hl ht hK
    obtain ⟨K, rfl⟩ : ∃ K', K = K' + 1 := ⟨K - 1, by omega⟩
    refine ⟨w, h, l, ?_, P⟩
    rw [barscanref31_Turn.l0, hq, Option.bind_some, if_neg (by omega)]
  | succ m ih =>
    intro t K w h l P hl ht hK
    have sm := P.small
    obtain ⟨K0, hK0, hK1⟩ : ∃ K', K = (K' + w * h + 1) + 1 ∧ m * 500 + 10 ≤ K' := by
      rw [Nat.succ_mul] at hK
      generalize m * 500 = z at *
      generalize w * h = u at *
      exact ⟨K - (u + 2), by omega, by omega⟩
    subst hK0
    clear hK
    have r := turn_l1 P a1 (t : Int) W0 H0 l0 hl (w * h) 0 K0 (by omega)
    rw [show ((0 : Nat) : Int) = 0 from rfl, List.range_zero, List.map_nil, wrap_next (show t < 1000000000 by omega)] at r
    rw [barscanref31_Turn.l0, hq, Option.bind_some, if_pos (by omega), r]
    exact ih (t + 1) K0 h w (turnL w h l) P.turn (by rw [hl, Nat.mul_comm]) (by omega) hK1
theorem turn_f (P : Pic SA q w h l) (a1 : Int) (K : Nat) (hK : 2000 ≤ K) : ∃ (w' h' : Nat) (l' : List Bool), barscanref31_Turn.f K (w : Int) (h : Int) l a1 = some ((w' : Int), (h' : Int), l', 0) ∧ Pic SA q w' h' l' := by
  have sm := P.small
  have len := P.len
  have t1 : -3 ≤ Int.tmod a1 4 ∧ Int.tmod a1 4 ≤ 3 := by
    have h1 := Int.tmod_lt_of_pos a1 (show (0 : Int) < 4 by omega)
    have h2 := Int.lt_tmod_of_pos a1 (show (0 : Int) < 4 by omega)
    omega
  obtain ⟨qq, hq, hq2⟩ : ∃ qq, barscanref31_quarters.f a1 = some qq ∧ 0 ≤ qq ∧ qq ≤ 3 := by
    refine ⟨_, rfl, ?_⟩
    rw [w64 (by omega)]
    have h1 := Int.tmod_lt_of_pos (Int.tmod a1 4 + 4) (show (0 : Int) < 4 by omega)
    have h2 := Int.tmod_nonneg 4 (show 0 ≤ Int.tmod a1 4 + 4 by omega)
    omega
  obtain ⟨m, hm⟩ := Int.eq_ofNat_of_zero_le hq2.1
  unfold barscanref31_Turn.f
  rw [valid1 P.vd, Option.bind_some, if_pos rfl, Option.bind_some, if_pos (by simp; omega), List.nil_append]
  exact turn_l0 a1 qq hq hq2 (w : Int) (h : Int) l m 0 K w h l P len (by omega) (by omega)
/-! the mirror -/
theorem mirror_l0 (P : Pic SA q w h l) : ∀ (m t K : Nat), t + m = w * h → m < K →
    barscanref31_Mirror.l0 K (t : Int) (w : Int) (h : Int) l (w : Int) (h : Int) ((List.range t).map fun i => Dk l (mirI w i)) = some ((w : Int), (h : Int), mirL w h l, 0) := by
  have sm := P.small
  have len := P.len
  have hw := P.hw
  have hw2 := P.hw2
  have hh2 := P.hh2
  intro m
  induction m with
  | zero =>
    intro t K ht hK
    obtain ⟨K, rfl⟩ : ∃ K', K = K' + 1 := ⟨K - 1, by omega⟩
    obtain rfl : t = w * h := by omega
    rw [barscanref31_Mirror.l0, if_neg (by omega)]
    rfl
  | succ m ih =>
    intro t K ht hK
    obtain ⟨K, rfl⟩ : ∃ K', K = K' + 1 := ⟨K - 1, by omega⟩
    have nx := ih (t + 1) K (by omega) (by omega)
    obtain ⟨a, b, c⟩ := xy_of (w := w) (h := h) hw (show t < w * h by omega)
    have s := snoc (fun i => Dk l (mirI w i)) t
    have e1 : Int.tmod (t : Int) (w : Int) = ((t % w : Nat) : Int) := by rw [Int.tmod_eq_emod_of_nonneg (by omega)]; omega
    have e2 : Int.tdiv (t : Int) (w : Int) = ((t / w : Nat) : Int) := by rw [Int.tdiv_eq_ediv_of_nonneg (by omega)]; omega
    have e3 : (w : Int) - 1 - ((t % w : Nat) : Int) = ((w - 1 - t % w : Nat) : Int) := by
      clear e1 e2 c
      generalize t % w = x at *
      omega
    have b1 : -4611686018427387904 ≤ (w : Int) - 1 ∧ (w : Int) - 1 ≤ 4611686018427387904 := by omega
    have b2 : -4611686018427387904 ≤ ((w - 1 - t % w : Nat) : Int) ∧ ((w - 1 - t % w : Nat) : Int) ≤ 4611686018427387904 := by
      have s2 := sub2 a
      clear e1 e2 e3 s nx ih
      generalize w - 1 - t % w = x at *
      omega
    have b3 : -4611686018427387904 ≤ ((t / w : Nat) : Int) ∧ ((t / w : Nat) : Int) ≤ 4611686018427387904 := by
      clear e1 e2 e3 s nx ih b1 b2
      generalize t / w = x at *
      omega
    rw [barscanref31_Mirror.l0, if_pos (by omega), if_neg (by omega), e1, e2, w64 b1, e3, w64 b2, w64 b3, at_in P.vd len _ _ (sub2 a) b, Option.bind_some, if_pos (by rw [List.length_map, List.length_range]; omega), wrap_next (show t < 1000000000 by omega)]
    rw [show Dk l (w * (t / w) + (w - 1 - t % w)) = Dk l (mirI w t) from rfl, s]
    exact nx
theorem mirror_f (P : Pic SA q w h l) (K : Nat) (hK : 2000 ≤ K) : barscanref31_Mirror.f K (w : Int) (h : Int) l = some ((w : Int), (h : Int), mirL w h l, 0) := by
  have sm := P.small
  unfold barscanref31_Mirror.f
  rw [valid1 P.vd, Option.bind_some, if_pos rfl]
  exact mirror_l0 P (w * h) 0 K (by omega) (by omega)
/-! twice as great -/
theorem big_l1 (P : Pic SA q w h l) (y : Nat) (hy : y < 2 * h) : ∀ (m x K : Nat), x + m = 2 * w →
    barscanref31_Enlarge.l1 (K + m + 1) 2 (y : Int) (x : Int) (w : Int) (h : Int) l ((2 * w : Nat) : Int) ((2 * h : Nat) : Int) ((List.range (2 * w * y + x)).map fun i => Dk l (bigI w i)) = barscanref31_Enlarge.l0 K 2 ((y + 1 : Nat) : Int) (w : Int) (h : Int) l ((2 * w : Nat) : Int) ((2 * h : Nat) : Int) ((List.range (2 * w * (y + 1))).map fun i => Dk l (bigI w i)) := by
  have sm := P.small
  have len := P.len
  have hw := P.hw
  have hw2 := P.hw2
  have hh2 := P.hh2
  intro m
  induction m with
  | zero =>
    intro x K hx
    obtain rfl : x = 2 * w := by omega
    rw [show K + 0 + 1 = K + 1 from rfl, barscanref31_Enlarge.l1, if_neg (by omega), wrap_next (show y < 1000000000 by omega), Nat.mul_succ]
  | succ m ih =>
    intro x K hx
    have nx := ih (x + 1) K (by omega)
    obtain ⟨p1, p2, p3⟩ := place (w := 2 * w) (h := 2 * h) (x := x) (y := y) (by omega) hy
    have s := snoc (fun i => Dk l (bigI w i)) (2 * w * y + x)
    have e1 : Int.tdiv (x : Int) 2 = ((x / 2 : Nat) : Int) := by rw [Int.tdiv_eq_ediv_of_nonneg (by omega)]; omega
    have e2 : Int.tdiv (y : Int) 2 = ((y / 2 : Nat) : Int) := by rw [Int.tdiv_eq_ediv_of_nonneg (by omega)]; omega
    have b1 : -4611686018427387904 ≤ ((x / 2 : Nat) : Int) ∧ ((x / 2 : Nat) : Int) ≤ 4611686018427387904 := by omega
    have b2 : -4611686018427387904 ≤ ((y / 2 : Nat) : Int) ∧ ((y / 2 : Nat) : Int) ≤ 4611686018427387904 := by omega
    have big : 2 * w * (2 * h) ≤ 1600 := by rw [Nat.mul_mul_mul_comm]; omega
    rw [show K + (m + 1) + 1 = (K + m + 1) + 1 from by omega, barscanref31_Enlarge.l1, if_pos (by omega), if_neg (by decide), e1, e2, w64 b1, w64 b2, at_in P.vd len _ _ (by omega) (by omega), Option.bind_some, if_pos (by rw [List.length_map, List.length_range]; omega), wrap_next (show x < 1000000000 by omega)]
    have eb : bigI w (2 * w * y + x) = w * (y / 2) + x / 2 := by unfold bigI; rw [p2, p3]
    rw [← eb, s]
    exact nx
theorem big_l0 (P : Pic SA q w h l) : ∀ (m y K : Nat), y + m = 2 * h → m * 1000 + 10 ≤ K →
    barscanref31_Enlarge.l0 K 2 (y : Int) (w : Int) (h : Int) l ((2 * w : Nat) : Int) ((2 * h : Nat) : Int) ((List.range (2 * w * y)).map fun i => Dk l (bigI w i)) = some (((2 * w : Nat) : Int), ((2 * h : Nat) : Int), bigL w h l, 0) := by
  have hw2 := P.hw2
  have hh2 := P.hh2
  intro m
  induction m with
  | zero =>
    intro y K hy hK
    obtain ⟨K, rfl⟩ : ∃ K', K = K' + 1 := ⟨K - 1, by omega⟩
    obtain rfl : y = 2 * h := by omega
    rw [barscanref31_Enlarge.l0, if_neg (by omega)]
    rfl
  | succ m ih =>
    intro y K hy hK
    obtain ⟨K0, hK0, hK1⟩ : ∃ K', K = (K' + 2 * w + 1) + 1 ∧ m * 1000 + 10 ≤ K' := by
      rw [Nat.succ_mul] at hK
      generalize m * 1000 = z at *
      exact ⟨K - (2 * w + 2), by omega, by omega⟩
    subst hK0
    clear hK
    have r := big_l1 P y (by omega) (2 * w) 0 K0 (by omega)
    rw [show 2 * w * y + 0 = 2 * w * y from rfl, show ((0 : Nat) : Int) = 0 from rfl] at r
    rw [barscanref31_Enlarge.l0, if_pos (by omega), r]
    exact ih (y + 1) K0 (by omega) hK1
theorem big_vd (P : Pic SA q w h l) : Vd ((2 * w : Nat) : Int) ((2 * h : Nat) : Int) (bigL w h l) ∧ (bigL w h l).length = 2 * w * (2 * h) ∧ 2 * w * (2 * h) ≤ 1600 := by
  have a := P.hw; have b := P.hw2; have c := P.hh; have d := P.hh2; have sm := P.small
  have big : 2 * w * (2 * h) ≤ 1600 := by rw [Nat.mul_mul_mul_comm]; omega
  have len : (bigL w h l).length = 2 * w * (2 * h) := by unfold bigL; rw [List.length_map, List.length_range]
  have m : ((2 * w : Nat) : Int) * ((2 * h : Nat) : Int) = ((2 * w * (2 * h) : Nat) : Int) := (Int.natCast_mul _ _).symm
  exact ⟨⟨by omega, by omega, by omega, by omega, by rw [m]; omega, by rw [m, len]⟩, len, big⟩
theorem big_f (P : Pic SA q w h l) (K : Nat) (hK : 1000000 ≤ K) : barscanref31_Enlarge.f K (w : Int) (h : Int) l 2 = some (((2 * w : Nat) : Int), ((2 * h : Nat) : Int), bigL w h l, 0) := by
  have hw2 := P.hw2
  have hh2 := P.hh2
  have v := (big_vd P).1
  obtain ⟨K, rfl⟩ : ∃ K', K = K' + 1 := ⟨K - 1, by omega⟩
  have d0 : decide ((2 : Int) > 4096) = false := by decide
  have n1 : wrap64 (2 * (w : Int)) = ((2 * w : Nat) : Int) := by rw [w64 (by omega)]; omega
  have n2 : wrap64 (2 * (h : Int)) = ((2 * h : Nat) : Int) := by rw [w64 (by clear n1; omega)]; omega
  unfold barscanref31_Enlarge.f
  rw [valid1 P.vd, Option.bind_some, if_pos rfl, if_neg (by decide), d0, barscanref31_Enlarge.j0, if_neg (by decide), n1, n2, fits_eq, possible_eq, decide_eq_true ⟨v.w1, v.w2, v.h1, v.h2, v.wh⟩, Option.bind_some, if_pos rfl]
  exact big_l0 P (2 * h) 0 K (by omega) (by omega)
end
/-! areas, in order -/
theorem areas_l1 (B : List S38) (acc : List Int) (t : Nat) (ht : t < B.length) (ha : acc.length ≤ 100000) : ∀ (m k K : Nat), k + m = acc.length → m < K → ∃ K', K ≤ K' + m + 1 ∧
    barscanlaw38_areas.l1 K B 0 acc (t : Int) (acc.take k) (k : Int) = barscanlaw38_areas.l0 K' B 0 (acc.take k ++ ins (B.getD t z38).f1 (acc.drop k)) (wrap64 ((t : Int) + 1)) := by
  intro m
  induction m with
  | zero =>
    intro k K hk hK
    obtain ⟨K, rfl⟩ : ∃ K', K = K' + 1 := ⟨K - 1, by omega⟩
    obtain rfl : k = acc.length := by omega
    refine ⟨K, by omega, ?_⟩
    rw [barscanlaw38_areas.l1, if_neg (by omega), if_pos (by omega), if_pos (by omega), rdT, List.take_length, if_pos (by omega), Option.bind_some, if_pos (by omega), if_pos (by omega), Int.toNat_natCast, List.drop_length, Option.bind_some, if_pos (by rw [List.length_append]; simp; omega), List.append_nil]
    rfl
  | succ m ih =>
    intro k K hk hK
    obtain ⟨K, rfl⟩ : ∃ K', K = K' + 1 := ⟨K - 1, by omega⟩
    have hkl : k < acc.length := by omega
    have dr : acc.drop k = acc.getD k 0 :: acc.drop (k + 1) := by
      rw [List.drop_eq_getElem_cons hkl, List.getD_eq_getElem?_getD, List.getElem?_eq_getElem hkl]
      rfl
    have tk : acc.take k ++ [acc.getD k 0] = acc.take (k + 1) := by
      rw [List.getD_eq_getElem?_getD, List.getElem?_eq_getElem hkl, List.take_add_one, List.getElem?_eq_getElem hkl]
      rfl
    have tl : (acc.take k).length < 17592186044416 := by rw [List.length_take]; omega
    rw [barscanlaw38_areas.l1, if_pos (by omega), if_pos (by omega), if_pos (by omega), if_pos (by omega), rdN, rdT, if_pos tl]
    by_cases c : acc.getD k 0 ≤ (B.getD t z38).f1
    · obtain ⟨K', h1, h2⟩ := ih (k + 1) K (by omega) (by omega)
      refine ⟨K', by omega, ?_⟩
      rw [if_pos c, tk, wrap_next (show k < 1000000000 by omega), h2, dr]
      simp only [ins]
      rw [if_pos c, List.append_cons, tk]
    · refine ⟨K, by omega, ?_⟩
      rw [if_neg c, if_pos tl, Option.bind_some, if_pos (by omega), Int.toNat_natCast, Option.bind_some, if_pos (by simp; omega), dr]
      simp only [ins]
      rw [if_neg c, List.append_assoc]
      rfl
theorem areas_l0 (B : List S38) (hB : B.length ≤ 2000) : ∀ (m t K : Nat) (acc : List Int), t + m = B.length → acc.length = t → m * 3000 + 10 ≤ K →
    barscanlaw38_areas.l0 K B 0 acc (t : Int) = some (((B.drop t).map fun b => b.f1).foldl (fun a v => ins v a) acc, true) := by
  intro m
  induction m with
  | zero =>
    intro t K acc ht ha hK
    obtain ⟨K, rfl⟩ : ∃ K', K = K' + 1 := ⟨K - 1, by omega⟩
    obtain rfl : t = B.length := by omega
    rw [barscanlaw38_areas.l0, if_neg (by omega), List.drop_length]
    rfl
  | succ m ih =>
    intro t K acc ht ha hK
    obtain ⟨K, rfl⟩ : ∃ K', K = K' + 1 := ⟨K - 1, by omega⟩
    have htB : t < B.length := by omega
    rw [Nat.succ_mul] at hK
    have kz : acc.length < K ∧ ∀ K', K ≤ K' + acc.length + 1 → m * 3000 + 10 ≤ K' := by
      generalize m * 3000 = z at *
      exact ⟨by omega, fun K' h => by omega⟩
    obtain ⟨K', h1, h2⟩ := areas_l1 B acc t htB (by omega) acc.length 0 K (by omega) kz.1
    rw [List.take_zero, List.nil_append, List.drop_zero, show ((0 : Nat) : Int) = 0 from rfl, wrap_next (show t < 1000000000 by omega)] at h2
    rw [barscanlaw38_areas.l0, if_pos (by omega), h2, ih (t + 1) K' _ (by omega) (by rw [(ins_perm _ _).length_eq, List.length_cons]; omega) (kz.2 K' h1)]
    have dr : B.drop t = B.getD t z38 :: B.drop (t + 1) := by
      rw [List.drop_eq_getElem_cons htB, List.getD_eq_getElem?_getD, List.getElem?_eq_getElem htB]
      rfl
    rw [dr, List.map_cons, List.foldl_cons]
theorem areas_f {w h : Nat} {l : List Bool} (v : Vd (w : Int) (h : Int) l) (hwh : l.length = w * h) (hs : l.length ≤ 1600) (K : Nat) (hK : 10000000 ≤ K) :
    ∃ L B, Spec w true (w * h) (Dk l) L B ∧ B.length ≤ 1600 ∧ barscanlaw38_areas.f K (w : Int) (h : Int) l = some (isort (B.map fun b => b.f1), true) := by
  have w1 := v.w1; have w2 := v.w2; have h1' := v.h1; have h2' := v.h2
  obtain ⟨L, B, h1, h3⟩ := label_spec w h l true (by omega) (by omega) (by omega) (by omega) hwh
  have hB := h3.few
  rw [hwh] at h3
  refine ⟨L, B, h3, by omega, ?_⟩
  unfold barscanlaw38_areas.f components_Label.f
  rw [check1 v, Option.bind_some, if_pos rfl, h1, Option.bind_some]
  dsimp only
  rw [if_neg (by omega), Option.bind_some]
  dsimp only
  have := areas_l0 B (by omega) B.length 0 K [] (by omega) rfl (by omega)
  rw [show ((0 : Nat) : Int) = 0 from rfl, List.drop_zero] at this
  exact this
theorem same_l0 (L : List Int) (hl : L.length ≤ 1000000) : ∀ (m i K : Nat), i + m = L.length → m < K → barscanlaw38_same.l0 K L L (i : Int) = some true := by
  intro m
  induction m with
  | zero =>
    intro i K hi hK
    obtain ⟨K, rfl⟩ : ∃ K', K = K' + 1 := ⟨K - 1, by omega⟩
    rw [barscanlaw38_same.l0, if_neg (by omega)]
  | succ m ih =>
    intro i K hi hK
    obtain ⟨K, rfl⟩ : ∃ K', K = K' + 1 := ⟨K - 1, by omega⟩
    rw [barscanlaw38_same.l0, if_pos (by omega), if_pos (by omega), if_pos (by omega), if_pos rfl, wrap_next (show i < 1000000000 by omega)]
    exact ih (i + 1) K (by omega) (by omega)
theorem sym_l0 (A : List Int) (hl : A.length ≤ 1000000) (hb : ∀ x ∈ A, 0 ≤ x ∧ x ≤ 1000000) : ∀ (m i K : Nat), i + m = A.length → m < K → barscanlaw38_ComponentsSymmetric.l0 K A (A.map fun a => 4 * a) (i : Int) = some true := by
  intro m
  induction m with
  | zero =>
    intro i K hi hK
    obtain ⟨K, rfl⟩ : ∃ K', K = K' + 1 := ⟨K - 1, by omega⟩
    rw [barscanlaw38_ComponentsSymmetric.l0, if_neg (by omega)]
    rfl
  | succ m ih =>
    intro i K hi hK
    obtain ⟨K, rfl⟩ : ∃ K', K = K' + 1 := ⟨K - 1, by omega⟩
    have hiA : i < A.length := by omega
    have g : A.getD i 0 = A[i] := by rw [List.getD_eq_getElem?_getD, List.getElem?_eq_getElem hiA]; rfl
    have b := hb _ (List.getElem_mem hiA)
    rw [← g] at b
    have e : rd (A.map fun a => 4 * a) (i : Int) = wrap64 (4 * rd A (i : Int)) := by
      rw [rdN, rdN, w64 (by omega), g, List.getD_eq_getElem?_getD, List.getElem?_map, List.getElem?_eq_getElem hiA]
      rfl
    rw [barscanlaw38_ComponentsSymmetric.l0, if_pos (by omega), if_pos (by omega), if_pos (by rw [List.length_map]; omega), if_pos e, wrap_next (show i < 1000000000 by omega)]
    exact ih (i + 1) K (by omega) (by omega)
theorem sym_true (W H : Int) (l : List Bool) (a1 : Int) (K : Nat) (hK : 80000000 ≤ K) : barscanlaw38_ComponentsSymmetric.f K W H l a1 = some true := by
  have j0t : barscanlaw38_ComponentsSymmetric.j0 K a1 true W H l = some true := by
    obtain ⟨K, rfl⟩ : ∃ K', K = K' + 1 := ⟨K - 1, by omega⟩
    rw [barscanlaw38_ComponentsSymmetric.j0, if_pos rfl]
    rfl
  unfold barscanlaw38_ComponentsSymmetric.f
  by_cases hl : (l.length : Int) > 400
  · rw [if_pos hl]; exact j0t
  · rw [if_neg hl]
    by_cases v : Vd W H l
    · rw [rcheck1 v, Option.bind_some]
      obtain ⟨K, rfl⟩ : ∃ K', K = K' + 1 + 1 := ⟨K - 2, by omega⟩
      have v' := v
      obtain ⟨w, h, rfl, rfl, hw, hw2, hh, hh2, hwh⟩ := v.nat'
      have wl : w ≤ 400 := Nat.le_trans (Nat.le_mul_of_pos_right w hh) (by rw [← hwh]; omega)
      have hll : h ≤ 400 := Nat.le_trans (Nat.le_mul_of_pos_left h hw) (by rw [← hwh]; omega)
      obtain ⟨L, B, s1, b1, ar1⟩ := areas_f v' hwh (by omega) (K + 1) (by omega)
      have P : Pic (B.map fun b => b.f1) (quads (w : Int) (h : Int) (D2 w h l)) w h l := ⟨hw, wl, hh, hll, hwh, by omega, rfl, fun L' B' Sp' => by rw [(Sp'.unique s1).2]⟩
      obtain ⟨w', h', l', tf, P'⟩ := turn_f P a1 (K + 1) (by omega)
      have mf := mirror_f P' (K + 1) (by omega)
      have P'' := P'.mirror
      have bf := big_f P (K + 1) (by omega)
      obtain ⟨bv, bl, bs⟩ := big_vd P
      obtain ⟨L2, B2, s2, b2, ar2⟩ := areas_f P''.vd P''.len (by have := P''.len; have := P''.small; omega) (K + 1) (by omega)
      obtain ⟨L3, B3, s3, b3, ar3⟩ := areas_f bv bl (by omega) (K + 1) (by omega)
      rw [isort_congr (P''.areas L2 B2 s2)] at ar2
      rw [isort_congr (P.big s3), isort_four] at ar3
      have eu : ∀ (w h : Nat) (l : List Bool) (SA : List Int) (q : Int), Pic SA q w h l → ∃ n : Int, 4 * n = q ∧ components_Euler.f (K + 1) (w : Int) (h : Int) l = some (n, 0) := by
        intro w h l SA q P
        have sm := P.small
        have ln := P.len
        obtain ⟨L, B, L', B', h1, h3, h5, h6⟩ := euler_prog w h l P.hw (by have := P.hw2; omega) P.hh (by have := P.hh2; omega) P.len (K + 1) (by omega) P.vd.wh
        have fw := h3.few
        rw [if_pos (by omega)] at h6
        rw [P.len] at h3 h5
        exact ⟨_, by rw [euler_quads P.hw P.hh h3 h5]; exact P.quads, h6⟩
      obtain ⟨n1, q1, e1⟩ := eu w h l _ _ P
      obtain ⟨n2, q2, e2⟩ := eu w' h' (mirL w' h' l') _ _ P''
      have n12 : n1 = n2 := by omega
      have bd : ∀ x ∈ isort (B.map fun b => b.f1), 0 ≤ x ∧ x ≤ 1000000 := by
        intro x hx
        obtain ⟨b, hb, rfl⟩ := List.mem_map.1 ((isort_perm _).mem_iff.1 hx)
        obtain ⟨c, hc, hcb⟩ := List.mem_iff_getElem.1 hb
        obtain ⟨ps, nd, hp, hf⟩ := (s1.blob c hc).area
        have e : B.getD c z38 = b := by rw [List.getD_eq_getElem?_getD, List.getElem?_eq_getElem hc]; exact hcb
        rw [e] at hf
        have := nd.length_le_of_subset (l₂ := List.range (w * h)) (fun j hj => List.mem_range.2 ((hp j).1 hj).1.1)
        rw [List.length_range] at this
        omega
      have il : (isort (B.map fun b => b.f1)).length ≤ 1600 := by rw [(isort_perm _).length_eq, List.length_map]; omega
      have sm : barscanlaw38_same.f (K + 1) (isort (B.map fun b => b.f1)) (isort (B.map fun b => b.f1)) = some true := by
        unfold barscanlaw38_same.f
        rw [if_pos rfl]
        exact same_l0 _ (by omega) _ 0 (K + 1) (Nat.zero_add _) (by omega)
      rw [barscanlaw38_ComponentsSymmetric.j0, if_neg (by decide), tf, Option.bind_some]
      dsimp only
      rw [mf, Option.bind_some, bf, Option.bind_some, ar1, Option.bind_some]
      dsimp only
      rw [ar2, Option.bind_some, ar3, Option.bind_some, e1, Option.bind_some, e2, Option.bind_some]
      dsimp only
      rw [if_pos rfl, if_pos rfl, if_pos rfl, if_pos rfl, if_pos rfl, if_pos n12, sm, Option.bind_some, if_pos rfl, List.length_map, bne_self_eq_false, barscanlaw38_ComponentsSymmetric.j1, if_neg (by decide)]
      exact sym_l0 _ (by omega) bd _ 0 K (Nat.zero_add _) (by omega)
    · rw [rcheck0 v, Option.bind_some]
      exact j0t
end Go.Proofs.Ytahibhipffojlaa.P
