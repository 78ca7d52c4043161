/- Extract and its specification cut the same bitmap. -/
import Derived.Test.YtahibhipffojlaaP0
import Derived.Test.YtahibhipffojlaaMx26
import Derived.Test.YtahibhipffojlaaMx27
import Derived.Test.YtahibhipffojlaaMx28
set_option linter.unusedSimpArgs false
set_option linter.unusedVariables false
namespace Go.Proofs.Ytahibhipffojlaa.P
open Go.RowKit Go.Proofs.YtahibhipffojlaaW.PrintWords Go.Proofs.YtahibhipffojlaaW.PrintMore Go.Proofs.Ytahibhipffojlaa.M

/-- a row of the cut -/
def rowF (ls : List Int) (num : Int) : Int → Nat → List Bool
  | _, 0 => []
  | b, n + 1 => (rd ls b == num) :: rowF ls num (b + 1) n
/-- the rows from an index on -/
def allF (ls : List Int) (num W : Int) (w : Nat) : Int → Nat → List Bool
  | _, 0 => []
  | b, n + 1 => rowF ls num b w ++ allF ls num W w (b + W) n
theorem rowF_length (ls : List Int) (num : Int) : ∀ (n : Nat) (b : Int), (rowF ls num b n).length = n := by
  intro n
  induction n with
  | zero => intro b; rfl
  | succ n ih => intro b; simp [rowF, ih]
theorem allF_length (ls : List Int) (num W : Int) (w : Nat) : ∀ (n : Nat) (b : Int), (allF ls num W w b n).length = n * w := by
  intro n
  induction n with
  | zero => intro b; simp [allF]
  | succ n ih => intro b; simp [allF, ih, rowF_length, Nat.succ_mul, Nat.add_comm]

theorem ex_l1 (ls : List Int) (num j h1 y x W : Int) (w h : Int) (l : List Bool) (H ow oh : Int) (hb : 0 ≤ (y + j) * W + x) (hW : (y + j) * W + x + w ≤ ls.length) (hls : (ls.length : Int) ≤ 4194304)
    (hy : 0 ≤ y + j ∧ y + j ≤ 4096) (hx : 0 ≤ x ∧ x ≤ 4096) (hWW : 1 ≤ W ∧ W ≤ 4096) :
    ∀ (n : Nat) (i : Int) (K : Nat) (acc : List Bool), 0 ≤ i → i + n = w → n < K → acc.length + n ≤ 20000000 →
      components_Extract.l1 K ls num j h1 j w i W H l x y w h ow oh acc = components_Extract.l0 (K - n - 1) ls num h1 (wrap64 (j + 1)) W H l x y w h ow oh (acc ++ rowF ls num ((y + j) * W + x + i) n) := by
  have hp : (y + j) * W ≤ 16777216 ∧ 0 ≤ (y + j) * W := by
    refine ⟨?_, Int.mul_nonneg hy.1 (by omega)⟩
    have : (y + j) * W ≤ 4096 * W := Int.mul_le_mul_of_nonneg_right hy.2 (by omega)
    omega
  intro n
  induction n with
  | zero =>
    intro i K acc hi hn hK hl
    obtain ⟨K, rfl⟩ : ∃ K', K = K' + 1 := ⟨K - 1, by omega⟩
    rw [components_Extract.l1, if_neg (by omega)]
    simp [rowF]
  | succ n ih =>
    intro i K acc hi hn hK hl
    obtain ⟨K, rfl⟩ : ∃ K', K = K' + 1 := ⟨K - 1, by omega⟩
    have e1 : wrap64 (y + j) = y + j := w64 (by omega)
    have e2 : wrap64 ((y + j) * W) = (y + j) * W := w64 (by omega)
    have e3 : wrap64 ((y + j) * W + x) = (y + j) * W + x := w64 (by omega)
    have e4 : wrap64 ((y + j) * W + x + i) = (y + j) * W + x + i := w64 (by omega)
    rw [components_Extract.l1, if_pos (by omega), e1, e2, e3, e4, if_pos (by omega), if_pos (by omega), if_pos (by omega), w64 (by omega), ih (i + 1) K _ (by omega) (by omega) (by omega) (by simp; omega)]
    rw [show K + 1 - (n + 1) - 1 = K - n - 1 by omega]
    congr 1
    simp [rowF, Int.add_assoc]

theorem row_in {y j W x w H len : Int} (hy : 0 ≤ y) (hj : 0 ≤ j) (hjH : y + j < H) (hx : 0 ≤ x) (hxw : x + w ≤ W) (hw : 1 ≤ w) (hWW : 1 ≤ W ∧ W ≤ 4096) (hlen : len = W * H) : 0 ≤ (y + j) * W + x ∧ (y + j) * W + x + w ≤ len := by
  have a : 0 ≤ (y + j) * W := Int.mul_nonneg (by omega) (by omega)
  have b : (y + j) * W ≤ (H - 1) * W := Int.mul_le_mul_of_nonneg_right (by omega) (by omega)
  have c : (H - 1) * W = W * H - W := by rw [Int.sub_mul, Int.one_mul, Int.mul_comm]
  omega

theorem ex_l0 (ls : List Int) (num y x W : Int) (w : Nat) (H : Int) (l : List Bool) (ow oh : Int) (hls : (ls.length : Int) ≤ 4194304) (hlen : (ls.length : Int) = W * H) (hy : 0 ≤ y) (hx : 0 ≤ x) (hw : 1 ≤ w) (hxw : x + w ≤ W) (hWW : 1 ≤ W ∧ W ≤ 4096) (hHH : 1 ≤ H ∧ H ≤ 4096) (h1 : Int) (hyh : y + h1 ≤ H) (ha : Int) :
    ∀ (n : Nat) (j : Int) (K : Nat) (acc : List Bool), 0 ≤ j → j + n = h1 → n * (w + 2) < K → acc.length + n * w ≤ 20000000 → n ≤ 4096 →
      components_Extract.l0 K ls num h1 j W H l x y (w : Int) ha ow oh acc = some (ow, oh, acc ++ allF ls num W w ((y + j) * W + x) n, 0) := by
  intro n
  induction n with
  | zero =>
    intro j K acc hj hn hK hl hn4
    obtain ⟨K, rfl⟩ : ∃ K', K = K' + 1 := ⟨K - 1, by omega⟩
    rw [components_Extract.l0, if_neg (by omega)]
    simp [allF]
  | succ n ih =>
    intro j K acc hj hn hK hl hn4
    rw [Nat.succ_mul] at hK hl
    obtain ⟨K, rfl⟩ : ∃ K', K = K' + 1 := ⟨K - 1, by omega⟩
    obtain ⟨r1, r2⟩ := row_in (y := y) (j := j) (W := W) (x := x) (w := w) (H := H) (len := ls.length) hy hj (by omega) hx hxw (by omega) hWW hlen
    rw [components_Extract.l0, if_pos (by omega), ex_l1 ls num j h1 y x W w ha l H ow oh r1 r2 hls (by omega) (by omega) hWW w 0 K acc (by omega) (by omega) (by omega) (by omega), w64 (by omega), ih (j + 1) _ _ (by omega) (by omega) (by omega) (by rw [List.length_append, rowF_length]; omega) (by omega)]
    simp only [allF, Int.add_zero, List.append_assoc]
    rw [show (y + (j + 1)) * W + x = (y + j) * W + x + W by rw [← Int.add_assoc, Int.add_mul, Int.one_mul]; omega]

theorem rx_l1 (ls : List Int) (num j h1 y x W : Int) (w : Int) (l : List Bool) (H ow oh : Int) (hb : 0 ≤ (y + j) * W + x) (hW : (y + j) * W + x + w ≤ ls.length) (hls : (ls.length : Int) ≤ 4194304)
    (hy : 0 ≤ y + j ∧ y + j ≤ 4096) (hx : 0 ≤ x ∧ x ≤ 4096) (hWW : 1 ≤ W ∧ W ≤ 4096) :
    ∀ (n : Nat) (i : Int) (K : Nat) (acc : List Bool), 0 ≤ i → i + n = w → n < K → acc.length + n ≤ 20000000 →
      barscanref38_Extract.l1 K ls num x y w h1 j i W H l ow oh acc = barscanref38_Extract.l0 (K - n - 1) ls num x y w h1 (wrap64 (j + 1)) W H l ow oh (acc ++ rowF ls num ((y + j) * W + x + i) n) := by
  have hp : (y + j) * W ≤ 16777216 ∧ 0 ≤ (y + j) * W := by
    refine ⟨?_, Int.mul_nonneg hy.1 (by omega)⟩
    have : (y + j) * W ≤ 4096 * W := Int.mul_le_mul_of_nonneg_right hy.2 (by omega)
    omega
  intro n
  induction n with
  | zero =>
    intro i K acc hi hn hK hl
    obtain ⟨K, rfl⟩ : ∃ K', K = K' + 1 := ⟨K - 1, by omega⟩
    rw [barscanref38_Extract.l1, if_neg (by omega)]
    simp [rowF]
  | succ n ih =>
    intro i K acc hi hn hK hl
    obtain ⟨K, rfl⟩ : ∃ K', K = K' + 1 := ⟨K - 1, by omega⟩
    have e1 : wrap64 (y + j) = y + j := w64 (by omega)
    have e2 : wrap64 ((y + j) * W) = (y + j) * W := w64 (by omega)
    have e3 : wrap64 ((y + j) * W + x) = (y + j) * W + x := w64 (by omega)
    have e4 : wrap64 ((y + j) * W + x + i) = (y + j) * W + x + i := w64 (by omega)
    rw [barscanref38_Extract.l1, if_pos (by omega), e1, e2, e3, e4, if_pos (by omega), if_pos (by omega), if_pos (by omega), w64 (by omega), ih (i + 1) K _ (by omega) (by omega) (by omega) (by simp; omega)]
    rw [show K + 1 - (n + 1) - 1 = K - n - 1 by omega]
    congr 1
    simp [rowF, Int.add_assoc]
theorem rx_l0 (ls : List Int) (num y x W : Int) (w : Nat) (H : Int) (l : List Bool) (ow oh : Int) (hls : (ls.length : Int) ≤ 4194304) (hlen : (ls.length : Int) = W * H) (hy : 0 ≤ y) (hx : 0 ≤ x) (hw : 1 ≤ w) (hxw : x + w ≤ W) (hWW : 1 ≤ W ∧ W ≤ 4096) (hHH : 1 ≤ H ∧ H ≤ 4096) (h1 : Int) (hyh : y + h1 ≤ H) :
    ∀ (n : Nat) (j : Int) (K : Nat) (acc : List Bool), 0 ≤ j → j + n = h1 → n * (w + 2) < K → acc.length + n * w ≤ 20000000 → n ≤ 4096 →
      barscanref38_Extract.l0 K ls num x y (w : Int) h1 j W H l ow oh acc = some (ow, oh, acc ++ allF ls num W w ((y + j) * W + x) n, 0) := by
  intro n
  induction n with
  | zero =>
    intro j K acc hj hn hK hl hn4
    obtain ⟨K, rfl⟩ : ∃ K', K = K' + 1 := ⟨K - 1, by omega⟩
    rw [barscanref38_Extract.l0, if_neg (by omega)]
    simp [allF]
  | succ n ih =>
    intro j K acc hj hn hK hl hn4
    rw [Nat.succ_mul] at hK hl
    obtain ⟨K, rfl⟩ : ∃ K', K = K' + 1 := ⟨K - 1, by omega⟩
    obtain ⟨r1, r2⟩ := row_in (y := y) (j := j) (W := W) (x := x) (w := w) (H := H) (len := ls.length) hy hj (by omega) hx hxw (by omega) hWW hlen
    rw [barscanref38_Extract.l0, if_pos (by omega), rx_l1 ls num j h1 y x W w l H ow oh r1 r2 hls (by omega) (by omega) hWW w 0 K acc (by omega) (by omega) (by omega) (by omega), w64 (by omega), ih (j + 1) _ _ (by omega) (by omega) (by omega) (by rw [List.length_append, rowF_length]; omega) (by omega)]
    simp only [allF, Int.add_zero, List.append_assoc]
    rw [show (y + (j + 1)) * W + x = (y + j) * W + x + W by rw [← Int.add_assoc, Int.add_mul, Int.one_mul]; omega]

/-- the box lies in the bitmap -/
def Inside (W H x y w h : Int) : Prop := 0 ≤ x ∧ 0 ≤ y ∧ 1 ≤ w ∧ 1 ≤ h ∧ x + w ≤ W ∧ y + h ≤ H
instance (W H x y w h : Int) : Decidable (Inside W H x y w h) := by unfold Inside; infer_instance
theorem ex_j (ls : List Int) (num W H x y w h : Int) (l : List Bool) (K : Nat) (b : Bool) (hb : b = decide (¬ Inside W H x y w h)) (v : Vd W H l) (hlen : (ls.length : Int) = W * H) (hK : 60000000 ≤ K) :
    components_Extract.j0 K ls num b W H l x y w h = if Inside W H x y w h then some (w, h, allF ls num W w.toNat (y * W + x) h.toNat, 0) else some (0, 0, [], 3) := by
  obtain ⟨K, rfl⟩ : ∃ K', K = K' + 1 := ⟨K - 1, by omega⟩
  have v1 := v.w1; have v2 := v.w2; have v3 := v.h1; have v4 := v.h2; have v5 := v.wh
  rw [components_Extract.j0, hb]
  by_cases i : Inside W H x y w h
  · rw [decide_eq_false (by simpa using i), if_neg (by simp), if_pos i]
    obtain ⟨i1, i2, i3, i4, i5, i6⟩ := i
    obtain ⟨wn, rfl⟩ := Int.eq_ofNat_of_zero_le (show 0 ≤ w by omega)
    obtain ⟨hn, rfl⟩ := Int.eq_ofNat_of_zero_le (show 0 ≤ h by omega)
    have m1 : hn * wn ≤ 4096 * 4096 := Nat.mul_le_mul (by omega) (by omega)
    have m2 : hn * (wn + 2) ≤ 4096 * 4098 := Nat.mul_le_mul (by omega) (by omega)
    have h0 := ex_l0 ls num y x W wn H l wn hn (by omega) hlen i2 i1 (by omega) i5 ⟨v1, v2⟩ ⟨v3, v4⟩ hn i6 hn hn 0 K [] (by omega) (by omega) (by omega) (by simp; omega) (by omega)
    rw [h0]
    simp
  · rw [decide_eq_true i, if_pos rfl, if_neg i]
theorem rx_j (ls : List Int) (num W H x y w h : Int) (l : List Bool) (K : Nat) (b : Bool) (hb : b = decide (¬ Inside W H x y w h)) (v : Vd W H l) (hlen : (ls.length : Int) = W * H) (hK : 60000000 ≤ K) :
    barscanref38_Extract.j1 K ls num x y w h b W H l = if Inside W H x y w h then some (w, h, allF ls num W w.toNat (y * W + x) h.toNat, 0) else some (0, 0, [], 3) := by
  obtain ⟨K, rfl⟩ : ∃ K', K = K' + 1 := ⟨K - 1, by omega⟩
  have v1 := v.w1; have v2 := v.w2; have v3 := v.h1; have v4 := v.h2; have v5 := v.wh
  rw [barscanref38_Extract.j1, hb]
  by_cases i : Inside W H x y w h
  · rw [decide_eq_false (by simpa using i), if_neg (by simp), if_pos i]
    obtain ⟨i1, i2, i3, i4, i5, i6⟩ := i
    obtain ⟨wn, rfl⟩ := Int.eq_ofNat_of_zero_le (show 0 ≤ w by omega)
    obtain ⟨hn, rfl⟩ := Int.eq_ofNat_of_zero_le (show 0 ≤ h by omega)
    have m1 : hn * wn ≤ 4096 * 4096 := Nat.mul_le_mul (by omega) (by omega)
    have m2 : hn * (wn + 2) ≤ 4096 * 4098 := Nat.mul_le_mul (by omega) (by omega)
    have h0 := rx_l0 ls num y x W wn H l wn hn (by omega) hlen i2 i1 (by omega) i5 ⟨v1, v2⟩ ⟨v3, v4⟩ hn i6 hn 0 K [] (by omega) (by omega) (by omega) (by simp; omega) (by omega)
    rw [h0]
    simp
  · rw [decide_eq_true i, if_pos rfl, if_neg i]

theorem ex_cascade (ls : List Int) (num W H x y w h : Int) (l : List Bool) (K : Nat) (v : Vd W H l) (hlen : (ls.length : Int) = W * H) (hK : 60000000 ≤ K) :
    (if x < 0 then (components_Extract.j0 K ls num true W H l x y w h) else (if y < 0 then (components_Extract.j0 K ls num true W H l x y w h) else (if w < 1 then (components_Extract.j0 K ls num true W H l x y w h) else (if h < 1 then (components_Extract.j0 K ls num true W H l x y w h) else
      (if w > W then (components_Extract.j0 K ls num true W H l x y w h) else (if h > H then (components_Extract.j0 K ls num true W H l x y w h) else (if x > (wrap64 (W - w)) then (components_Extract.j0 K ls num true W H l x y w h) else (components_Extract.j0 K ls num (decide (y > (wrap64 (H - h)))) W H l x y w h)))))))) =
      if Inside W H x y w h then some (w, h, allF ls num W w.toNat (y * W + x) h.toNat, 0) else some (0, 0, [], 3) := by
  have v1 := v.w1; have v2 := v.w2; have v3 := v.h1; have v4 := v.h2
  have no : ∀ b : Bool, b = true → ¬ Inside W H x y w h → components_Extract.j0 K ls num b W H l x y w h = if Inside W H x y w h then some (w, h, allF ls num W w.toNat (y * W + x) h.toNat, 0) else some (0, 0, [], 3) := fun b hb hi => ex_j ls num W H x y w h l K b (by rw [hb, decide_eq_true hi]) v hlen hK
  split
  · exact no true rfl (fun i => by have := i.1; omega)
  split
  · exact no true rfl (fun i => by have := i.2.1; omega)
  split
  · exact no true rfl (fun i => by have := i.2.2.1; omega)
  split
  · exact no true rfl (fun i => by have := i.2.2.2.1; omega)
  split
  · exact no true rfl (fun i => by have := i.2.2.2.2.1; have := i.1; omega)
  split
  · exact no true rfl (fun i => by have := i.2.2.2.2.2; have := i.2.1; omega)
  rw [w64 (by omega), w64 (by omega)]
  split
  · exact no true rfl (fun i => by have := i.2.2.2.2.1; omega)
  refine ex_j ls num W H x y w h l K _ ?_ v hlen hK
  rw [decide_eq_decide]
  unfold Inside
  omega
theorem rx_cascade (ls : List Int) (num W H x y w h b4 b5 b6 : Int) (l : List Bool) (K : Nat) (v : Vd W H l) (hlen : (ls.length : Int) = W * H) (hK : 60000001 ≤ K) :
    barscanref38_Extract.j0 K ls num false W H l x y w h b4 b5 b6 = if Inside W H x y w h then some (w, h, allF ls num W w.toNat (y * W + x) h.toNat, 0) else some (0, 0, [], 3) := by
  obtain ⟨K, rfl⟩ : ∃ K', K = K' + 1 := ⟨K - 1, by omega⟩
  have v1 := v.w1; have v2 := v.w2; have v3 := v.h1; have v4 := v.h2
  have no : ∀ b : Bool, b = true → ¬ Inside W H x y w h → barscanref38_Extract.j1 K ls num x y w h b W H l = if Inside W H x y w h then some (w, h, allF ls num W w.toNat (y * W + x) h.toNat, 0) else some (0, 0, [], 3) := fun b hb hi => rx_j ls num W H x y w h l K b (by rw [hb, decide_eq_true hi]) v hlen (by omega)
  unfold barscanref38_Extract.j0
  dsimp only
  rw [if_neg (by simp)]
  split
  · exact no true rfl (fun i => by have := i.1; omega)
  split
  · exact no true rfl (fun i => by have := i.2.1; omega)
  split
  · exact no true rfl (fun i => by have := i.2.2.1; omega)
  split
  · exact no true rfl (fun i => by have := i.2.2.2.1; omega)
  split
  · exact no true rfl (fun i => by have := i.2.2.2.2.1; have := i.2.2.1; omega)
  split
  · exact no true rfl (fun i => by have := i.2.2.2.2.2; have := i.2.2.2.1; omega)
  rw [w64 (by omega), w64 (by omega)]
  split
  · exact no true rfl (fun i => by have := i.2.2.2.2.1; omega)
  refine rx_j ls num W H x y w h l K _ ?_ v hlen (by omega)
  rw [decide_eq_decide]
  unfold Inside
  omega
theorem ex_same (W H x y w h b4 b5 b6 num : Int) (l : List Bool) (ls : List Int) (K : Nat) (hK : 70000000 ≤ K) :
    ∃ a b c e, components_Extract.f K W H l ls x y w h b4 b5 b6 num = some (a, b, c, e) ∧ barscanref38_Extract.f K W H l ls x y w h b4 b5 b6 num = some (a, b, c, e) ∧ c.length ≤ 20000000 := by
  unfold components_Extract.f barscanref38_Extract.f
  by_cases v : Vd W H l
  · have v1 := v.w1; have v2 := v.w2; have v3 := v.h1; have v4 := v.h2
    rw [check1 v, rcheck1 v, Option.bind_some, Option.bind_some, if_pos rfl, if_pos rfl, w64 (by have := wh_b v1 v2 v3 v4; omega)]
    by_cases hl : (ls.length : Int) = W * H
    · rw [if_pos hl, ex_cascade ls num W H x y w h l K v hl (by omega), show ((ls.length : Int) != W * H) = false by simp [hl], rx_cascade ls num W H x y w h b4 b5 b6 l K v hl (by omega)]
      by_cases i : Inside W H x y w h
      · rw [if_pos i]
        refine ⟨_, _, _, _, rfl, rfl, ?_⟩
        rw [allF_length]
        obtain ⟨i1, i2, i3, i4, i5, i6⟩ := i
        exact Nat.le_trans (Nat.mul_le_mul (show h.toNat ≤ 4096 by omega) (show w.toNat ≤ 4096 by omega)) (by omega)
      · rw [if_neg i]
        exact ⟨_, _, _, _, rfl, rfl, by simp⟩
    · rw [if_neg hl, show ((ls.length : Int) != W * H) = true by simp [hl]]
      obtain ⟨K, rfl⟩ : ∃ K', K = K' + 1 := ⟨K - 1, by omega⟩
      unfold barscanref38_Extract.j0
      dsimp only
      rw [if_pos rfl]
      exact ⟨_, _, _, _, rfl, rfl, by simp⟩
  · rw [check0 v, rcheck0 v, Option.bind_some, Option.bind_some, if_neg (by omega), if_neg (by omega)]
    obtain ⟨K, rfl⟩ : ∃ K', K = K' + 1 := ⟨K - 1, by omega⟩
    unfold barscanref38_Extract.j0
    dsimp only
    rw [if_pos rfl]
    exact ⟨_, _, _, _, rfl, rfl, by simp⟩
theorem extracts_true (W H x y w h b4 b5 b6 num : Int) (l : List Bool) (ls : List Int) (K : Nat) (hK : 80000000 ≤ K) : barscanlaw38_ComponentsExtracts.f K W H l ls x y w h b4 b5 b6 num = some true := by
  have ex : ∀ b : Bool, barscanlaw38_ComponentsExtracts.j0 K ls num b W H l x y w h b4 b5 b6 = some true := by
    intro b
    obtain ⟨K, rfl⟩ : ∃ K', K = K' + 1 := ⟨K - 1, by omega⟩
    obtain ⟨a, b1, c, e, h1, h2, h3⟩ := ex_same W H x y w h b4 b5 b6 num l ls K (by omega)
    rw [barscanlaw38_ComponentsExtracts.j0, h1, h2]
    cases b
    · rw [if_neg (by simp), Option.bind_some, Option.bind_some, if_pos rfl, equal_self a b1 c (by omega) K (by omega), Option.bind_some, if_pos rfl]
      rfl
    · rw [if_pos rfl]
      rfl
  unfold barscanlaw38_ComponentsExtracts.f barscanlaw38_few.f
  rw [Option.bind_some]
  split
  · exact ex _
  · exact ex _
end Go.Proofs.Ytahibhipffojlaa.P
