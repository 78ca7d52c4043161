-- Machine side, printed by this session's own program over the kit's print (wip/tools/myprint.py). Lean checks it.
import Derived.Test.YtahibhipffojlaaMx0
import Derived.Test.YtahibhipffojlaaMx8
import Derived.Test.YtahibhipffojlaaMx20a
namespace Go.Proofs.Ytahibhipffojlaa.M
open Go.RowKit Go.Proofs.YtahibhipffojlaaW.PrintWords Go.Proofs.YtahibhipffojlaaW.PrintLast Go.Proofs.YtahibhipffojlaaW.PrintMore
attribute [local go_sem] max2_int min2_int max_two min_two max_three min_three max_four min_four   -- for this text's walks alone
set_option linter.unusedVariables false
set_option linter.unusedSimpArgs false

/-! ### barscanref31_Turn: function 28 -/
mutual
def barscanref31_Turn.l0 : Nat → Int → Int → Int → Int → List Bool → Int → Int → List Bool → Option (Int × Int × List Bool × Int)
  | 0, _, _, _, _, _, _, _, _ => none
  | k + 1, x1, x7, x588000, x588001, x588002, x597000, x597001, x597002 => (barscanref31_quarters.f x1).bind fun t597 => (if x7 < t597 then (barscanref31_Turn.l1 k x1 x7 0 x588000 x588001 x588002 x597000 x597001 x597002 x597001 x597000 ([] : List Bool)) else (some (x597000, x597001, x597002, 0)))
def barscanref31_Turn.l1 : Nat → Int → Int → Int → Int → Int → List Bool → Int → Int → List Bool → Int → Int → List Bool → Option (Int × Int × List Bool × Int)
  | 0, _, _, _, _, _, _, _, _, _, _, _, _ => none
  | k + 1, x1, x7, x9, x588000, x588001, x588002, x597000, x597001, x597002, x599000, x599001, x599002 => if x9 < (x588002.length : Int) then ((barscanref31_turned.f x597000 x597001 x9).bind fun t599 => (if 0 ≤ t599 then (if t599 < (x597002.length : Int) then (if x599002.length < 140737488355328 then (barscanref31_Turn.l1 k x1 x7 (wrap64 (x9 + 1)) x588000 x588001 x588002 x597000 x597001 x597002 x599000 x599001 (x599002 ++ [rdOf false x597002 t599])) else (none)) else (none)) else (none))) else (barscanref31_Turn.l0 k x1 (wrap64 (x7 + 1)) x588000 x588001 x588002 x599000 x599001 x599002)
end
def barscanref31_Turn.f (k : Nat) (a0_0 : Int) (a0_1 : Int) (l0_2 : List Bool) (a1 : Int) : Option (Int × Int × List Bool × Int) := (barscanref31_Valid.f a0_0 a0_1 l0_2).bind fun t589 => (if t589 = true then ((some (([] : List Bool) : List Bool)).bind fun y590 => (if y590.length + l0_2.length < 140737488355328 then (barscanref31_Turn.l0 k a1 0 a0_0 a0_1 l0_2 a0_0 a0_1 (y590 ++ l0_2)) else (none))) else (some (0, 0, ([] : List Bool), 1)))
theorem barscanref31_Turn.mono_l : ∀ k, (∀ y0 y1 y2 y3 y4 y5 y6 y7, LeO (barscanref31_Turn.l0 k y0 y1 y2 y3 y4 y5 y6 y7) (barscanref31_Turn.l0 (k + 1) y0 y1 y2 y3 y4 y5 y6 y7)) ∧ (∀ y0 y1 y2 y3 y4 y5 y6 y7 y8 y9 y10 y11, LeO (barscanref31_Turn.l1 k y0 y1 y2 y3 y4 y5 y6 y7 y8 y9 y10 y11) (barscanref31_Turn.l1 (k + 1) y0 y1 y2 y3 y4 y5 y6 y7 y8 y9 y10 y11))
  | 0 => ⟨fun _ _ _ _ _ _ _ _ r h => by simp [barscanref31_Turn.l0] at h, fun _ _ _ _ _ _ _ _ _ _ _ _ r h => by simp [barscanref31_Turn.l1] at h⟩
  | k + 1 => by
    obtain ⟨ih0, ih1⟩ := barscanref31_Turn.mono_l k
    refine ⟨?_, ?_⟩
    · intro y0 y1 y2 y3 y4 y5 y6 y7
      unfold barscanref31_Turn.l0
      repeat' first
      | (with_reducible exact ih1 _ _ _ _ _ _ _ _ _ _ _ _)
      | (with_reducible exact LeO.refl _)
      | (with_reducible refine LeO.ite ?_ ?_)
      | (with_reducible refine LeO.bind ?_ (fun _ => ?_))
    · intro y0 y1 y2 y3 y4 y5 y6 y7 y8 y9 y10 y11
      unfold barscanref31_Turn.l1
      repeat' first
      | (with_reducible exact ih0 _ _ _ _ _ _ _ _)
      | (with_reducible exact ih1 _ _ _ _ _ _ _ _ _ _ _ _)
      | (with_reducible exact LeO.refl _)
      | (with_reducible refine LeO.ite ?_ ?_)
      | (with_reducible refine LeO.bind ?_ (fun _ => ?_))
theorem barscanref31_Turn.mono : ∀ a0 a1 a2 a3 k, LeO (barscanref31_Turn.f k a0 a1 a2 a3) (barscanref31_Turn.f (k + 1) a0 a1 a2 a3) := by
  intro a0 a1 a2 a3 k
  obtain ⟨ih0, ih1⟩ := barscanref31_Turn.mono_l k
  unfold barscanref31_Turn.f
  repeat' first
      | (with_reducible exact ih0 _ _ _ _ _ _ _ _)
      | (with_reducible exact LeO.refl _)
      | (with_reducible refine LeO.ite ?_ ?_)
      | (with_reducible refine LeO.bind ?_ (fun _ => ?_))
def barscanref31_Turn.T3 : Bool × List (List Nat × List Nat) := (true, [([], []), ([0], [0]), ([], []), ([2], [2]), ([], []), ([], []), ([5], [5]), ([4, 6], [4, 6]), ([1, 3, 7], [1, 3, 7]), ([], []), ([9, 8, 7, 0, 1, 2, 3, 4, 5, 6, 7, 8, 9], [8, 9])])
def barscanref31_Turn.B3 : List Nat := [0, 1, 0, 4, 0, 0, 32, 112, 255, 0, 1023]
theorem barscanref31_Turn.tab3 : rtab .any (opsOf Try.f28 3) = barscanref31_Turn.T3 := by kernel_rfl
theorem barscanref31_Turn.bits3 : waitsOk barscanref31_Turn.T3.2 barscanref31_Turn.B3 = true := by kernel_rfl
def barscanref31_Turn.T11 : Bool × List (List Nat × List Nat) := (true, [([], []), ([0], [0]), ([], []), ([2], [2]), ([], []), ([4], [4]), ([], []), ([6], [6]), ([], []), ([5, 7, 8], [5, 7, 8]), ([3, 9], [3, 9]), ([10], [10]), ([11], [11]), ([1, 12, 9], [1, 12]), ([0, 1, 2, 3, 4, 5, 6, 7, 8, 9, 10, 11, 12, 13], []), ([14, 13, 13, 0, 1, 2, 3, 4, 5, 6, 7, 8, 9, 10, 11, 12, 13], [13, 14])])
def barscanref31_Turn.B11 : List Nat := [0, 1, 0, 4, 0, 16, 0, 64, 0, 496, 1020, 2044, 4092, 8191, 16383, 32767]
theorem barscanref31_Turn.tab11 : rtab .any (opsOf Try.f28 11) = barscanref31_Turn.T11 := by kernel_rfl
theorem barscanref31_Turn.bits11 : waitsOk barscanref31_Turn.T11.2 barscanref31_Turn.B11 = true := by kernel_rfl
set_option maxHeartbeats 8000000 in
set_option maxRecDepth 100000 in
theorem barscanref31_Turn.calls (k : Nat) (a0_0 : Int) (a0_1 : Int) (A0_2 : Option Addr) (c0_2 : Nat) (l0_2 : List Bool) (a1 : Int) (r1 : Int) (r2 : Int) (r3 : List Bool) (r4 : Int) (w : World) (hr0_2 : Kd.C Kd.bool w A0_2 l0_2.length l0_2) (hc0_2 : l0_2.length ≤ c0_2) (h : barscanref31_Turn.f k a0_0 a0_1 l0_2 a1 = some (r1, r2, r3, r4)) :
    Calls Try.prog 28 #[.agg #[.int .i64 a0_0, .int .i64 a0_1, .slice A0_2 l0_2.length c0_2], .int .i64 a1] w fun e w' => ∃ v2_ : Value, e = .returned (.tuple #[.agg #[.int .i64 r1, .int .i64 r2, v2_], .int .i64 r4]) ∧ Kd.R Kd.bool 4 w' w.heap.size (fun _ => True) v2_ r3 ∧ Below w.heap.size w w' := by
  have hu24 := Try.underlying24
  have HR0_2 := Aside0.mk hr0_2
  have HC0_2 := Aside0.mk hc0_2
  clear hr0_2 hc0_2
  have HB := Aside0.mk (Below.refl w.heap.size w)
  have H : ((barscanref31_Valid.f a0_0 a0_1 l0_2).bind fun t589 => (if t589 = true then ((some (([] : List Bool) : List Bool)).bind fun y590 => (if y590.length + l0_2.length < 140737488355328 then (barscanref31_Turn.l0 k a1 0 a0_0 a0_1 l0_2 a0_0 a0_1 (y590 ++ l0_2)) else (none))) else (some (0, 0, ([] : List Bool), 1)))) = some (r1, r2, r3, r4) := h
  clear h
  replace H := Option.bind_eq_some_iff.mp H
  obtain ⟨t589, A30, H⟩ := H
  replace H : (if t589 = true then ((some (([] : List Bool) : List Bool)).bind fun y590 => (if y590.length + l0_2.length < 140737488355328 then (barscanref31_Turn.l0 k a1 0 a0_0 a0_1 l0_2 a0_0 a0_1 (y590 ++ l0_2)) else (none))) else (some (0, 0, ([] : List Bool), 1))) = some (r1, r2, r3, r4) := H
  have A3 := Aside0.mk A30
  clear A30
  by_cases c4 : t589 = true
  · subst c4
    have H1 : ((some (([] : List Bool) : List Bool)).bind fun y590 => (if y590.length + l0_2.length < 140737488355328 then (barscanref31_Turn.l0 k a1 0 a0_0 a0_1 l0_2 a0_0 a0_1 (y590 ++ l0_2)) else (none))) = some (r1, r2, r3, r4) := by rw [if_pos rfl] at H; exact H
    clear H
    have H := H1
    clear H1
    obtain ⟨y590, hy590⟩ : ∃ y_ : List Bool, y_ = (([] : List Bool)) := ⟨_, rfl⟩
    replace H : (if y590.length + l0_2.length < 140737488355328 then (barscanref31_Turn.l0 k a1 0 a0_0 a0_1 l0_2 a0_0 a0_1 (y590 ++ l0_2)) else (none)) = some (r1, r2, r3, r4) := by (have H2_ := (Option.bind_some _ _).symm.trans H; rw [hy590]; with_reducible exact H2_)
    have Ny590 := Aside0.mk hy590
    clear hy590
    by_cases c5 : y590.length + l0_2.length < 140737488355328
    · rw [if_pos c5] at H
      have LMc5 := Aside0.mk c5
      clear c5
      obtain ⟨y593, hy593⟩ : ∃ y_ : List Bool, y_ = (y590 ++ l0_2) := ⟨_, rfl⟩
      replace H : (barscanref31_Turn.l0 k a1 0 a0_0 a0_1 l0_2 a0_0 a0_1 y593) = some (r1, r2, r3, r4) := by (rw [hy593]; with_reducible exact H)
      have Ny593 := Aside0.mk hy593
      clear hy593
      have H' := Aside0.mk H
      clear H
      go_enter Try.func28, Try.ntmps28
      try go_wp2_with (first | ((with_reducible refine gate_dst (N := 2) rfl ?_); refine box_event ?hg (N := 2) ?hd (cs := #[.int .i64 a0_0, .int .i64 a0_1, .slice A0_2 l0_2.length c0_2]) (t := 24) ?hr ?_; (case hd => rfl); (case hg => rfl); (case hr => (go_simp; done)); intro gb587 hg w6 hbox hb; have n0_ := Aside0.mk (below_step (by repeat ((with_reducible exact HB.out))) hb); have n1_ := Aside0.mk (hbox); have n2_ := Aside0.mk ((by rw [hg]; exact (below_size (by repeat ((with_reducible exact HB.out)))) : w.heap.size ≤ gb587)); have n3_ := Aside0.mk ((by rw [hg]; exact (below_size (by repeat ((with_reducible exact HB.out)))) : w.heap.size ≤ gb587)); clear HB; have HB := n0_; have BK587 := n1_; have GW587 := n2_; have GE587 := n3_; clear n0_ n1_ n2_ n3_; clear hb hbox hg) | ((with_reducible refine gate_dst (N := 4) rfl ?_); refine box_event ?hg (N := 4) ?hd (cs := #[.int .i64 0, .int .i64 0, .slice none 0 0]) (t := 24) ?hr ?_; (case hd => rfl); (case hg => rfl); (case hr => (go_simp; done)); intro gb588 hg w7 hbox hb; have n0_ := Aside0.mk (blk_below (g := gb587) (o := .cells #[.int .i64 a0_0, .int .i64 a0_1, .slice A0_2 l0_2.length c0_2] 24 (0, 0)) (by (with_reducible repeat (fail)); exact BK587.out) hb); have n1_ := Aside0.mk (below_step (by repeat ((with_reducible exact HB.out))) hb); have n2_ := Aside0.mk (hbox); have n3_ := Aside0.mk ((by rw [hg]; exact (below_size (by repeat ((with_reducible exact HB.out)))) : w.heap.size ≤ gb588)); have n4_ := Aside0.mk ((by rw [hg]; exact (below_size (by repeat ((with_reducible exact HB.out)))) : w.heap.size ≤ gb588)); have n5_ := Aside0.mk ((by rw [hg]; exact Nat.ne_of_lt (blk_lt (g := gb587) (o := .cells #[.int .i64 a0_0, .int .i64 a0_1, .slice A0_2 l0_2.length c0_2] 24 (0, 0)) (by (with_reducible repeat (fail)); exact BK587.out)) : gb587 ≠ gb588)); have n6_ := Aside0.mk ((by rw [hg]; exact Nat.ne_of_gt (blk_lt (g := gb587) (o := .cells #[.int .i64 a0_0, .int .i64 a0_1, .slice A0_2 l0_2.length c0_2] 24 (0, 0)) (by (with_reducible repeat (fail)); exact BK587.out)) : gb588 ≠ gb587)); clear BK587; clear HB; have BK587 := n0_; have HB := n1_; have BK588 := n2_; have GW588 := n3_; have GE588 := n4_; have NB587_588 := n5_; have NB588_587 := n6_; clear n0_ n1_ n2_ n3_ n4_ n5_ n6_; clear hb hbox hg; have hnb8 := NB587_588.out; have hnc8 := NB588_587.out; have hcz9_0 : w7.cell? ⟨gb587, 0, none⟩ = some (.int .i64 a0_0) := (blk_cell BK587.out 0).trans rfl; have hcz9_1 : w7.cell? ⟨gb587, 1, none⟩ = some (.int .i64 a0_1) := (blk_cell BK587.out 1).trans rfl; have hcz9_2 : w7.cell? ⟨gb587, 2, none⟩ = some (.slice A0_2 l0_2.length c0_2) := (blk_cell BK587.out 2).trans rfl; have hfz9_0 := blk_frozen BK587.out 0; have hfz9_1 := blk_frozen BK587.out 1; have hfz9_2 := blk_frozen BK587.out 2) | ((with_reducible refine gate_callee (f := 41) rfl ?_); refine goesL_ (some 11) rfl rfl Try.func41 (by kernel_rfl) rfl #[.agg #[.int .i64 a0_0, .int .i64 a0_1, .slice A0_2 l0_2.length c0_2]] rfl (by (try simp only [List.map_toArray, List.map_cons, List.map_nil]); rfl) ?_; (with_reducible refine (barscanref31_Valid.calls a0_0 a0_1 _ _ l0_2 true _ ?side1 ?side2 A3.out).mono ?_); (case side1 => repeat ((exact (Kd.C_below HR0_2.out HB.out)))); (case side2 => exact HC0_2.out); rintro e w10 ⟨rfl, hb⟩; refine ⟨_, rfl, ?_⟩; have n0_ := Aside0.mk (blk_below (g := gb587) (o := .cells #[.int .i64 a0_0, .int .i64 a0_1, .slice A0_2 l0_2.length c0_2] 24 (0, 0)) (by (with_reducible repeat (fail)); exact BK587.out) hb); have n1_ := Aside0.mk (blk_below (g := gb588) (o := .cells #[.int .i64 0, .int .i64 0, .slice none 0 0] 24 (0, 0)) (by (with_reducible repeat (fail)); exact BK588.out) hb); have n2_ := Aside0.mk (below_step (by repeat ((with_reducible exact HB.out))) hb); clear BK587; clear BK588; clear HB; have BK587 := n0_; have BK588 := n1_; have HB := n2_; clear n0_ n1_ n2_; (try clear hb); (try clear hb2); (try clear hk); (try clear hi)))
      have n0_ := Aside0.mk (blk_drew BK587.out)
      have n1_ := Aside0.mk (blk_drew BK588.out)
      have n2_ := Aside0.mk (below_drew1 HB.out)
      clear BK587 BK588 HB
      have BK587 := n0_
      have BK588 := n1_
      have HB := n2_
      clear n0_ n1_ n2_
      refine start_ (n := 11) (S := fun w' => w'.cell? ⟨gb587, 0, none⟩ = some (.int .i64 a0_0) ∧ w'.cell? ⟨gb587, 1, none⟩ = some (.int .i64 a0_1) ∧ w'.cell? ⟨gb587, 2, none⟩ = some (.slice A0_2 l0_2.length c0_2)) (ds := []) #[false, false, false, false, false, false, false, false, false, false, false] (by kernel_rfl) rfl rfl ⟨(blk_cell BK587.out 0).trans rfl, (blk_cell BK587.out 1).trans rfl, (blk_cell BK587.out 2).trans rfl⟩ (fun hHeld => ?_); refine with_tabW barscanref31_Turn.tab3 barscanref31_Turn.bits3 (fun HT_ HW_ => ?_)
      generalize w10.drew = w11 at BK587 BK588 HB hHeld ⊢
      refine pure_ (i := 0) (N := some 14) (v := ?_) (a' := ?_) #[true, false, false, false, false, false, false, false, false, false, false] rfl rfl (any_of HT_.out (by kernel_rfl)) (fun _ _ _ h => h) (Or.inl ⟨by rfl, ?_⟩) ?_ ?_
      rotate_left
      · intro w'
        go_simp
        with_reducible rfl
      rotate_left
      · simp only [Act.put, List.setIfInBounds_toArray, List.set_cons_zero, List.set_cons_succ, i64_w, i32_w]
        rfl
      refine pure_ (i := 2) (N := some 16) (v := ?_) (a' := ?_) #[true, false, true, false, false, false, false, false, false, false, false] rfl rfl (any_of HT_.out (by kernel_rfl)) (fun _ _ _ h => h) (Or.inl ⟨by rfl, ?_⟩) ?_ ?_
      rotate_left
      · intro w'
        go_simp
        with_reducible rfl
      rotate_left
      · simp only [Act.put, List.setIfInBounds_toArray, List.set_cons_zero, List.set_cons_succ, i64_w, i32_w]
        rfl
      refine pure_ (i := 5) (N := some 19) (v := ?_) (a' := ?_) #[true, false, true, false, false, true, false, false, false, false, false] rfl rfl (any_of HT_.out (by kernel_rfl)) (fun _ _ _ h => h) (Or.inl ⟨by rfl, ?_⟩) ?_ ?_
      rotate_left
      · intro w'
        go_simp
        with_reducible rfl
      rotate_left
      · simp only [Act.put, List.setIfInBounds_toArray, List.set_cons_zero, List.set_cons_succ, i64_w, i32_w]
        rfl
      refine take_ (i := 1) (N := some 15) (v := ?_) (a' := ?_) #[true, true, true, false, false, true, false, false, false, false, false] rfl rfl (take_ofW HT_.out HW_.out (by kernel_rfl)) (fun _ _ _ h => h) (Or.inl ⟨by rfl, ?_⟩) hHeld ?_ ?_
      rotate_left
      · rintro w' ⟨s0, s1, s2⟩
        go_simp
        with_reducible rfl
      rotate_left
      · simp only [Act.put, List.setIfInBounds_toArray, List.set_cons_zero, List.set_cons_succ, i64_w, i32_w]
        rfl
      refine take_ (i := 3) (N := some 17) (v := ?_) (a' := ?_) #[true, true, true, true, false, true, false, false, false, false, false] rfl rfl (take_ofW HT_.out HW_.out (by kernel_rfl)) (fun _ _ _ h => h) (Or.inl ⟨by rfl, ?_⟩) hHeld ?_ ?_
      rotate_left
      · rintro w' ⟨s0, s1, s2⟩
        go_simp
        with_reducible rfl
      rotate_left
      · simp only [Act.put, List.setIfInBounds_toArray, List.set_cons_zero, List.set_cons_succ, i64_w, i32_w]
        rfl
      refine take_ (i := 6) (N := some 20) (v := ?_) (a' := ?_) #[true, true, true, true, false, true, true, false, false, false, false] rfl rfl (take_ofW HT_.out HW_.out (by kernel_rfl)) (fun _ _ _ h => h) (Or.inl ⟨by rfl, ?_⟩) hHeld ?_ ?_
      rotate_left
      · rintro w' ⟨s0, s1, s2⟩
        go_simp
        with_reducible rfl
      rotate_left
      · simp only [Act.put, List.setIfInBounds_toArray, List.set_cons_zero, List.set_cons_succ, i64_w, i32_w]
        rfl
      refine join_ (σ := Value × Value × Nat) 1 #[true, true, true, true, true, true, true, true, true, true, false] (fun s_ => [(18, s_.1), (21, s_.2.1), (6, .pointer (some ⟨s_.2.2, 0, none⟩)), (22, .agg #[.int .i64 a0_0, .int .i64 a0_1, s_.2.1])]) (fun s_ w' => (w'.cell? ⟨gb587, 0, none⟩ = some (.int .i64 a0_0) ∧ w'.cell? ⟨gb587, 1, none⟩ = some (.int .i64 a0_1) ∧ w'.cell? ⟨gb587, 2, none⟩ = some (.slice A0_2 l0_2.length c0_2)) ∧ (Kd.R Kd.bool 4 w' w.heap.size (fun _ => True) s_.2.1 y593) ∧ (w'.heap[gb587]? = some (.cells #[.int .i64 a0_0, .int .i64 a0_1, .slice A0_2 l0_2.length c0_2] 24 (0, 0))) ∧ (w'.heap[gb588]? = some (.cells #[.int .i64 0, .int .i64 0, .slice none 0 0] 24 (0, 0))) ∧ (w'.heap[s_.2.2]? = some (.cells #[.int .i64 0, .int .i64 0, .slice none 0 0] 24 (0, 0))) ∧ (w.heap.size ≤ s_.2.2) ∧ (w.heap.size ≤ s_.2.2) ∧ (gb587 ≠ s_.2.2) ∧ (s_.2.2 ≠ gb587) ∧ (gb588 ≠ s_.2.2) ∧ (s_.2.2 ≠ gb588) ∧ (Below w.heap.size w w')) ?_ ?_
      rotate_left
      · intro hCont
        refine two_ (i := 4) (j := 9) (Ni := some 18) (Nj := some 6) #[true, true, true, true, true, true, true, false, false, false, false] #[true, true, true, true, false, true, true, false, false, true, false] rfl rfl rfl rfl (two_of HT_.out (by kernel_rfl)) (by decide) (by decide) (fun K hK => ?_) (fun K hK => ?_)
        · skip
          refine Kd.R_lit_step Kd.bool _ 4 ?hg (N := 18) ?hd (xs := ([] : List Bool)) (inner := []) (ok := fun _ => True) (okp := fun _ => True) ?hr ?hp (fun _ hk => hk) trivial (Below.refl _ _) (Nat.le_refl _) (by simp) ?_; (case hd => rfl); (case hg => rfl); (case hr => (go_simp; done)); (case hp => exact (Reps.none _ _))
          intro v591 w12 ho13 hb hg_ hnew_
          clear hg_ hnew_
          (rw [← Ny590.out] at ho13)
          have n0_ := Aside0.mk (Kd.R_lower ho13 (below_size (by repeat ((with_reducible exact HB.out)))))
          have n1_ := Aside0.mk (blk_below (g := gb587) (o := .cells #[.int .i64 a0_0, .int .i64 a0_1, .slice A0_2 l0_2.length c0_2] 24 (0, 0)) (by (with_reducible repeat (fail)); exact BK587.out) hb)
          have n2_ := Aside0.mk (blk_below (g := gb588) (o := .cells #[.int .i64 0, .int .i64 0, .slice none 0 0] 24 (0, 0)) (by (with_reducible repeat (fail)); exact BK588.out) hb)
          have n3_ := Aside0.mk (below_step (by repeat ((with_reducible exact HB.out))) hb)
          clear BK587 BK588 HB
          have HO592 := n0_
          have BK587 := n1_
          have BK588 := n2_
          have HB := n3_
          clear n0_ n1_ n2_ n3_ hb ho13
          refine hK.out _ _ ⟨(blk_cell BK587.out 0).trans rfl, (blk_cell BK587.out 1).trans rfl, (blk_cell BK587.out 2).trans rfl⟩ (fun hHeld => ?_)
          clear hK K
          refine norm_ (a' := ?_) ?_ ?_
          rotate_left
          · show Act.put _ (some 18) _ = _
            simp only [Act.put, List.setIfInBounds_toArray, List.set_cons_zero, List.set_cons_succ, i64_w, i32_w]
            rfl
          refine two_ (i := 7) (j := 9) (Ni := some 21) (Nj := some 6) #[true, true, true, true, true, true, true, true, false, false, false] #[true, true, true, true, true, true, true, false, false, true, false] rfl rfl rfl rfl (two_of HT_.out (by kernel_rfl)) (by decide) (by decide) (fun K hK => ?_) (fun K hK => ?_)
          · skip
            refine Kd.R_append_rows_step Kd.bool (w0 := w) w.heap.size (by rfl) (.tmp 18) (.tmp 20) 22 4 (.bool false) 1 rfl Try.underlying22 info4 rfl (by decide) (by omega) v591 y590 l0_2 _ _ _ (fun _ => True) (fun _ => False) rfl rfl ?aO ?aR (fun _ _ h => h) (fun _ h => h.elim) ?aF ?aB ?aS ?aL ?_
            (case aR => repeat ((exact (Kd.C_below HR0_2.out HB.out))))
            (case aB => exact (by repeat ((with_reducible exact HB.out))))
            (case aF => exact (fun _ _ => trivial))
            (case aO => exact (by (with_reducible repeat (fail)); exact HO592.out))
            (case aS => exact (below_size (by repeat ((with_reducible exact HB.out)))))
            (case aL => have := LMc5.out; omega)
            intro v594 w14 ho hb hg hat
            rw [← Ny593.out] at ho
            have n0_ := Aside0.mk (blk_grown (g := gb587) (o := .cells #[.int .i64 a0_0, .int .i64 a0_1, .slice A0_2 l0_2.length c0_2] 24 (0, 0)) (by (with_reducible repeat (fail)); exact BK587.out) hg (Kd.R_ne HO592.out BK587.out (by decide)))
            have n1_ := Aside0.mk (blk_grown (g := gb588) (o := .cells #[.int .i64 0, .int .i64 0, .slice none 0 0] 24 (0, 0)) (by (with_reducible repeat (fail)); exact BK588.out) hg (Kd.R_ne HO592.out BK588.out (by decide)))
            have n2_ := Aside0.mk (hb)
            have n3_ := Aside0.mk (ho)
            clear BK587 BK588 HB HO592
            have BK587 := n0_
            have BK588 := n1_
            have HB := n2_
            have HO595 := n3_
            clear n0_ n1_ n2_ n3_ ho hb hg hat
            obtain ⟨Ao15, co15, eo15⟩ := Kd.R_slice HO595.out
            (subst eo15)
            refine hK.out _ _ ⟨(blk_cell BK587.out 0).trans rfl, (blk_cell BK587.out 1).trans rfl, (blk_cell BK587.out 2).trans rfl⟩ (fun hHeld => ?_)
            clear hK K
            refine norm_ (a' := ?_) ?_ ?_
            rotate_left
            · show Act.put _ (some 21) _ = _
              simp only [Act.put, List.setIfInBounds_toArray, List.set_cons_zero, List.set_cons_succ, i64_w, i32_w]
              rfl
            refine pure_ (i := 8) (N := some 22) (v := ?_) (a' := ?_) #[true, true, true, true, true, true, true, true, true, false, false] rfl rfl (any_of HT_.out (by kernel_rfl)) (fun _ _ _ h => h) (Or.inl ⟨by rfl, ?_⟩) ?_ ?_
            rotate_left
            · intro w'
              go_simp
              with_reducible rfl
            rotate_left
            · simp only [Act.put, List.setIfInBounds_toArray, List.set_cons_zero, List.set_cons_succ, i64_w, i32_w]
              rfl
            refine one_ (i := 9) (N := some 6) #[true, true, true, true, true, true, true, true, true, true, false] rfl rfl (one_of HT_.out (by kernel_rfl)) (by decide) (fun K hK => ?_)
            refine box_step ?hg (N := 6) ?hd (cs := #[.int .i64 0, .int .i64 0, .slice none 0 0]) (t := 24) ?hr ?_; (case hd => rfl); (case hg => rfl); (case hr => (go_simp; done))
            intro gb596 hg w16 hbox hb
            have n0_ := Aside0.mk (Kd.R_below (by (with_reducible repeat (fail)); exact HO595.out) hb)
            have n1_ := Aside0.mk (blk_below (g := gb587) (o := .cells #[.int .i64 a0_0, .int .i64 a0_1, .slice A0_2 l0_2.length c0_2] 24 (0, 0)) (by (with_reducible repeat (fail)); exact BK587.out) hb)
            have n2_ := Aside0.mk (blk_below (g := gb588) (o := .cells #[.int .i64 0, .int .i64 0, .slice none 0 0] 24 (0, 0)) (by (with_reducible repeat (fail)); exact BK588.out) hb)
            have n3_ := Aside0.mk (below_step (by repeat ((with_reducible exact HB.out))) hb)
            have n4_ := Aside0.mk (hbox)
            have n5_ := Aside0.mk ((by rw [hg]; exact (below_size (by repeat ((with_reducible exact HB.out)))) : w.heap.size ≤ gb596))
            have n6_ := Aside0.mk ((by rw [hg]; exact (below_size (by repeat ((with_reducible exact HB.out)))) : w.heap.size ≤ gb596))
            have n7_ := Aside0.mk ((by rw [hg]; exact Nat.ne_of_lt (blk_lt (g := gb587) (o := .cells #[.int .i64 a0_0, .int .i64 a0_1, .slice A0_2 l0_2.length c0_2] 24 (0, 0)) (by (with_reducible repeat (fail)); exact BK587.out)) : gb587 ≠ gb596))
            have n8_ := Aside0.mk ((by rw [hg]; exact Nat.ne_of_gt (blk_lt (g := gb587) (o := .cells #[.int .i64 a0_0, .int .i64 a0_1, .slice A0_2 l0_2.length c0_2] 24 (0, 0)) (by (with_reducible repeat (fail)); exact BK587.out)) : gb596 ≠ gb587))
            have n9_ := Aside0.mk ((by rw [hg]; exact Nat.ne_of_lt (blk_lt (g := gb588) (o := .cells #[.int .i64 0, .int .i64 0, .slice none 0 0] 24 (0, 0)) (by (with_reducible repeat (fail)); exact BK588.out)) : gb588 ≠ gb596))
            have n10_ := Aside0.mk ((by rw [hg]; exact Nat.ne_of_gt (blk_lt (g := gb588) (o := .cells #[.int .i64 0, .int .i64 0, .slice none 0 0] 24 (0, 0)) (by (with_reducible repeat (fail)); exact BK588.out)) : gb596 ≠ gb588))
            clear HO595 BK587 BK588 HB
            have HO595 := n0_
            have BK587 := n1_
            have BK588 := n2_
            have HB := n3_
            have BK596 := n4_
            have GW596 := n5_
            have GE596 := n6_
            have NB587_596 := n7_
            have NB596_587 := n8_
            have NB588_596 := n9_
            have NB596_588 := n10_
            clear n0_ n1_ n2_ n3_ n4_ n5_ n6_ n7_ n8_ n9_ n10_ hb hbox hg
            refine hK.out _ _ ⟨(blk_cell BK587.out 0).trans rfl, (blk_cell BK587.out 1).trans rfl, (blk_cell BK587.out 2).trans rfl⟩ (fun hHeld => ?_)
            clear hK K
            refine norm_ (a' := ?_) ?_ ?_
            rotate_left
            · show Act.put _ (some 6) _ = _
              simp only [Act.put, List.setIfInBounds_toArray, List.set_cons_zero, List.set_cons_succ, i64_w, i32_w]
              rfl
            exact norm_ (by simp only [putAll, Act.put, List.setIfInBounds_toArray, List.set_cons_zero, List.set_cons_succ]) (hCont (v591, .slice Ao15 y593.length co15, gb596) _ ⟨hHeld, (by (with_reducible repeat (fail)); exact HO595.out), (by (with_reducible repeat (fail)); exact BK587.out), (by (with_reducible repeat (fail)); exact BK588.out), (by (with_reducible repeat (fail)); exact BK596.out), GW596.out, GE596.out, NB587_596.out, NB596_587.out, NB588_596.out, NB596_588.out, (by repeat ((with_reducible exact HB.out)))⟩)
          · skip
            refine box_step ?hg (N := 6) ?hd (cs := #[.int .i64 0, .int .i64 0, .slice none 0 0]) (t := 24) ?hr ?_; (case hd => rfl); (case hg => rfl); (case hr => (go_simp; done))
            intro gb596 hg w14 hbox hb
            have n0_ := Aside0.mk (Kd.R_below (by (with_reducible repeat (fail)); exact HO592.out) hb)
            have n1_ := Aside0.mk (blk_below (g := gb587) (o := .cells #[.int .i64 a0_0, .int .i64 a0_1, .slice A0_2 l0_2.length c0_2] 24 (0, 0)) (by (with_reducible repeat (fail)); exact BK587.out) hb)
            have n2_ := Aside0.mk (blk_below (g := gb588) (o := .cells #[.int .i64 0, .int .i64 0, .slice none 0 0] 24 (0, 0)) (by (with_reducible repeat (fail)); exact BK588.out) hb)
            have n3_ := Aside0.mk (below_step (by repeat ((with_reducible exact HB.out))) hb)
            have n4_ := Aside0.mk (hbox)
            have n5_ := Aside0.mk ((by rw [hg]; exact (below_size (by repeat ((with_reducible exact HB.out)))) : w.heap.size ≤ gb596))
            have n6_ := Aside0.mk ((by rw [hg]; exact (below_size (by repeat ((with_reducible exact HB.out)))) : w.heap.size ≤ gb596))
            have n7_ := Aside0.mk ((by rw [hg]; exact Nat.ne_of_lt (blk_lt (g := gb587) (o := .cells #[.int .i64 a0_0, .int .i64 a0_1, .slice A0_2 l0_2.length c0_2] 24 (0, 0)) (by (with_reducible repeat (fail)); exact BK587.out)) : gb587 ≠ gb596))
            have n8_ := Aside0.mk ((by rw [hg]; exact Nat.ne_of_gt (blk_lt (g := gb587) (o := .cells #[.int .i64 a0_0, .int .i64 a0_1, .slice A0_2 l0_2.length c0_2] 24 (0, 0)) (by (with_reducible repeat (fail)); exact BK587.out)) : gb596 ≠ gb587))
            have n9_ := Aside0.mk ((by rw [hg]; exact Nat.ne_of_lt (blk_lt (g := gb588) (o := .cells #[.int .i64 0, .int .i64 0, .slice none 0 0] 24 (0, 0)) (by (with_reducible repeat (fail)); exact BK588.out)) : gb588 ≠ gb596))
            have n10_ := Aside0.mk ((by rw [hg]; exact Nat.ne_of_gt (blk_lt (g := gb588) (o := .cells #[.int .i64 0, .int .i64 0, .slice none 0 0] 24 (0, 0)) (by (with_reducible repeat (fail)); exact BK588.out)) : gb596 ≠ gb588))
            clear HO592 BK587 BK588 HB
            have HO592 := n0_
            have BK587 := n1_
            have BK588 := n2_
            have HB := n3_
            have BK596 := n4_
            have GW596 := n5_
            have GE596 := n6_
            have NB587_596 := n7_
            have NB596_587 := n8_
            have NB588_596 := n9_
            have NB596_588 := n10_
            clear n0_ n1_ n2_ n3_ n4_ n5_ n6_ n7_ n8_ n9_ n10_ hb hbox hg
            refine hK.out _ _ ⟨(blk_cell BK587.out 0).trans rfl, (blk_cell BK587.out 1).trans rfl, (blk_cell BK587.out 2).trans rfl⟩ (fun hHeld => ?_)
            clear hK K
            refine norm_ (a' := ?_) ?_ ?_
            rotate_left
            · show Act.put _ (some 6) _ = _
              simp only [Act.put, List.setIfInBounds_toArray, List.set_cons_zero, List.set_cons_succ, i64_w, i32_w]
              rfl
            refine one_ (i := 7) (N := some 21) #[true, true, true, true, true, true, true, true, false, true, false] rfl rfl (one_of HT_.out (by kernel_rfl)) (by decide) (fun K hK => ?_)
            refine Kd.R_append_rows_step Kd.bool (w0 := w) w.heap.size (by rfl) (.tmp 18) (.tmp 20) 22 4 (.bool false) 1 rfl Try.underlying22 info4 rfl (by decide) (by omega) v591 y590 l0_2 _ _ _ (fun _ => True) (fun _ => False) rfl rfl ?aO ?aR (fun _ _ h => h) (fun _ h => h.elim) ?aF ?aB ?aS ?aL ?_
            (case aR => repeat ((exact (Kd.C_below HR0_2.out HB.out))))
            (case aB => exact (by repeat ((with_reducible exact HB.out))))
            (case aF => exact (fun _ _ => trivial))
            (case aO => exact (by (with_reducible repeat (fail)); exact HO592.out))
            (case aS => exact (below_size (by repeat ((with_reducible exact HB.out)))))
            (case aL => have := LMc5.out; omega)
            intro v594 w15 ho hb hg hat
            rw [← Ny593.out] at ho
            have n0_ := Aside0.mk (blk_grown (g := gb587) (o := .cells #[.int .i64 a0_0, .int .i64 a0_1, .slice A0_2 l0_2.length c0_2] 24 (0, 0)) (by (with_reducible repeat (fail)); exact BK587.out) hg (Kd.R_ne HO592.out BK587.out (by decide)))
            have n1_ := Aside0.mk (blk_grown (g := gb588) (o := .cells #[.int .i64 0, .int .i64 0, .slice none 0 0] 24 (0, 0)) (by (with_reducible repeat (fail)); exact BK588.out) hg (Kd.R_ne HO592.out BK588.out (by decide)))
            have n2_ := Aside0.mk (blk_grown (g := gb596) (o := .cells #[.int .i64 0, .int .i64 0, .slice none 0 0] 24 (0, 0)) (by (with_reducible repeat (fail)); exact BK596.out) hg (Kd.R_ne HO592.out BK596.out (by decide)))
            have n3_ := Aside0.mk (hb)
            have n4_ := Aside0.mk (ho)
            clear BK587 BK588 BK596 HB HO592
            have BK587 := n0_
            have BK588 := n1_
            have BK596 := n2_
            have HB := n3_
            have HO595 := n4_
            clear n0_ n1_ n2_ n3_ n4_ ho hb hg hat
            obtain ⟨Ao16, co16, eo16⟩ := Kd.R_slice HO595.out
            (subst eo16)
            refine hK.out _ _ ⟨(blk_cell BK587.out 0).trans rfl, (blk_cell BK587.out 1).trans rfl, (blk_cell BK587.out 2).trans rfl⟩ (fun hHeld => ?_)
            clear hK K
            refine norm_ (a' := ?_) ?_ ?_
            rotate_left
            · show Act.put _ (some 21) _ = _
              simp only [Act.put, List.setIfInBounds_toArray, List.set_cons_zero, List.set_cons_succ, i64_w, i32_w]
              rfl
            refine pure_ (i := 8) (N := some 22) (v := ?_) (a' := ?_) #[true, true, true, true, true, true, true, true, true, true, false] rfl rfl (any_of HT_.out (by kernel_rfl)) (fun _ _ _ h => h) (Or.inl ⟨by rfl, ?_⟩) ?_ ?_
            rotate_left
            · intro w'
              go_simp
              with_reducible rfl
            rotate_left
            · simp only [Act.put, List.setIfInBounds_toArray, List.set_cons_zero, List.set_cons_succ, i64_w, i32_w]
              rfl
            exact norm_ (by simp only [putAll, Act.put, List.setIfInBounds_toArray, List.set_cons_zero, List.set_cons_succ]) (hCont (v591, .slice Ao16 y593.length co16, gb596) _ ⟨hHeld, (by (with_reducible repeat (fail)); exact HO595.out), (by (with_reducible repeat (fail)); exact BK587.out), (by (with_reducible repeat (fail)); exact BK588.out), (by (with_reducible repeat (fail)); exact BK596.out), GW596.out, GE596.out, NB587_596.out, NB596_587.out, NB588_596.out, NB596_588.out, (by repeat ((with_reducible exact HB.out)))⟩)
        · skip
          refine box_step ?hg (N := 6) ?hd (cs := #[.int .i64 0, .int .i64 0, .slice none 0 0]) (t := 24) ?hr ?_; (case hd => rfl); (case hg => rfl); (case hr => (go_simp; done))
          intro gb596 hg w12 hbox hb
          have n0_ := Aside0.mk (blk_below (g := gb587) (o := .cells #[.int .i64 a0_0, .int .i64 a0_1, .slice A0_2 l0_2.length c0_2] 24 (0, 0)) (by (with_reducible repeat (fail)); exact BK587.out) hb)
          have n1_ := Aside0.mk (blk_below (g := gb588) (o := .cells #[.int .i64 0, .int .i64 0, .slice none 0 0] 24 (0, 0)) (by (with_reducible repeat (fail)); exact BK588.out) hb)
          have n2_ := Aside0.mk (below_step (by repeat ((with_reducible exact HB.out))) hb)
          have n3_ := Aside0.mk (hbox)
          have n4_ := Aside0.mk ((by rw [hg]; exact (below_size (by repeat ((with_reducible exact HB.out)))) : w.heap.size ≤ gb596))
          have n5_ := Aside0.mk ((by rw [hg]; exact (below_size (by repeat ((with_reducible exact HB.out)))) : w.heap.size ≤ gb596))
          have n6_ := Aside0.mk ((by rw [hg]; exact Nat.ne_of_lt (blk_lt (g := gb587) (o := .cells #[.int .i64 a0_0, .int .i64 a0_1, .slice A0_2 l0_2.length c0_2] 24 (0, 0)) (by (with_reducible repeat (fail)); exact BK587.out)) : gb587 ≠ gb596))
          have n7_ := Aside0.mk ((by rw [hg]; exact Nat.ne_of_gt (blk_lt (g := gb587) (o := .cells #[.int .i64 a0_0, .int .i64 a0_1, .slice A0_2 l0_2.length c0_2] 24 (0, 0)) (by (with_reducible repeat (fail)); exact BK587.out)) : gb596 ≠ gb587))
          have n8_ := Aside0.mk ((by rw [hg]; exact Nat.ne_of_lt (blk_lt (g := gb588) (o := .cells #[.int .i64 0, .int .i64 0, .slice none 0 0] 24 (0, 0)) (by (with_reducible repeat (fail)); exact BK588.out)) : gb588 ≠ gb596))
          have n9_ := Aside0.mk ((by rw [hg]; exact Nat.ne_of_gt (blk_lt (g := gb588) (o := .cells #[.int .i64 0, .int .i64 0, .slice none 0 0] 24 (0, 0)) (by (with_reducible repeat (fail)); exact BK588.out)) : gb596 ≠ gb588))
          clear BK587 BK588 HB
          have BK587 := n0_
          have BK588 := n1_
          have HB := n2_
          have BK596 := n3_
          have GW596 := n4_
          have GE596 := n5_
          have NB587_596 := n6_
          have NB596_587 := n7_
          have NB588_596 := n8_
          have NB596_588 := n9_
          clear n0_ n1_ n2_ n3_ n4_ n5_ n6_ n7_ n8_ n9_ hb hbox hg
          refine hK.out _ _ ⟨(blk_cell BK587.out 0).trans rfl, (blk_cell BK587.out 1).trans rfl, (blk_cell BK587.out 2).trans rfl⟩ (fun hHeld => ?_)
          clear hK K
          refine norm_ (a' := ?_) ?_ ?_
          rotate_left
          · show Act.put _ (some 6) _ = _
            simp only [Act.put, List.setIfInBounds_toArray, List.set_cons_zero, List.set_cons_succ, i64_w, i32_w]
            rfl
          refine one_ (i := 4) (N := some 18) #[true, true, true, true, true, true, true, false, false, true, false] rfl rfl (one_of HT_.out (by kernel_rfl)) (by decide) (fun K hK => ?_)
          refine Kd.R_lit_step Kd.bool _ 4 ?hg (N := 18) ?hd (xs := ([] : List Bool)) (inner := []) (ok := fun _ => True) (okp := fun _ => True) ?hr ?hp (fun _ hk => hk) trivial (Below.refl _ _) (Nat.le_refl _) (by simp) ?_; (case hd => rfl); (case hg => rfl); (case hr => (go_simp; done)); (case hp => exact (Reps.none _ _))
          intro v591 w13 ho14 hb hg_ hnew_
          clear hg_ hnew_
          (rw [← Ny590.out] at ho14)
          have n0_ := Aside0.mk (Kd.R_lower ho14 (below_size (by repeat ((with_reducible exact HB.out)))))
          have n1_ := Aside0.mk (blk_below (g := gb587) (o := .cells #[.int .i64 a0_0, .int .i64 a0_1, .slice A0_2 l0_2.length c0_2] 24 (0, 0)) (by (with_reducible repeat (fail)); exact BK587.out) hb)
          have n2_ := Aside0.mk (blk_below (g := gb588) (o := .cells #[.int .i64 0, .int .i64 0, .slice none 0 0] 24 (0, 0)) (by (with_reducible repeat (fail)); exact BK588.out) hb)
          have n3_ := Aside0.mk (blk_below (g := gb596) (o := .cells #[.int .i64 0, .int .i64 0, .slice none 0 0] 24 (0, 0)) (by (with_reducible repeat (fail)); exact BK596.out) hb)
          have n4_ := Aside0.mk (below_step (by repeat ((with_reducible exact HB.out))) hb)
          clear BK587 BK588 BK596 HB
          have HO592 := n0_
          have BK587 := n1_
          have BK588 := n2_
          have BK596 := n3_
          have HB := n4_
          clear n0_ n1_ n2_ n3_ n4_ hb ho14
          refine hK.out _ _ ⟨(blk_cell BK587.out 0).trans rfl, (blk_cell BK587.out 1).trans rfl, (blk_cell BK587.out 2).trans rfl⟩ (fun hHeld => ?_)
          clear hK K
          refine norm_ (a' := ?_) ?_ ?_
          rotate_left
          · show Act.put _ (some 18) _ = _
            simp only [Act.put, List.setIfInBounds_toArray, List.set_cons_zero, List.set_cons_succ, i64_w, i32_w]
            rfl
          refine one_ (i := 7) (N := some 21) #[true, true, true, true, true, true, true, true, false, true, false] rfl rfl (one_of HT_.out (by kernel_rfl)) (by decide) (fun K hK => ?_)
          refine Kd.R_append_rows_step Kd.bool (w0 := w) w.heap.size (by rfl) (.tmp 18) (.tmp 20) 22 4 (.bool false) 1 rfl Try.underlying22 info4 rfl (by decide) (by omega) v591 y590 l0_2 _ _ _ (fun _ => True) (fun _ => False) rfl rfl ?aO ?aR (fun _ _ h => h) (fun _ h => h.elim) ?aF ?aB ?aS ?aL ?_
          (case aR => repeat ((exact (Kd.C_below HR0_2.out HB.out))))
          (case aB => exact (by repeat ((with_reducible exact HB.out))))
          (case aF => exact (fun _ _ => trivial))
          (case aO => exact (by (with_reducible repeat (fail)); exact HO592.out))
          (case aS => exact (below_size (by repeat ((with_reducible exact HB.out)))))
          (case aL => have := LMc5.out; omega)
          intro v594 w15 ho hb hg hat
          rw [← Ny593.out] at ho
          have n0_ := Aside0.mk (blk_grown (g := gb587) (o := .cells #[.int .i64 a0_0, .int .i64 a0_1, .slice A0_2 l0_2.length c0_2] 24 (0, 0)) (by (with_reducible repeat (fail)); exact BK587.out) hg (Kd.R_ne HO592.out BK587.out (by decide)))
          have n1_ := Aside0.mk (blk_grown (g := gb588) (o := .cells #[.int .i64 0, .int .i64 0, .slice none 0 0] 24 (0, 0)) (by (with_reducible repeat (fail)); exact BK588.out) hg (Kd.R_ne HO592.out BK588.out (by decide)))
          have n2_ := Aside0.mk (blk_grown (g := gb596) (o := .cells #[.int .i64 0, .int .i64 0, .slice none 0 0] 24 (0, 0)) (by (with_reducible repeat (fail)); exact BK596.out) hg (Kd.R_ne HO592.out BK596.out (by decide)))
          have n3_ := Aside0.mk (hb)
          have n4_ := Aside0.mk (ho)
          clear BK587 BK588 BK596 HB HO592
          have BK587 := n0_
          have BK588 := n1_
          have BK596 := n2_
          have HB := n3_
          have HO595 := n4_
          clear n0_ n1_ n2_ n3_ n4_ ho hb hg hat
          obtain ⟨Ao16, co16, eo16⟩ := Kd.R_slice HO595.out
          (subst eo16)
          refine hK.out _ _ ⟨(blk_cell BK587.out 0).trans rfl, (blk_cell BK587.out 1).trans rfl, (blk_cell BK587.out 2).trans rfl⟩ (fun hHeld => ?_)
          clear hK K
          refine norm_ (a' := ?_) ?_ ?_
          rotate_left
          · show Act.put _ (some 21) _ = _
            simp only [Act.put, List.setIfInBounds_toArray, List.set_cons_zero, List.set_cons_succ, i64_w, i32_w]
            rfl
          refine pure_ (i := 8) (N := some 22) (v := ?_) (a' := ?_) #[true, true, true, true, true, true, true, true, true, true, false] rfl rfl (any_of HT_.out (by kernel_rfl)) (fun _ _ _ h => h) (Or.inl ⟨by rfl, ?_⟩) ?_ ?_
          rotate_left
          · intro w'
            go_simp
            with_reducible rfl
          rotate_left
          · simp only [Act.put, List.setIfInBounds_toArray, List.set_cons_zero, List.set_cons_succ, i64_w, i32_w]
            rfl
          exact norm_ (by simp only [putAll, Act.put, List.setIfInBounds_toArray, List.set_cons_zero, List.set_cons_succ]) (hCont (v591, .slice Ao16 y593.length co16, gb596) _ ⟨hHeld, (by (with_reducible repeat (fail)); exact HO595.out), (by (with_reducible repeat (fail)); exact BK587.out), (by (with_reducible repeat (fail)); exact BK588.out), (by (with_reducible repeat (fail)); exact BK596.out), GW596.out, GE596.out, NB587_596.out, NB596_587.out, NB588_596.out, NB596_588.out, (by repeat ((with_reducible exact HB.out)))⟩)
      rintro ⟨v591, v594, gb596⟩ w17 ⟨hS_, h0_, h1_, h2_, h3_, h4_, h5_, h6_, h7_, h8_, h9_, h10_⟩
      have n0_ : Aside0 (Kd.R Kd.bool 4 w17 w.heap.size (fun _ => True) v594 y593) := ⟨h0_⟩
      have n1_ : Aside0 (w17.heap[gb587]? = some (.cells #[.int .i64 a0_0, .int .i64 a0_1, .slice A0_2 l0_2.length c0_2] 24 (0, 0))) := ⟨h1_⟩
      have n2_ : Aside0 (w17.heap[gb588]? = some (.cells #[.int .i64 0, .int .i64 0, .slice none 0 0] 24 (0, 0))) := ⟨h2_⟩
      have n3_ : Aside0 (w17.heap[gb596]? = some (.cells #[.int .i64 0, .int .i64 0, .slice none 0 0] 24 (0, 0))) := ⟨h3_⟩
      have n4_ : Aside0 (w.heap.size ≤ gb596) := ⟨h4_⟩
      have n5_ : Aside0 (w.heap.size ≤ gb596) := ⟨h5_⟩
      have n6_ : Aside0 (gb587 ≠ gb596) := ⟨h6_⟩
      have n7_ : Aside0 (gb596 ≠ gb587) := ⟨h7_⟩
      have n8_ : Aside0 (gb588 ≠ gb596) := ⟨h8_⟩
      have n9_ : Aside0 (gb596 ≠ gb588) := ⟨h9_⟩
      have n10_ : Aside0 (Below w.heap.size w w17) := ⟨h10_⟩
      clear BK587 BK588 HB h0_ h1_ h2_ h3_ h4_ h5_ h6_ h7_ h8_ h9_ h10_
      have HO595 := n0_
      have BK587 := n1_
      have BK588 := n2_
      have BK596 := n3_
      have GW596 := n4_
      have GE596 := n5_
      have NB587_596 := n6_
      have NB596_587 := n7_
      have NB588_596 := n8_
      have NB596_588 := n9_
      have HB := n10_
      clear n0_ n1_ n2_ n3_ n4_ n5_ n6_ n7_ n8_ n9_ n10_
      have hHeld : w17.cell? ⟨gb587, 0, none⟩ = some (.int .i64 a0_0) ∧ w17.cell? ⟨gb587, 1, none⟩ = some (.int .i64 a0_1) ∧ w17.cell? ⟨gb587, 2, none⟩ = some (.slice A0_2 l0_2.length c0_2) := hS_
      obtain ⟨Ao18, co18, eo18⟩ := Kd.R_slice HO595.out
      (subst eo18)
      refine norm_ (a' := ?_) ?_ ?_
      rotate_left
      · simp only [putAll, Act.put, List.setIfInBounds_toArray, List.set_cons_zero, List.set_cons_succ]
        rfl
      refine one_ (i := 10) (N := none) #[true, true, true, true, true, true, true, true, true, true, true] rfl rfl (one_of HT_.out (by kernel_rfl)) (by decide) (fun K hK => ?_)
      have hs19 : w17.cell? ⟨gb596, 0, none⟩ = some (.int .i64 0) := (blk_cell BK596.out 0).trans rfl
      have hfs19 := blk_frozen BK596.out 0
      have hns19_0 := NB587_596.out
      have hns19_1 := NB588_596.out
      have hms19_0 := NB596_587.out
      have hms19_1 := NB596_588.out
      have hs20 : w17.cell? ⟨gb596, 1, none⟩ = some (.int .i64 0) := (blk_cell BK596.out 1).trans rfl
      have hfs20 := blk_frozen BK596.out 1
      have hns20_0 := NB587_596.out
      have hns20_1 := NB588_596.out
      have hms20_0 := NB596_587.out
      have hms20_1 := NB596_588.out
      have hs21 : w17.cell? ⟨gb596, 2, none⟩ = some (.slice none 0 0) := (blk_cell BK596.out 2).trans rfl
      have hfs21 := blk_frozen BK596.out 2
      have hns21_0 := NB587_596.out
      have hns21_1 := NB588_596.out
      have hms21_0 := NB596_587.out
      have hms21_1 := NB596_588.out
      refine skip_ (w1 := ?_) (by rfl) rfl ?_ ?_
      rotate_left
      · go_simp
        rfl
      refine hK.out _ _ ⟨((cell_far (p := ⟨gb596, _, none⟩) NB587_596.out _).trans (((cell_far (p := ⟨gb596, _, none⟩) NB587_596.out _).trans (((cell_far (p := ⟨gb596, _, none⟩) NB587_596.out _).trans (hHeld.1)))))), ((cell_far (p := ⟨gb596, _, none⟩) NB587_596.out _).trans (((cell_far (p := ⟨gb596, _, none⟩) NB587_596.out _).trans (((cell_far (p := ⟨gb596, _, none⟩) NB587_596.out _).trans (hHeld.2.1)))))), ((cell_far (p := ⟨gb596, _, none⟩) NB587_596.out _).trans (((cell_far (p := ⟨gb596, _, none⟩) NB587_596.out _).trans (((cell_far (p := ⟨gb596, _, none⟩) NB587_596.out _).trans (hHeld.2.2))))))⟩ (fun hHeld => ?_)
      clear hK K
      refine done_ (done_of HT_.out (by kernel_rfl)) ?_
      try go_wp2
      go_loopg [7] k (fun kq v7 w' => ∃ (x7_1 : Int) (x597000_1 : Int) (x597001_1 : Int) (x597002_1 : List Bool) (u597002 : Value), v7 = .int .i64 x7_1 ∧ Aside0 (barscanref31_Turn.l0 kq a1 x7_1 a0_0 a0_1 l0_2 x597000_1 x597001_1 x597002_1 = some (r1, r2, r3, r4)) ∧ Aside0 (kq ≤ k) ∧ Aside0 (Kd.R Kd.bool 4 w' w.heap.size (fun _ => True) u597002 x597002_1) ∧ Aside0 (w'.heap[gb587]? = some (.cells #[.int .i64 a0_0, .int .i64 a0_1, (.slice A0_2 l0_2.length c0_2)] 24 (0, 0))) ∧ Aside0 (w'.heap[gb588]? = some (.cells #[.int .i64 0, .int .i64 0, (.slice none 0 0)] 24 (0, 0))) ∧ Aside0 (w'.heap[gb596]? = some (.cells #[.int .i64 x597000_1, .int .i64 x597001_1, u597002] 24 (0, 0))) ∧ Aside0 (Below w.heap.size w w'))
      case atStart => exact ⟨(0), (a0_0), (a0_1), (y593), (.slice Ao18 y593.length co18), (by rfl), H', ⟨Nat.le_refl _⟩, ⟨by (with_reducible repeat (fail)); exact Kd.R_mono (Kd.R_far (p := ⟨gb596, 2, none⟩) (Kd.R_far (p := ⟨gb596, 1, none⟩) (Kd.R_far (p := ⟨gb596, 0, none⟩) (Kd.R_types HO595.out BK596.out (by decide)) (fun _ hk => hk.2) (.int .i64 a0_0)) (fun _ hk => hk.2) (.int .i64 a0_1)) (fun _ hk => hk.2) (.slice Ao18 y593.length co18)) (fun _ hk => trivial)⟩, ⟨by (with_reducible repeat (fail)); refine blk_far ?_ NB587_596.out _; (with_reducible repeat (fail)); refine blk_far ?_ NB587_596.out _; (with_reducible repeat (fail)); refine blk_far ?_ NB587_596.out _; (with_reducible repeat (fail)); exact BK587.out⟩, ⟨by (with_reducible repeat (fail)); refine blk_far ?_ NB588_596.out _; (with_reducible repeat (fail)); refine blk_far ?_ NB588_596.out _; (with_reducible repeat (fail)); refine blk_far ?_ NB588_596.out _; (with_reducible repeat (fail)); exact BK588.out⟩, ⟨by (with_reducible repeat (fail)); refine blk_put (cs := #[.int .i64 a0_0, .int .i64 a0_1, .slice none 0 0]) ?_ 2 _ rfl; (with_reducible repeat (fail)); refine blk_put (cs := #[.int .i64 a0_0, .int .i64 0, .slice none 0 0]) ?_ 1 _ rfl; (with_reducible repeat (fail)); refine blk_put (cs := #[.int .i64 0, .int .i64 0, .slice none 0 0]) ?_ 0 _ rfl; (with_reducible repeat (fail)); exact BK596.out⟩, ⟨by repeat ((with_reducible first | exact HB.out | refine below_set ?_ GE596.out))⟩⟩
      case round =>
        clear H' hcz9_0 hcz9_1 hcz9_2 hfz9_0 hfz9_1 hfz9_2
        obtain ⟨x7_1, x597000_1, x597001_1, x597002_1, u597002, rfl, HA, HK1, HO_597002, BK587, BK588, BK596, HB⟩ := hrel
        cases gk with
        | zero => exact absurd HA.out (by simp [barscanref31_Turn.l0])
        | succ k1 =>
          have H := HA.out
          clear HA
          simp only [barscanref31_Turn.l0] at H
          replace H := Option.bind_eq_some_iff.mp H
          obtain ⟨t597, A220, H⟩ := H
          replace H : (if x7_1 < t597 then (barscanref31_Turn.l1 k1 a1 x7_1 0 a0_0 a0_1 l0_2 x597000_1 x597001_1 x597002_1 x597001_1 x597000_1 ([] : List Bool)) else (some (x597000_1, x597001_1, x597002_1, 0))) = some (r1, r2, r3, r4) := H
          have A22 := Aside0.mk A220
          clear A220
          by_cases c23 : x7_1 < t597
          · rw [if_pos c23] at H
            have c23b0 : decide (x7_1 < t597) = true := decide_eq_true c23
            clear c23
            have H' := Aside0.mk H
            clear H
            go_wp2_with (first | ((with_reducible refine gate_callee (f := 42) rfl ?_); refine goesL_ (some 25) rfl rfl Try.func42 (by kernel_rfl) rfl #[.int .i64 a1] rfl (by (try simp only [List.map_toArray, List.map_cons, List.map_nil]); rfl) ?_; (with_reducible refine (barscanref31_quarters.calls a1 t597 _ A22.out).mono ?_); rintro e w' ⟨rfl, ⟨nd, rfl⟩⟩; refine ⟨_, rfl, ?_⟩; (try (rw [drewN_self wr]; generalize hq_ : World.drewN wr _ = wr; have n0_ : Aside0 (Kd.R Kd.bool 4 wr w.heap.size (fun _ => True) u597002 x597002_1) := ⟨by rw [← hq_]; exact (by (with_reducible repeat (apply Kd.R_drewN)); exact HO_597002.out)⟩; have n1_ : Aside0 (wr.heap[gb587]? = some (.cells #[.int .i64 a0_0, .int .i64 a0_1, .slice A0_2 l0_2.length c0_2] 24 (0, 0))) := ⟨by rw [← hq_]; exact (by (with_reducible repeat (refine blk_drewN ?_ _)); exact BK587.out)⟩; have n2_ : Aside0 (wr.heap[gb588]? = some (.cells #[.int .i64 0, .int .i64 0, .slice none 0 0] 24 (0, 0))) := ⟨by rw [← hq_]; exact (by (with_reducible repeat (refine blk_drewN ?_ _)); exact BK588.out)⟩; have n3_ : Aside0 (wr.heap[gb596]? = some (.cells #[.int .i64 x597000_1, .int .i64 x597001_1, u597002] 24 (0, 0))) := ⟨by rw [← hq_]; exact (by (with_reducible repeat (refine blk_drewN ?_ _)); exact BK596.out)⟩; have n4_ : Aside0 (Below w.heap.size w wr) := ⟨by rw [← hq_]; exact (by repeat ((with_reducible first | exact HB.out | apply pw_below_drewN)))⟩; clear HO_597002 BK587 BK588 BK596 HB hq_; have HO_597002 := n0_; have BK587 := n1_; have BK588 := n2_; have BK596 := n3_; have HB := n4_; clear n0_ n1_ n2_ n3_ n4_)); have hnb24 := NB596_587.out; have hnc24 := NB587_596.out; have hnb25 := NB596_588.out; have hnc25 := NB588_596.out; have hcz26_0 : wr.cell? ⟨gb596, 0, none⟩ = some (.int .i64 x597000_1) := (blk_cell BK596.out 0).trans rfl; have hcz26_1 : wr.cell? ⟨gb596, 1, none⟩ = some (.int .i64 x597001_1) := (blk_cell BK596.out 1).trans rfl; have hcz26_2 : wr.cell? ⟨gb596, 2, none⟩ = some (u597002) := (blk_cell BK596.out 2).trans rfl; have hfz26_0 := blk_frozen BK596.out 0; have hfz26_1 := blk_frozen BK596.out 1; have hfz26_2 := blk_frozen BK596.out 2) | ((with_reducible refine gate_dst (N := 8) rfl ?_); refine box_event ?hg (N := 8) ?hd (cs := #[.int .i64 0, .int .i64 0, .slice none 0 0]) (t := 24) ?hr ?_; (case hd => rfl); (case hg => rfl); (case hr => (go_simp; done)); intro gb598 hg w27 hbox hb; have n0_ := Aside0.mk (Kd.R_below (by (with_reducible repeat (fail)); exact HO_597002.out) hb); have n1_ := Aside0.mk (blk_below (g := gb587) (o := .cells #[.int .i64 a0_0, .int .i64 a0_1, .slice A0_2 l0_2.length c0_2] 24 (0, 0)) (by (with_reducible repeat (fail)); exact BK587.out) hb); have n2_ := Aside0.mk (blk_below (g := gb588) (o := .cells #[.int .i64 0, .int .i64 0, .slice none 0 0] 24 (0, 0)) (by (with_reducible repeat (fail)); exact BK588.out) hb); have n3_ := Aside0.mk (blk_below (g := gb596) (o := .cells #[.int .i64 x597000_1, .int .i64 x597001_1, u597002] 24 (0, 0)) (by (with_reducible repeat (fail)); exact BK596.out) hb); have n4_ := Aside0.mk (below_step (by repeat ((with_reducible exact HB.out))) hb); have n5_ := Aside0.mk (hbox); have n6_ := Aside0.mk ((by rw [hg]; exact (below_size (by repeat ((with_reducible exact HB.out)))) : w.heap.size ≤ gb598)); have n7_ := Aside0.mk ((by rw [hg]; exact (below_size (by repeat ((with_reducible exact HB.out)))) : w.heap.size ≤ gb598)); have n8_ := Aside0.mk ((by rw [hg]; exact Nat.ne_of_lt (blk_lt (g := gb587) (o := .cells #[.int .i64 a0_0, .int .i64 a0_1, .slice A0_2 l0_2.length c0_2] 24 (0, 0)) (by (with_reducible repeat (fail)); exact BK587.out)) : gb587 ≠ gb598)); have n9_ := Aside0.mk ((by rw [hg]; exact Nat.ne_of_gt (blk_lt (g := gb587) (o := .cells #[.int .i64 a0_0, .int .i64 a0_1, .slice A0_2 l0_2.length c0_2] 24 (0, 0)) (by (with_reducible repeat (fail)); exact BK587.out)) : gb598 ≠ gb587)); have n10_ := Aside0.mk ((by rw [hg]; exact Nat.ne_of_lt (blk_lt (g := gb588) (o := .cells #[.int .i64 0, .int .i64 0, .slice none 0 0] 24 (0, 0)) (by (with_reducible repeat (fail)); exact BK588.out)) : gb588 ≠ gb598)); have n11_ := Aside0.mk ((by rw [hg]; exact Nat.ne_of_gt (blk_lt (g := gb588) (o := .cells #[.int .i64 0, .int .i64 0, .slice none 0 0] 24 (0, 0)) (by (with_reducible repeat (fail)); exact BK588.out)) : gb598 ≠ gb588)); have n12_ := Aside0.mk ((by rw [hg]; exact Nat.ne_of_lt (blk_lt (g := gb596) (o := .cells #[.int .i64 x597000_1, .int .i64 x597001_1, u597002] 24 (0, 0)) (by (with_reducible repeat (fail)); exact BK596.out)) : gb596 ≠ gb598)); have n13_ := Aside0.mk ((by rw [hg]; exact Nat.ne_of_gt (blk_lt (g := gb596) (o := .cells #[.int .i64 x597000_1, .int .i64 x597001_1, u597002] 24 (0, 0)) (by (with_reducible repeat (fail)); exact BK596.out)) : gb598 ≠ gb596)); clear HO_597002; clear BK587; clear BK588; clear BK596; clear HB; have HO_597002 := n0_; have BK587 := n1_; have BK588 := n2_; have BK596 := n3_; have HB := n4_; have BK598 := n5_; have GW598 := n6_; have GE598 := n7_; have NB587_598 := n8_; have NB598_587 := n9_; have NB588_598 := n10_; have NB598_588 := n11_; have NB596_598 := n12_; have NB598_596 := n13_; clear n0_ n1_ n2_ n3_ n4_ n5_ n6_ n7_ n8_ n9_ n10_ n11_ n12_ n13_; clear hb hbox hg; have hnb28 := NB598_587.out; have hnc28 := NB587_598.out; have hnb29 := NB598_588.out; have hnc29 := NB588_598.out; have hnb30 := NB598_596.out; have hnc30 := NB596_598.out; have hcz31_0 : w27.cell? ⟨gb598, 0, none⟩ = some (.int .i64 0) := (blk_cell BK598.out 0).trans rfl; have hcz31_1 : w27.cell? ⟨gb598, 1, none⟩ = some (.int .i64 0) := (blk_cell BK598.out 1).trans rfl; have hcz31_2 : w27.cell? ⟨gb598, 2, none⟩ = some (.slice none 0 0) := (blk_cell BK598.out 2).trans rfl; have hfz31_0 := blk_frozen BK598.out 0; have hfz31_1 := blk_frozen BK598.out 1; have hfz31_2 := blk_frozen BK598.out 2))
            go_loopg [9] k1 (fun kq v9 w' => ∃ (x9_2 : Int) (x599002_2 : List Bool) (u599002 : Value), v9 = .int .i64 x9_2 ∧ Aside0 (barscanref31_Turn.l1 kq a1 x7_1 x9_2 a0_0 a0_1 l0_2 x597000_1 x597001_1 x597002_1 x597001_1 x597000_1 x599002_2 = some (r1, r2, r3, r4)) ∧ Aside0 (kq ≤ k1) ∧ Aside0 (Kd.R Kd.bool 4 w' w.heap.size (fun k_ => some k_ ≠ (u599002 : Value).ownBlock) u597002 x597002_1) ∧ Aside0 (Kd.R Kd.bool 4 w' w.heap.size (fun k_ => some k_ ≠ (u597002 : Value).ownBlock) u599002 x599002_2) ∧ Aside0 (w'.heap[gb587]? = some (.cells #[.int .i64 a0_0, .int .i64 a0_1, (.slice A0_2 l0_2.length c0_2)] 24 (0, 0))) ∧ Aside0 (w'.heap[gb588]? = some (.cells #[.int .i64 0, .int .i64 0, (.slice none 0 0)] 24 (0, 0))) ∧ Aside0 (w'.heap[gb596]? = some (.cells #[.int .i64 x597000_1, .int .i64 x597001_1, u597002] 24 (0, 0))) ∧ Aside0 (w'.heap[gb598]? = some (.cells #[.int .i64 x597001_1, .int .i64 x597000_1, u599002] 24 (0, 0))) ∧ Aside0 (Below w.heap.size w w'))
            case atStart => exact ⟨(0), (([] : List Bool)), (.slice none 0 0), (by rfl), H', ⟨Nat.le_refl _⟩, ⟨by (with_reducible repeat (fail)); exact Kd.R_mono (Kd.R_far (p := ⟨gb598, 2, none⟩) (Kd.R_far (p := ⟨gb598, 1, none⟩) (Kd.R_far (p := ⟨gb598, 0, none⟩) (Kd.R_types HO_597002.out BK598.out (by decide)) (fun _ hk => hk.2) (.int .i64 x597001_1)) (fun _ hk => hk.2) (.int .i64 x597000_1)) (fun _ hk => hk.2) (.slice none 0 0)) (fun _ hk => (by simp [Value.ownBlock]))⟩, ⟨by exact Kd.R_nil _ _ _ _ _⟩, ⟨by (with_reducible repeat (fail)); refine blk_far ?_ NB587_598.out _; (with_reducible repeat (fail)); refine blk_far ?_ NB587_598.out _; (with_reducible repeat (fail)); refine blk_far ?_ NB587_598.out _; (with_reducible repeat (fail)); exact BK587.out⟩, ⟨by (with_reducible repeat (fail)); refine blk_far ?_ NB588_598.out _; (with_reducible repeat (fail)); refine blk_far ?_ NB588_598.out _; (with_reducible repeat (fail)); refine blk_far ?_ NB588_598.out _; (with_reducible repeat (fail)); exact BK588.out⟩, ⟨by (with_reducible repeat (fail)); refine blk_far ?_ NB596_598.out _; (with_reducible repeat (fail)); refine blk_far ?_ NB596_598.out _; (with_reducible repeat (fail)); refine blk_far ?_ NB596_598.out _; (with_reducible repeat (fail)); exact BK596.out⟩, ⟨by (with_reducible repeat (fail)); refine blk_put (cs := #[.int .i64 x597001_1, .int .i64 x597000_1, .slice none 0 0]) ?_ 2 _ rfl; (with_reducible repeat (fail)); refine blk_put (cs := #[.int .i64 x597001_1, .int .i64 0, .slice none 0 0]) ?_ 1 _ rfl; (with_reducible repeat (fail)); refine blk_put (cs := #[.int .i64 0, .int .i64 0, .slice none 0 0]) ?_ 0 _ rfl; (with_reducible repeat (fail)); exact BK598.out⟩, ⟨by repeat ((with_reducible first | exact HB.out | refine below_set ?_ GE598.out))⟩⟩
            case round =>
              clear H' c23b0 hcz26_0 hcz26_1 hcz26_2 hcz31_0 hcz31_1 hcz31_2 hfz26_0 hfz26_1 hfz26_2 hfz31_0 hfz31_1 hfz31_2
              obtain ⟨x9_2, x599002_2, u599002, rfl, HA, HK2, HO_597002, HO_599002, BK587, BK588, BK596, BK598, HB⟩ := hrel
              cases gk with
              | zero => exact absurd HA.out (by simp [barscanref31_Turn.l1])
              | succ k2 =>
                have H := HA.out
                clear HA
                simp only [barscanref31_Turn.l1] at H
                by_cases c32 : x9_2 < (l0_2.length : Int)
                · rw [if_pos c32] at H
                  have c32b0 : decide (x9_2 < (l0_2.length : Int)) = true := decide_eq_true c32
                  clear c32
                  replace H := Option.bind_eq_some_iff.mp H
                  obtain ⟨t599, A330, H⟩ := H
                  replace H : (if 0 ≤ t599 then (if t599 < (x597002_1.length : Int) then (if x599002_2.length < 140737488355328 then (barscanref31_Turn.l1 k2 a1 x7_1 (wrap64 (x9_2 + 1)) a0_0 a0_1 l0_2 x597000_1 x597001_1 x597002_1 x597001_1 x597000_1 (x599002_2 ++ [rdOf false x597002_1 t599])) else (none)) else (none)) else (none)) = some (r1, r2, r3, r4) := H
                  have A33 := Aside0.mk A330
                  clear A330
                  by_cases c34 : 0 ≤ t599
                  · rw [if_pos c34] at H
                    have c34b0 : decide (0 ≤ t599) = true := decide_eq_true c34
                    clear c34
                    by_cases c35 : t599 < (x597002_1.length : Int)
                    · rw [if_pos c35] at H
                      have c35b0 : decide (t599 < (x597002_1.length : Int)) = true := decide_eq_true c35
                      clear c35
                      by_cases c36 : x599002_2.length < 140737488355328
                      · rw [if_pos c36] at H
                        have LMc36 := Aside0.mk c36
                        clear c36
                        obtain ⟨y601, hy601⟩ : ∃ y_ : List Bool, y_ = (x599002_2 ++ [rdOf false x597002_1 t599]) := ⟨_, rfl⟩
                        replace H : (barscanref31_Turn.l1 k2 a1 x7_1 (wrap64 (x9_2 + 1)) a0_0 a0_1 l0_2 x597000_1 x597001_1 x597002_1 x597001_1 x597000_1 y601) = some (r1, r2, r3, r4) := by (rw [hy601]; with_reducible exact H)
                        have Ny601 := Aside0.mk hy601
                        clear hy601
                        have H' := Aside0.mk H
                        clear H
                        have hnb37 := NB587_588.out
                        have hnc37 := NB588_587.out
                        have hnb38 := NB587_596.out
                        have hnc38 := NB596_587.out
                        have hnb39 := NB587_598.out
                        have hnc39 := NB598_587.out
                        have hcz40_0 : wr.cell? ⟨gb587, 0, none⟩ = some (.int .i64 a0_0) := (blk_cell BK587.out 0).trans rfl
                        have hcz40_1 : wr.cell? ⟨gb587, 1, none⟩ = some (.int .i64 a0_1) := (blk_cell BK587.out 1).trans rfl
                        have hcz40_2 : wr.cell? ⟨gb587, 2, none⟩ = some (.slice A0_2 l0_2.length c0_2) := (blk_cell BK587.out 2).trans rfl
                        have hfz40_0 := blk_frozen BK587.out 0
                        have hfz40_1 := blk_frozen BK587.out 1
                        have hfz40_2 := blk_frozen BK587.out 2
                        try go_wp2
                        have n0_ := Aside0.mk (Kd.R_drew HO_597002.out)
                        have n1_ := Aside0.mk (Kd.R_drew HO_599002.out)
                        have n2_ := Aside0.mk (blk_drew BK587.out)
                        have n3_ := Aside0.mk (blk_drew BK588.out)
                        have n4_ := Aside0.mk (blk_drew BK596.out)
                        have n5_ := Aside0.mk (blk_drew BK598.out)
                        have n6_ := Aside0.mk (below_drew1 HB.out)
                        clear HO_597002 HO_599002 BK587 BK588 BK596 BK598 HB
                        have HO_597002 := n0_
                        have HO_599002 := n1_
                        have BK587 := n2_
                        have BK588 := n3_
                        have BK596 := n4_
                        have BK598 := n5_
                        have HB := n6_
                        clear n0_ n1_ n2_ n3_ n4_ n5_ n6_
                        have p600 : 0 ≤ (t599 : Int) := of_decide_eq_true (by (with_reducible assumption))
                        have q600 : t599 < (x597002_1.length : Int) := of_decide_eq_true (by (with_reducible assumption))
                        obtain ⟨A597, c597, rfl, l597, C597⟩ := Kd.R_reads HO_597002.out
                        clear l597 C597
                        obtain ⟨ad600, e600, hx600_0⟩ := Kd.at_bool (Kd.R_reads' HO_597002.out).2.2 t599 p600 q600
                        cases e600
                        replace p600 := eq_true p600
                        replace q600 := eq_true q600
                        refine start_ (n := 16) (S := fun w' => w'.cell? ⟨gb598, 0, none⟩ = some (.int .i64 x597001_1) ∧ w'.cell? ⟨gb598, 1, none⟩ = some (.int .i64 x597000_1) ∧ w'.cell? ⟨gb598, 2, none⟩ = some (u599002) ∧ w'.cell? ⟨gb596, 0, none⟩ = some (.int .i64 x597000_1) ∧ w'.cell? ⟨gb596, 1, none⟩ = some (.int .i64 x597001_1) ∧ w'.cell? ⟨gb596, 2, none⟩ = some ((.slice (some ad600) x597002_1.length c597)) ∧ w'.cell? (ad600.add (t599).toNat) = some (.bool (rdOf false x597002_1 t599))) (ds := [13, 15]) #[false, false, false, false, false, false, false, false, false, false, false, false, false, false, false, false] (by kernel_rfl) rfl rfl ⟨(blk_cell BK598.out 0).trans rfl, (blk_cell BK598.out 1).trans rfl, (blk_cell BK598.out 2).trans rfl, (blk_cell BK596.out 0).trans rfl, (blk_cell BK596.out 1).trans rfl, (blk_cell BK596.out 2).trans rfl, hx600_0⟩ (fun hHeld => ?_); refine with_tabW barscanref31_Turn.tab11 barscanref31_Turn.bits11 (fun HT_ HW_ => ?_)
                        generalize wr.drew = w41 at HO_597002 HO_599002 BK587 BK588 BK596 BK598 HB hx600_0 hHeld ⊢
                        refine pure_ (i := 0) (N := some 41) (v := ?_) (a' := ?_) #[true, false, false, false, false, false, false, false, false, false, false, false, false, false, false, false] rfl rfl (any_of HT_.out (by kernel_rfl)) (fun _ _ _ h => h) (Or.inl ⟨by rfl, ?_⟩) ?_ ?_
                        rotate_left
                        · intro w'
                          go_simp
                          with_reducible rfl
                        rotate_left
                        · simp only [Act.put, List.setIfInBounds_toArray, List.set_cons_zero, List.set_cons_succ, i64_w, i32_w]
                          rfl
                        refine pure_ (i := 2) (N := some 43) (v := ?_) (a' := ?_) #[true, false, true, false, false, false, false, false, false, false, false, false, false, false, false, false] rfl rfl (any_of HT_.out (by kernel_rfl)) (fun _ _ _ h => h) (Or.inl ⟨by rfl, ?_⟩) ?_ ?_
                        rotate_left
                        · intro w'
                          go_simp
                          with_reducible rfl
                        rotate_left
                        · simp only [Act.put, List.setIfInBounds_toArray, List.set_cons_zero, List.set_cons_succ, i64_w, i32_w]
                          rfl
                        refine pure_ (i := 4) (N := some 45) (v := ?_) (a' := ?_) #[true, false, true, false, true, false, false, false, false, false, false, false, false, false, false, false] rfl rfl (any_of HT_.out (by kernel_rfl)) (fun _ _ _ h => h) (Or.inl ⟨by rfl, ?_⟩) ?_ ?_
                        rotate_left
                        · intro w'
                          go_simp
                          with_reducible rfl
                        rotate_left
                        · simp only [Act.put, List.setIfInBounds_toArray, List.set_cons_zero, List.set_cons_succ, i64_w, i32_w]
                          rfl
                        refine pure_ (i := 6) (N := some 47) (v := ?_) (a' := ?_) #[true, false, true, false, true, false, true, false, false, false, false, false, false, false, false, false] rfl rfl (any_of HT_.out (by kernel_rfl)) (fun _ _ _ h => h) (Or.inl ⟨by rfl, ?_⟩) ?_ ?_
                        rotate_left
                        · intro w'
                          go_simp
                          with_reducible rfl
                        rotate_left
                        · simp only [Act.put, List.setIfInBounds_toArray, List.set_cons_zero, List.set_cons_succ, i64_w, i32_w]
                          rfl
                        refine pure_ (i := 8) (N := some 49) (v := ?_) (a' := ?_) #[true, false, true, false, true, false, true, false, true, false, false, false, false, false, false, false] rfl rfl (any_of HT_.out (by kernel_rfl)) (fun _ _ _ h => h) (Or.inl ⟨by rfl, ?_⟩) ?_ ?_
                        rotate_left
                        · intro w'
                          go_simp
                          with_reducible rfl
                        rotate_left
                        · simp only [Act.put, List.setIfInBounds_toArray, List.set_cons_zero, List.set_cons_succ, i64_w, i32_w]
                          rfl
                        refine take_ (i := 1) (N := some 42) (v := ?_) (a' := ?_) #[true, true, true, false, true, false, true, false, true, false, false, false, false, false, false, false] rfl rfl (take_ofW HT_.out HW_.out (by kernel_rfl)) (fun _ _ _ h => h) (Or.inl ⟨by rfl, ?_⟩) hHeld ?_ ?_
                        rotate_left
                        · rintro w' ⟨s0, s1, s2, s3, s4, s5, s6⟩
                          go_simp
                          with_reducible rfl
                        rotate_left
                        · simp only [Act.put, List.setIfInBounds_toArray, List.set_cons_zero, List.set_cons_succ, i64_w, i32_w]
                          rfl
                        refine take_ (i := 3) (N := some 44) (v := ?_) (a' := ?_) #[true, true, true, true, true, false, true, false, true, false, false, false, false, false, false, false] rfl rfl (take_ofW HT_.out HW_.out (by kernel_rfl)) (fun _ _ _ h => h) (Or.inl ⟨by rfl, ?_⟩) hHeld ?_ ?_
                        rotate_left
                        · rintro w' ⟨s0, s1, s2, s3, s4, s5, s6⟩
                          go_simp
                          with_reducible rfl
                        rotate_left
                        · simp only [Act.put, List.setIfInBounds_toArray, List.set_cons_zero, List.set_cons_succ, i64_w, i32_w]
                          rfl
                        refine take_ (i := 5) (N := some 46) (v := ?_) (a' := ?_) #[true, true, true, true, true, true, true, false, true, false, false, false, false, false, false, false] rfl rfl (take_ofW HT_.out HW_.out (by kernel_rfl)) (fun _ _ _ h => h) (Or.inl ⟨by rfl, ?_⟩) hHeld ?_ ?_
                        rotate_left
                        · rintro w' ⟨s0, s1, s2, s3, s4, s5, s6⟩
                          go_simp
                          with_reducible rfl
                        rotate_left
                        · simp only [Act.put, List.setIfInBounds_toArray, List.set_cons_zero, List.set_cons_succ, i64_w, i32_w]
                          rfl
                        refine take_ (i := 7) (N := some 48) (v := ?_) (a' := ?_) #[true, true, true, true, true, true, true, true, true, false, false, false, false, false, false, false] rfl rfl (take_ofW HT_.out HW_.out (by kernel_rfl)) (fun _ _ _ h => h) (Or.inl ⟨by rfl, ?_⟩) hHeld ?_ ?_
                        rotate_left
                        · rintro w' ⟨s0, s1, s2, s3, s4, s5, s6⟩
                          go_simp
                          with_reducible rfl
                        rotate_left
                        · simp only [Act.put, List.setIfInBounds_toArray, List.set_cons_zero, List.set_cons_succ, i64_w, i32_w]
                          rfl
                        refine one_ (i := 9) (N := some 50) #[true, true, true, true, true, true, true, true, true, true, false, false, false, false, false, false] rfl rfl (one_of HT_.out (by kernel_rfl)) (by decide) (fun K hK => ?_)
                        refine goes_ Try.func43 (by kernel_rfl) rfl #[.int .i64 x597000_1, .int .i64 x597001_1, .int .i64 x9_2] (by rfl) rfl rfl (by (try simp only [List.map_toArray, List.map_cons, List.map_nil]); rfl) ?_
                        with_reducible refine (barscanref31_turned.calls x597000_1 x597001_1 x9_2 t599 _ A33.out).mono ?_
                        rintro e w' ⟨rfl, ⟨nd, rfl⟩⟩
                        refine ⟨_, rfl, ?_⟩
                        obtain ⟨Ao42, co42, eo42⟩ := Kd.R_slice HO_597002.out
                        ((injection eo42 with f1_ f2_ f3_; have f4_ := f1_.symm; have f5_ := f3_.symm; clear f1_ f2_ f3_; subst f4_; subst f5_))
                        refine hK.out _ _ ⟨(blk_cell BK598.out 0).trans rfl, (blk_cell BK598.out 1).trans rfl, (blk_cell BK598.out 2).trans rfl, (blk_cell BK596.out 0).trans rfl, (blk_cell BK596.out 1).trans rfl, (blk_cell BK596.out 2).trans rfl, hHeld.2.2.2.2.2.2⟩ (fun hHeld => ?_)
                        clear hK K
                        refine norm_ (a' := ?_) ?_ ?_
                        rotate_left
                        · show Act.put _ (some 50) _ = _
                          simp only [Act.put, List.setIfInBounds_toArray, List.set_cons_zero, List.set_cons_succ, i64_w, i32_w]
                          rfl
                        refine pure_ (i := 10) (N := some 51) (v := ?_) (a' := ?_) #[true, true, true, true, true, true, true, true, true, true, true, false, false, false, false, false] rfl rfl (any_of HT_.out (by kernel_rfl)) (fun _ _ _ h => h) (Or.inl ⟨by rfl, ?_⟩) ?_ ?_
                        rotate_left
                        · intro w'
                          go_simp
                          with_reducible rfl
                        rotate_left
                        · simp only [Act.put, List.setIfInBounds_toArray, List.set_cons_zero, List.set_cons_succ, i64_w, i32_w]
                          rfl
                        refine take_ (i := 11) (N := some 52) (v := ?_) (a' := ?_) #[true, true, true, true, true, true, true, true, true, true, true, true, false, false, false, false] rfl rfl (take_ofW HT_.out HW_.out (by kernel_rfl)) (fun _ _ _ h => h) (Or.inl ⟨by rfl, ?_⟩) hHeld ?_ ?_
                        rotate_left
                        · rintro w' ⟨s0, s1, s2, s3, s4, s5, s6⟩
                          go_simp
                          with_reducible rfl
                        rotate_left
                        · simp only [Act.put, List.setIfInBounds_toArray, List.set_cons_zero, List.set_cons_succ, i64_w, i32_w]
                          rfl
                        refine one_ (i := 12) (N := some 53) #[true, true, true, true, true, true, true, true, true, true, true, true, true, false, false, false] rfl rfl (one_of HT_.out (by kernel_rfl)) (by decide) (fun K hK => ?_)
                        refine value_ (w1 := ?_) (v := ?_) (by rfl) rfl ?_ ?_
                        rotate_left 2
                        · go_simp
                          constructor
                          · rfl
                          · rfl
                        refine hK.out _ _ ⟨(blk_cell (blk_alloc BK598.out _) 0).trans rfl, (blk_cell (blk_alloc BK598.out _) 1).trans rfl, (blk_cell (blk_alloc BK598.out _) 2).trans rfl, (blk_cell (blk_alloc BK596.out _) 0).trans rfl, (blk_cell (blk_alloc BK596.out _) 1).trans rfl, (blk_cell (blk_alloc BK596.out _) 2).trans rfl, (World.cell?_alloc_lt _ _ _ (World.block_lt_of_cell? _ _ (hHeld.2.2.2.2.2.2))).trans (hHeld.2.2.2.2.2.2)⟩ (fun hHeld => ?_)
                        clear hK K
                        refine norm_ (a' := ?_) ?_ ?_
                        rotate_left
                        · show Act.put _ (some 53) _ = _
                          simp only [Act.put, List.setIfInBounds_toArray, List.set_cons_zero, List.set_cons_succ, i64_w, i32_w]
                          rfl
                        refine last_ (i := 13) (N := some 54) #[true, true, true, true, true, true, true, true, true, true, true, true, true, true, false, false] rfl rfl (one_of HT_.out (by kernel_rfl)) (by decide) (fun K hK => ?_)
                        refine Kd.R_append_step Kd.bool (w0 := w) w.heap.size (by rfl) (.tmp 42) (.tmp 53) 22 4 (.bool false) 1 rfl Try.underlying22 info4 rfl (by decide) (by omega) u599002 x599002_2 (rdOf false x597002_1 t599) [.bool (rdOf false x597002_1 t599)] (fun k_ => some k_ ≠ (.slice (some ad600) x597002_1.length co42 : Value).ownBlock) (fun _ => False) rfl rfl ?aP (fun _ hk => hk.elim) ?aF ?aO ?aB ?aS ?aL ?_
                        (case aP => exact rfl)
                        (case aB => exact (by repeat ((with_reducible first | exact HB.out | apply pw_below_drewN))))
                        (case aF => exact (fun k_ hk => Kd.fresh' (Kd.R_lt (by (with_reducible repeat (apply Kd.R_drewN)); exact HO_597002.out)) k_ hk))
                        (case aO => exact (by (with_reducible repeat (apply Kd.R_drewN)); exact HO_599002.out))
                        (case aS => exact (below_size (by repeat ((with_reducible first | exact HB.out | apply pw_below_drewN)))))
                        (case aL => have := LMc36.out; omega)
                        intro v602 w43 ho hb hg hat
                        rw [← Ny601.out] at ho
                        have n0_ := Aside0.mk (Kd.R_after (ok := (fun _ => True)) (by (with_reducible repeat (apply Kd.R_drewN)); exact Kd.R_mono HO_597002.out (fun _ hk => ⟨trivial, hk⟩)) hg hat)
                        have n1_ := Aside0.mk (blk_grown (g := gb587) (o := .cells #[.int .i64 a0_0, .int .i64 a0_1, .slice A0_2 l0_2.length c0_2] 24 (0, 0)) (by (with_reducible repeat (refine blk_drewN ?_ _)); exact BK587.out) hg (Kd.R_ne HO_599002.out BK587.out (by decide)))
                        have n2_ := Aside0.mk (blk_grown (g := gb588) (o := .cells #[.int .i64 0, .int .i64 0, .slice none 0 0] 24 (0, 0)) (by (with_reducible repeat (refine blk_drewN ?_ _)); exact BK588.out) hg (Kd.R_ne HO_599002.out BK588.out (by decide)))
                        have n3_ := Aside0.mk (blk_grown (g := gb596) (o := .cells #[.int .i64 x597000_1, .int .i64 x597001_1, .slice (some ad600) x597002_1.length co42] 24 (0, 0)) (by (with_reducible repeat (refine blk_drewN ?_ _)); exact BK596.out) hg (Kd.R_ne HO_599002.out BK596.out (by decide)))
                        have n4_ := Aside0.mk (blk_grown (g := gb598) (o := .cells #[.int .i64 x597001_1, .int .i64 x597000_1, u599002] 24 (0, 0)) (by (with_reducible repeat (refine blk_drewN ?_ _)); exact BK598.out) hg (Kd.R_ne HO_599002.out BK598.out (by decide)))
                        have n5_ := Aside0.mk (hb)
                        have n6_ := Aside0.mk (ho)
                        clear HO_597002 BK587 BK588 BK596 BK598 HB HO_599002
                        have HO_597002 := n0_
                        have BK587 := n1_
                        have BK588 := n2_
                        have BK596 := n3_
                        have BK598 := n4_
                        have HB := n5_
                        have HO603 := n6_
                        clear n0_ n1_ n2_ n3_ n4_ n5_ n6_ ho hb hg hat
                        obtain ⟨Ao44, co44, eo44⟩ := Kd.R_slice HO603.out
                        (subst eo44)
                        refine hK.out _ _ ?_
                        clear hK K
                        refine norm_ (a' := ?_) ?_ ?_
                        rotate_left
                        · show Act.put _ (some 54) _ = _
                          simp only [Act.put, List.setIfInBounds_toArray, List.set_cons_zero, List.set_cons_succ, i64_w, i32_w]
                          rfl
                        refine pure_ (i := 14) (N := some 55) (v := ?_) (a' := ?_) #[true, true, true, true, true, true, true, true, true, true, true, true, true, true, true, false] rfl rfl (any_of HT_.out (by kernel_rfl)) (fun _ _ _ h => h) (Or.inl ⟨by rfl, ?_⟩) ?_ ?_
                        rotate_left
                        · intro w'
                          go_simp
                          with_reducible rfl
                        rotate_left
                        · simp only [Act.put, List.setIfInBounds_toArray, List.set_cons_zero, List.set_cons_succ, i64_w, i32_w]
                          rfl
                        refine last_ (i := 15) (N := none) #[true, true, true, true, true, true, true, true, true, true, true, true, true, true, true, true] rfl rfl (one_of HT_.out (by kernel_rfl)) (by decide) (fun K hK => ?_)
                        have hs45 : w43.cell? ⟨gb598, 2, none⟩ = some (u599002) := (blk_cell BK598.out 2).trans rfl
                        have hfs45 := blk_frozen BK598.out 2
                        have hns45_0 := NB587_598.out
                        have hns45_1 := NB588_598.out
                        have hns45_2 := NB596_598.out
                        have hms45_0 := NB598_587.out
                        have hms45_1 := NB598_588.out
                        have hms45_2 := NB598_596.out
                        refine skip_ (w1 := ?_) (by rfl) rfl ?_ ?_
                        rotate_left
                        · go_simp
                          rfl
                        refine hK.out _ _ ?_
                        clear hK K
                        refine done_ (done_of HT_.out (by kernel_rfl)) ?_
                        try go_wp2
                        go_roundg k2
                        case measure => have := HK1.out; have := HK2.out; omega
                        case rel => exact ⟨(wrap64 (x9_2 + 1)), (y601), (.slice Ao44 y601.length co44), (by rfl), H', ⟨by have := HK1.out; have := HK2.out; omega⟩, ⟨by (with_reducible repeat (fail)); exact Kd.R_mono (Kd.R_far (p := ⟨gb598, 2, none⟩) (Kd.R_types HO_597002.out BK598.out (by decide)) (fun _ hk => hk.2) (.slice Ao44 y601.length co44)) (fun _ hk => hk.1.2)⟩, ⟨by (with_reducible repeat (fail)); exact Kd.R_mono (Kd.R_far (p := ⟨gb598, 2, none⟩) (Kd.R_types HO603.out BK598.out (by decide)) (fun _ hk => hk.2) (.slice Ao44 y601.length co44)) (fun _ hk => hk.1)⟩, ⟨by (with_reducible repeat (fail)); refine blk_far ?_ NB587_598.out _; (with_reducible repeat (fail)); exact BK587.out⟩, ⟨by (with_reducible repeat (fail)); refine blk_far ?_ NB588_598.out _; (with_reducible repeat (fail)); exact BK588.out⟩, ⟨by (with_reducible repeat (fail)); refine blk_far ?_ NB596_598.out _; (with_reducible repeat (fail)); exact BK596.out⟩, ⟨by (with_reducible repeat (fail)); refine blk_put (cs := #[.int .i64 x597001_1, .int .i64 x597000_1, u599002]) ?_ 2 _ rfl; (with_reducible repeat (fail)); exact BK598.out⟩, ⟨by repeat ((with_reducible first | exact HB.out | refine below_set ?_ GE598.out))⟩⟩
                      · rw [if_neg c36] at H
                        exact absurd H (by simp)
                    · rw [if_neg c35] at H
                      exact absurd H (by simp)
                  · rw [if_neg c34] at H
                    exact absurd H (by simp)
                · rw [if_neg c32] at H
                  have c32b0 : decide (x9_2 < (l0_2.length : Int)) = false := decide_eq_false c32
                  clear c32
                  have H' := Aside0.mk H
                  clear H
                  have hnb46 := NB587_588.out
                  have hnc46 := NB588_587.out
                  have hnb47 := NB587_596.out
                  have hnc47 := NB596_587.out
                  have hnb48 := NB587_598.out
                  have hnc48 := NB598_587.out
                  have hcz49_0 : wr.cell? ⟨gb587, 0, none⟩ = some (.int .i64 a0_0) := (blk_cell BK587.out 0).trans rfl
                  have hcz49_1 : wr.cell? ⟨gb587, 1, none⟩ = some (.int .i64 a0_1) := (blk_cell BK587.out 1).trans rfl
                  have hcz49_2 : wr.cell? ⟨gb587, 2, none⟩ = some (.slice A0_2 l0_2.length c0_2) := (blk_cell BK587.out 2).trans rfl
                  have hfz49_0 := blk_frozen BK587.out 0
                  have hfz49_1 := blk_frozen BK587.out 1
                  have hfz49_2 := blk_frozen BK587.out 2
                  have hnb50 := NB598_588.out
                  have hnc50 := NB588_598.out
                  have hnb51 := NB598_596.out
                  have hnc51 := NB596_598.out
                  have hcz52_0 : wr.cell? ⟨gb598, 0, none⟩ = some (.int .i64 x597001_1) := (blk_cell BK598.out 0).trans rfl
                  have hcz52_1 : wr.cell? ⟨gb598, 1, none⟩ = some (.int .i64 x597000_1) := (blk_cell BK598.out 1).trans rfl
                  have hcz52_2 : wr.cell? ⟨gb598, 2, none⟩ = some (u599002) := (blk_cell BK598.out 2).trans rfl
                  have hfz52_0 := blk_frozen BK598.out 0
                  have hfz52_1 := blk_frozen BK598.out 1
                  have hfz52_2 := blk_frozen BK598.out 2
                  have hnb53 := NB596_588.out
                  have hnc53 := NB588_596.out
                  have hcz54_0 : wr.cell? ⟨gb596, 0, none⟩ = some (.int .i64 x597000_1) := (blk_cell BK596.out 0).trans rfl
                  have hcz54_1 : wr.cell? ⟨gb596, 1, none⟩ = some (.int .i64 x597001_1) := (blk_cell BK596.out 1).trans rfl
                  have hcz54_2 : wr.cell? ⟨gb596, 2, none⟩ = some (u597002) := (blk_cell BK596.out 2).trans rfl
                  have hfz54_0 := blk_frozen BK596.out 0
                  have hfz54_1 := blk_frozen BK596.out 1
                  have hfz54_2 := blk_frozen BK596.out 2
                  obtain ⟨Ao55, co55, eo55⟩ := Kd.R_slice HO_599002.out
                  subst eo55
                  go_wp2
                  go_roundg k2
                  case measure => have := HK1.out; have := HK2.out; omega
                  case rel => exact ⟨(wrap64 (x7_1 + 1)), (x597001_1), (x597000_1), (x599002_2), (.slice Ao55 x599002_2.length co55), (by rfl), H', ⟨by have := HK1.out; have := HK2.out; omega⟩, ⟨by (with_reducible repeat (fail)); exact Kd.R_mono (Kd.R_far (p := ⟨gb596, 2, none⟩) (Kd.R_far (p := ⟨gb596, 1, none⟩) (Kd.R_far (p := ⟨gb596, 0, none⟩) (Kd.R_types HO_599002.out BK596.out (by decide)) (fun _ hk => hk.2) (.int .i64 x597001_1)) (fun _ hk => hk.2) (.int .i64 x597000_1)) (fun _ hk => hk.2) (.slice Ao55 x599002_2.length co55)) (fun _ hk => trivial)⟩, ⟨by (with_reducible repeat (fail)); refine blk_far ?_ NB587_596.out _; (with_reducible repeat (fail)); refine blk_far ?_ NB587_596.out _; (with_reducible repeat (fail)); refine blk_far ?_ NB587_596.out _; (with_reducible repeat (fail)); exact BK587.out⟩, ⟨by (with_reducible repeat (fail)); refine blk_far ?_ NB588_596.out _; (with_reducible repeat (fail)); refine blk_far ?_ NB588_596.out _; (with_reducible repeat (fail)); refine blk_far ?_ NB588_596.out _; (with_reducible repeat (fail)); exact BK588.out⟩, ⟨by (with_reducible repeat (fail)); refine blk_put (cs := #[.int .i64 x597001_1, .int .i64 x597000_1, u597002]) ?_ 2 _ rfl; (with_reducible repeat (fail)); refine blk_put (cs := #[.int .i64 x597001_1, .int .i64 x597001_1, u597002]) ?_ 1 _ rfl; (with_reducible repeat (fail)); refine blk_put (cs := #[.int .i64 x597000_1, .int .i64 x597001_1, u597002]) ?_ 0 _ rfl; (with_reducible repeat (fail)); exact BK596.out⟩, ⟨by repeat ((with_reducible first | exact HB.out | refine below_set ?_ GE596.out))⟩⟩
          · rw [if_neg c23] at H
            have c23b0 : decide (x7_1 < t597) = false := decide_eq_false c23
            clear c23
            simp only [Option.some.injEq, Prod.mk.injEq] at H
            obtain ⟨rfl, rfl, rfl, rfl⟩ := H
            go_wp2_with (((with_reducible refine gate_callee (f := 42) rfl ?_); refine goesL_ (some 25) rfl rfl Try.func42 (by kernel_rfl) rfl #[.int .i64 a1] rfl (by (try simp only [List.map_toArray, List.map_cons, List.map_nil]); rfl) ?_; (with_reducible refine (barscanref31_quarters.calls a1 t597 _ A22.out).mono ?_); rintro e w' ⟨rfl, ⟨nd, rfl⟩⟩; refine ⟨_, rfl, ?_⟩; (try (rw [drewN_self wr]; generalize hq_ : World.drewN wr _ = wr; have n0_ : Aside0 (Kd.R Kd.bool 4 wr w.heap.size (fun _ => True) u597002 x597002_1) := ⟨by rw [← hq_]; exact (by (with_reducible repeat (apply Kd.R_drewN)); exact HO_597002.out)⟩; have n1_ : Aside0 (wr.heap[gb587]? = some (.cells #[.int .i64 a0_0, .int .i64 a0_1, .slice A0_2 l0_2.length c0_2] 24 (0, 0))) := ⟨by rw [← hq_]; exact (by (with_reducible repeat (refine blk_drewN ?_ _)); exact BK587.out)⟩; have n2_ : Aside0 (wr.heap[gb588]? = some (.cells #[.int .i64 0, .int .i64 0, .slice none 0 0] 24 (0, 0))) := ⟨by rw [← hq_]; exact (by (with_reducible repeat (refine blk_drewN ?_ _)); exact BK588.out)⟩; have n3_ : Aside0 (wr.heap[gb596]? = some (.cells #[.int .i64 x597000_1, .int .i64 x597001_1, u597002] 24 (0, 0))) := ⟨by rw [← hq_]; exact (by (with_reducible repeat (refine blk_drewN ?_ _)); exact BK596.out)⟩; have n4_ : Aside0 (Below w.heap.size w wr) := ⟨by rw [← hq_]; exact (by repeat ((with_reducible first | exact HB.out | apply pw_below_drewN)))⟩; clear HO_597002 BK587 BK588 BK596 HB hq_; have HO_597002 := n0_; have BK587 := n1_; have BK588 := n2_; have BK596 := n3_; have HB := n4_; clear n0_ n1_ n2_ n3_ n4_)); have hnb56 := NB596_587.out; have hnc56 := NB587_596.out; have hnb57 := NB596_588.out; have hnc57 := NB588_596.out; have hcz58_0 : wr.cell? ⟨gb596, 0, none⟩ = some (.int .i64 x597000_1) := (blk_cell BK596.out 0).trans rfl; have hcz58_1 : wr.cell? ⟨gb596, 1, none⟩ = some (.int .i64 x597001_1) := (blk_cell BK596.out 1).trans rfl; have hcz58_2 : wr.cell? ⟨gb596, 2, none⟩ = some (u597002) := (blk_cell BK596.out 2).trans rfl; have hfz58_0 := blk_frozen BK596.out 0; have hfz58_1 := blk_frozen BK596.out 1; have hfz58_2 := blk_frozen BK596.out 2; have hnb59 := NB588_587.out; have hnc59 := NB587_588.out; have hcz60_0 : wr.cell? ⟨gb588, 0, none⟩ = some (.int .i64 0) := (blk_cell BK588.out 0).trans rfl; have hcz60_1 : wr.cell? ⟨gb588, 1, none⟩ = some (.int .i64 0) := (blk_cell BK588.out 1).trans rfl; have hcz60_2 : wr.cell? ⟨gb588, 2, none⟩ = some (.slice none 0 0) := (blk_cell BK588.out 2).trans rfl; have hfz60_0 := blk_frozen BK588.out 0; have hfz60_1 := blk_frozen BK588.out 1; have hfz60_2 := blk_frozen BK588.out 2; obtain ⟨Ao61, co61, eo61⟩ := Kd.R_slice HO_597002.out; subst eo61))
            refine bodyPost_ret (results_ct rfl _ _ gb588 24 #[.int .i64 x597000_1, .int .i64 x597001_1, .slice Ao61 x597002_1.length co61] (0, 0) _ rfl (by (with_reducible repeat (fail)); refine blk_put (cs := #[.int .i64 x597000_1, .int .i64 x597001_1, .slice none 0 0]) ?_ 2 _ rfl; (with_reducible repeat (fail)); refine blk_put (cs := #[.int .i64 x597000_1, .int .i64 0, .slice none 0 0]) ?_ 1 _ rfl; (with_reducible repeat (fail)); refine blk_put (cs := #[.int .i64 0, .int .i64 0, .slice none 0 0]) ?_ 0 _ rfl; (with_reducible repeat (fail)); exact BK588.out) Try.underlying24 rfl (by kernel_rfl)) rfl ?_
            exact ⟨_, by rfl, by (with_reducible repeat (fail)); exact Kd.R_mono (Kd.R_far (p := ⟨gb588, 2, none⟩) (Kd.R_far (p := ⟨gb588, 1, none⟩) (Kd.R_far (p := ⟨gb588, 0, none⟩) (Kd.R_types HO_597002.out BK588.out (by decide)) (fun _ hk => hk.2) (.int .i64 x597000_1)) (fun _ hk => hk.2) (.int .i64 x597001_1)) (fun _ hk => hk.2) (.slice Ao61 x597002_1.length co61)) (fun _ hk => trivial), by repeat ((with_reducible first | exact HB.out | refine below_set ?_ GE588.out))⟩
    · rw [if_neg c5] at H
      exact absurd H (by simp)
  · replace c4 := Bool.eq_false_iff.mpr c4
    subst c4
    have H1 : (some (0, 0, ([] : List Bool), 1)) = some (r1, r2, r3, r4) := by rw [if_neg (show ¬ (false = true) by decide)] at H; exact H
    clear H
    have H := H1
    clear H1
    simp only [Option.some.injEq, Prod.mk.injEq] at H
    obtain ⟨rfl, rfl, rfl, rfl⟩ := H
    go_enter Try.func28, Try.ntmps28
    go_wp2_with (first | ((with_reducible refine gate_dst (N := 2) rfl ?_); refine box_event ?hg (N := 2) ?hd (cs := #[.int .i64 a0_0, .int .i64 a0_1, .slice A0_2 l0_2.length c0_2]) (t := 24) ?hr ?_; (case hd => rfl); (case hg => rfl); (case hr => (go_simp; done)); intro gb587 hg w62 hbox hb; have n0_ := Aside0.mk (below_step (by repeat ((with_reducible exact HB.out))) hb); have n1_ := Aside0.mk (hbox); have n2_ := Aside0.mk ((by rw [hg]; exact (below_size (by repeat ((with_reducible exact HB.out)))) : w.heap.size ≤ gb587)); have n3_ := Aside0.mk ((by rw [hg]; exact (below_size (by repeat ((with_reducible exact HB.out)))) : w.heap.size ≤ gb587)); clear HB; have HB := n0_; have BK587 := n1_; have GW587 := n2_; have GE587 := n3_; clear n0_ n1_ n2_ n3_; clear hb hbox hg) | ((with_reducible refine gate_dst (N := 4) rfl ?_); refine box_event ?hg (N := 4) ?hd (cs := #[.int .i64 0, .int .i64 0, .slice none 0 0]) (t := 24) ?hr ?_; (case hd => rfl); (case hg => rfl); (case hr => (go_simp; done)); intro gb588 hg w63 hbox hb; have n0_ := Aside0.mk (blk_below (g := gb587) (o := .cells #[.int .i64 a0_0, .int .i64 a0_1, .slice A0_2 l0_2.length c0_2] 24 (0, 0)) (by (with_reducible repeat (fail)); exact BK587.out) hb); have n1_ := Aside0.mk (below_step (by repeat ((with_reducible exact HB.out))) hb); have n2_ := Aside0.mk (hbox); have n3_ := Aside0.mk ((by rw [hg]; exact (below_size (by repeat ((with_reducible exact HB.out)))) : w.heap.size ≤ gb588)); have n4_ := Aside0.mk ((by rw [hg]; exact (below_size (by repeat ((with_reducible exact HB.out)))) : w.heap.size ≤ gb588)); have n5_ := Aside0.mk ((by rw [hg]; exact Nat.ne_of_lt (blk_lt (g := gb587) (o := .cells #[.int .i64 a0_0, .int .i64 a0_1, .slice A0_2 l0_2.length c0_2] 24 (0, 0)) (by (with_reducible repeat (fail)); exact BK587.out)) : gb587 ≠ gb588)); have n6_ := Aside0.mk ((by rw [hg]; exact Nat.ne_of_gt (blk_lt (g := gb587) (o := .cells #[.int .i64 a0_0, .int .i64 a0_1, .slice A0_2 l0_2.length c0_2] 24 (0, 0)) (by (with_reducible repeat (fail)); exact BK587.out)) : gb588 ≠ gb587)); clear BK587; clear HB; have BK587 := n0_; have HB := n1_; have BK588 := n2_; have GW588 := n3_; have GE588 := n4_; have NB587_588 := n5_; have NB588_587 := n6_; clear n0_ n1_ n2_ n3_ n4_ n5_ n6_; clear hb hbox hg; have hnb64 := NB587_588.out; have hnc64 := NB588_587.out; have hcz65_0 : w63.cell? ⟨gb587, 0, none⟩ = some (.int .i64 a0_0) := (blk_cell BK587.out 0).trans rfl; have hcz65_1 : w63.cell? ⟨gb587, 1, none⟩ = some (.int .i64 a0_1) := (blk_cell BK587.out 1).trans rfl; have hcz65_2 : w63.cell? ⟨gb587, 2, none⟩ = some (.slice A0_2 l0_2.length c0_2) := (blk_cell BK587.out 2).trans rfl; have hfz65_0 := blk_frozen BK587.out 0; have hfz65_1 := blk_frozen BK587.out 1; have hfz65_2 := blk_frozen BK587.out 2) | ((with_reducible refine gate_callee (f := 41) rfl ?_); refine goesL_ (some 11) rfl rfl Try.func41 (by kernel_rfl) rfl #[.agg #[.int .i64 a0_0, .int .i64 a0_1, .slice A0_2 l0_2.length c0_2]] rfl (by (try simp only [List.map_toArray, List.map_cons, List.map_nil]); rfl) ?_; (with_reducible refine (barscanref31_Valid.calls a0_0 a0_1 _ _ l0_2 false _ ?side1 ?side2 A3.out).mono ?_); (case side1 => repeat ((exact (Kd.C_below HR0_2.out HB.out)))); (case side2 => exact HC0_2.out); rintro e w66 ⟨rfl, hb⟩; refine ⟨_, rfl, ?_⟩; have n0_ := Aside0.mk (blk_below (g := gb587) (o := .cells #[.int .i64 a0_0, .int .i64 a0_1, .slice A0_2 l0_2.length c0_2] 24 (0, 0)) (by (with_reducible repeat (fail)); exact BK587.out) hb); have n1_ := Aside0.mk (blk_below (g := gb588) (o := .cells #[.int .i64 0, .int .i64 0, .slice none 0 0] 24 (0, 0)) (by (with_reducible repeat (fail)); exact BK588.out) hb); have n2_ := Aside0.mk (below_step (by repeat ((with_reducible exact HB.out))) hb); clear BK587; clear BK588; clear HB; have BK587 := n0_; have BK588 := n1_; have HB := n2_; clear n0_ n1_ n2_; (try clear hb); (try clear hb2); (try clear hk); (try clear hi); have hcz67_0 : w66.cell? ⟨gb588, 0, none⟩ = some (.int .i64 0) := (blk_cell BK588.out 0).trans rfl; have hcz67_1 : w66.cell? ⟨gb588, 1, none⟩ = some (.int .i64 0) := (blk_cell BK588.out 1).trans rfl; have hcz67_2 : w66.cell? ⟨gb588, 2, none⟩ = some (.slice none 0 0) := (blk_cell BK588.out 2).trans rfl; have hfz67_0 := blk_frozen BK588.out 0; have hfz67_1 := blk_frozen BK588.out 1; have hfz67_2 := blk_frozen BK588.out 2))
    refine bodyPost_ret (results_ct rfl _ _ gb588 24 #[.int .i64 0, .int .i64 0, .slice none 0 0] (0, 0) _ rfl (by (with_reducible repeat (fail)); refine blk_put (cs := #[.int .i64 0, .int .i64 0, .slice none 0 0]) ?_ 2 _ rfl; (with_reducible repeat (fail)); refine blk_put (cs := #[.int .i64 0, .int .i64 0, .slice none 0 0]) ?_ 1 _ rfl; (with_reducible repeat (fail)); refine blk_put (cs := #[.int .i64 0, .int .i64 0, .slice none 0 0]) ?_ 0 _ rfl; (with_reducible repeat (fail)); exact BK588.out) Try.underlying24 rfl (by kernel_rfl)) rfl ?_
    exact ⟨_, by rfl, by exact Kd.R_nil _ _ _ _ _, by repeat ((with_reducible first | exact HB.out | refine below_set ?_ GE588.out))⟩

end Go.Proofs.Ytahibhipffojlaa.M
