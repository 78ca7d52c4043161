-- Machine side, printed by this session's own program over the kit's print (wip/tools/myprint.py). Lean checks it.
import Derived.Test.YtahibhipffojlaaMx0
import Derived.Test.YtahibhipffojlaaMx8
import Derived.Test.YtahibhipffojlaaMx17
namespace Go.Proofs.Ytahibhipffojlaa.M
open Go.RowKit Go.Proofs.YtahibhipffojlaaW.PrintWords Go.Proofs.YtahibhipffojlaaW.PrintLast Go.Proofs.YtahibhipffojlaaW.PrintMore
attribute [local go_sem] max2_int min2_int max_two min_two max_three min_three max_four min_four   -- for this text's walks alone
set_option linter.unusedVariables false
set_option linter.unusedSimpArgs false

/-! ### barscanref31_Enlarge: function 30 -/
mutual
def barscanref31_Enlarge.j0 : Nat → Int → Bool → Int → Int → List Bool → Option (Int × Int × List Bool × Int)
  | 0, _, _, _, _, _ => none
  | k + 1, x1, x18, x613000, x613001, x613002 => if x18 = true then (some (0, 0, ([] : List Bool), 3)) else ((barscanref31_fits.f (wrap64 (x1 * x613000)) (wrap64 (x1 * x613001))).bind fun t615 => (if t615 = true then (barscanref31_Enlarge.l0 k x1 0 x613000 x613001 x613002 (wrap64 (x1 * x613000)) (wrap64 (x1 * x613001)) ([] : List Bool)) else (some (0, 0, ([] : List Bool), 4))))
def barscanref31_Enlarge.l0 : Nat → Int → Int → Int → Int → List Bool → Int → Int → List Bool → Option (Int × Int × List Bool × Int)
  | 0, _, _, _, _, _, _, _, _ => none
  | k + 1, x1, x7, x613000, x613001, x613002, x617000, x617001, x617002 => if x7 < x617001 then (barscanref31_Enlarge.l1 k x1 x7 0 x613000 x613001 x613002 x617000 x617001 x617002) else (some (x617000, x617001, x617002, 0))
def barscanref31_Enlarge.l1 : Nat → Int → Int → Int → Int → Int → List Bool → Int → Int → List Bool → Option (Int × Int × List Bool × Int)
  | 0, _, _, _, _, _, _, _, _, _ => none
  | k + 1, x1, x7, x8, x613000, x613001, x613002, x617000, x617001, x617002 => if x8 < x617000 then (if x1 = 0 then (none) else ((barscanref31_At.f x613000 x613001 x613002 (wrap64 (Int.tdiv x8 x1)) (wrap64 (Int.tdiv x7 x1))).bind fun t617 => (if x617002.length < 140737488355328 then (barscanref31_Enlarge.l1 k x1 x7 (wrap64 (x8 + 1)) x613000 x613001 x613002 x617000 x617001 (x617002 ++ [t617])) else (none)))) else (barscanref31_Enlarge.l0 k x1 (wrap64 (x7 + 1)) x613000 x613001 x613002 x617000 x617001 x617002)
end
def barscanref31_Enlarge.f (k : Nat) (a0_0 : Int) (a0_1 : Int) (l0_2 : List Bool) (a1 : Int) : Option (Int × Int × List Bool × Int) := (barscanref31_Valid.f a0_0 a0_1 l0_2).bind fun t614 => (if t614 = true then (if a1 < 1 then (barscanref31_Enlarge.j0 k a1 true a0_0 a0_1 l0_2) else (barscanref31_Enlarge.j0 k a1 (decide (a1 > 4096)) a0_0 a0_1 l0_2)) else (some (0, 0, ([] : List Bool), 1)))
theorem barscanref31_Enlarge.mono_l : ∀ k, (∀ y0 y1 y2 y3 y4, LeO (barscanref31_Enlarge.j0 k y0 y1 y2 y3 y4) (barscanref31_Enlarge.j0 (k + 1) y0 y1 y2 y3 y4)) ∧ (∀ y0 y1 y2 y3 y4 y5 y6 y7, LeO (barscanref31_Enlarge.l0 k y0 y1 y2 y3 y4 y5 y6 y7) (barscanref31_Enlarge.l0 (k + 1) y0 y1 y2 y3 y4 y5 y6 y7)) ∧ (∀ y0 y1 y2 y3 y4 y5 y6 y7 y8, LeO (barscanref31_Enlarge.l1 k y0 y1 y2 y3 y4 y5 y6 y7 y8) (barscanref31_Enlarge.l1 (k + 1) y0 y1 y2 y3 y4 y5 y6 y7 y8))
  | 0 => ⟨fun _ _ _ _ _ r h => by simp [barscanref31_Enlarge.j0] at h, fun _ _ _ _ _ _ _ _ r h => by simp [barscanref31_Enlarge.l0] at h, fun _ _ _ _ _ _ _ _ _ r h => by simp [barscanref31_Enlarge.l1] at h⟩
  | k + 1 => by
    obtain ⟨ih0, ih1, ih2⟩ := barscanref31_Enlarge.mono_l k
    refine ⟨?_, ?_, ?_⟩
    · intro y0 y1 y2 y3 y4
      unfold barscanref31_Enlarge.j0
      repeat' first
      | (with_reducible exact ih1 _ _ _ _ _ _ _ _)
      | (with_reducible exact LeO.refl _)
      | (with_reducible refine LeO.ite ?_ ?_)
      | (with_reducible refine LeO.bind ?_ (fun _ => ?_))
    · intro y0 y1 y2 y3 y4 y5 y6 y7
      unfold barscanref31_Enlarge.l0
      repeat' first
      | (with_reducible exact ih2 _ _ _ _ _ _ _ _ _)
      | (with_reducible exact LeO.refl _)
      | (with_reducible refine LeO.ite ?_ ?_)
    · intro y0 y1 y2 y3 y4 y5 y6 y7 y8
      unfold barscanref31_Enlarge.l1
      repeat' first
      | (with_reducible exact ih1 _ _ _ _ _ _ _ _)
      | (with_reducible exact ih2 _ _ _ _ _ _ _ _ _)
      | (with_reducible exact LeO.refl _)
      | (with_reducible refine LeO.ite ?_ ?_)
      | (with_reducible refine LeO.bind ?_ (fun _ => ?_))
theorem barscanref31_Enlarge.mono : ∀ a0 a1 a2 a3 k, LeO (barscanref31_Enlarge.f k a0 a1 a2 a3) (barscanref31_Enlarge.f (k + 1) a0 a1 a2 a3) := by
  intro a0 a1 a2 a3 k
  obtain ⟨ih0, ih1, ih2⟩ := barscanref31_Enlarge.mono_l k
  unfold barscanref31_Enlarge.f
  repeat' first
      | (with_reducible exact ih0 _ _ _ _ _)
      | (with_reducible exact LeO.refl _)
      | (with_reducible refine LeO.ite ?_ ?_)
      | (with_reducible refine LeO.bind ?_ (fun _ => ?_))
def barscanref31_Enlarge.T14 : Bool × List (List Nat × List Nat) := (true, [([], []), ([0], [0]), ([], []), ([], []), ([], []), ([3, 4], [3, 4]), ([], []), ([], []), ([6, 7], [6, 7]), ([2, 5, 8], [2, 5, 8]), ([9], [9]), ([1, 10, 9], [1, 10]), ([0, 1, 2, 3, 4, 5, 6, 7, 8, 9, 10, 11], []), ([12, 11, 11, 0, 1, 2, 3, 4, 5, 6, 7, 8, 9, 10, 11], [11, 12])])
def barscanref31_Enlarge.B14 : List Nat := [0, 1, 0, 0, 0, 24, 0, 0, 192, 508, 1020, 2047, 4095, 8191]
theorem barscanref31_Enlarge.tab14 : rtab .any (opsOf Try.f30 14) = barscanref31_Enlarge.T14 := by kernel_rfl
theorem barscanref31_Enlarge.bits14 : waitsOk barscanref31_Enlarge.T14.2 barscanref31_Enlarge.B14 = true := by kernel_rfl
set_option maxHeartbeats 8000000 in
set_option maxRecDepth 100000 in
theorem barscanref31_Enlarge.calls (k : Nat) (a0_0 : Int) (a0_1 : Int) (A0_2 : Option Addr) (c0_2 : Nat) (l0_2 : List Bool) (a1 : Int) (r1 : Int) (r2 : Int) (r3 : List Bool) (r4 : Int) (w : World) (hr0_2 : Kd.C Kd.bool w A0_2 l0_2.length l0_2) (hc0_2 : l0_2.length ≤ c0_2) (h : barscanref31_Enlarge.f k a0_0 a0_1 l0_2 a1 = some (r1, r2, r3, r4)) :
    Calls Try.prog 30 #[.agg #[.int .i64 a0_0, .int .i64 a0_1, .slice A0_2 l0_2.length c0_2], .int .i64 a1] w fun e w' => ∃ v2_ : Value, e = .returned (.tuple #[.agg #[.int .i64 r1, .int .i64 r2, v2_], .int .i64 r4]) ∧ Kd.R Kd.bool 4 w' w.heap.size (fun _ => True) v2_ r3 ∧ Below w.heap.size w w' := by
  have hu24 := Try.underlying24
  have HR0_2 := Aside0.mk hr0_2
  have HC0_2 := Aside0.mk hc0_2
  clear hr0_2 hc0_2
  have HB := Aside0.mk (Below.refl w.heap.size w)
  have H : ((barscanref31_Valid.f a0_0 a0_1 l0_2).bind fun t614 => (if t614 = true then (if a1 < 1 then (barscanref31_Enlarge.j0 k a1 true a0_0 a0_1 l0_2) else (barscanref31_Enlarge.j0 k a1 (decide (a1 > 4096)) a0_0 a0_1 l0_2)) else (some (0, 0, ([] : List Bool), 1)))) = some (r1, r2, r3, r4) := h
  clear h
  replace H := Option.bind_eq_some_iff.mp H
  obtain ⟨t614, A30, H⟩ := H
  replace H : (if t614 = true then (if a1 < 1 then (barscanref31_Enlarge.j0 k a1 true a0_0 a0_1 l0_2) else (barscanref31_Enlarge.j0 k a1 (decide (a1 > 4096)) a0_0 a0_1 l0_2)) else (some (0, 0, ([] : List Bool), 1))) = some (r1, r2, r3, r4) := H
  have A3 := Aside0.mk A30
  clear A30
  by_cases c4 : t614 = true
  · subst c4
    have H1 : (if a1 < 1 then (barscanref31_Enlarge.j0 k a1 true a0_0 a0_1 l0_2) else (barscanref31_Enlarge.j0 k a1 (decide (a1 > 4096)) a0_0 a0_1 l0_2)) = some (r1, r2, r3, r4) := by rw [if_pos rfl] at H; exact H
    clear H
    have H := H1
    clear H1
    have HC5 := Aside0.mk H
    clear H
    go_enter Try.func30, Try.ntmps30
    go_upto_region 3 with (first | ((with_reducible refine gate_dst (N := 2) rfl ?_); refine box_event ?hg (N := 2) ?hd (cs := #[.int .i64 a0_0, .int .i64 a0_1, .slice A0_2 l0_2.length c0_2]) (t := 24) ?hr ?_; (case hd => rfl); (case hg => rfl); (case hr => (go_simp; done)); intro gb612 hg w6 hbox hb; have n0_ := Aside0.mk (below_step (by repeat ((with_reducible exact HB.out))) hb); have n1_ := Aside0.mk (hbox); have n2_ := Aside0.mk ((by rw [hg]; exact (below_size (by repeat ((with_reducible exact HB.out)))) : w.heap.size ≤ gb612)); have n3_ := Aside0.mk ((by rw [hg]; exact (below_size (by repeat ((with_reducible exact HB.out)))) : w.heap.size ≤ gb612)); clear HB; have HB := n0_; have BK612 := n1_; have GW612 := n2_; have GE612 := n3_; clear n0_ n1_ n2_ n3_; clear hb hbox hg) | ((with_reducible refine gate_dst (N := 4) rfl ?_); refine box_event ?hg (N := 4) ?hd (cs := #[.int .i64 0, .int .i64 0, .slice none 0 0]) (t := 24) ?hr ?_; (case hd => rfl); (case hg => rfl); (case hr => (go_simp; done)); intro gb613 hg w7 hbox hb; have n0_ := Aside0.mk (blk_below (g := gb612) (o := .cells #[.int .i64 a0_0, .int .i64 a0_1, .slice A0_2 l0_2.length c0_2] 24 (0, 0)) (by (with_reducible repeat (fail)); exact BK612.out) hb); have n1_ := Aside0.mk (below_step (by repeat ((with_reducible exact HB.out))) hb); have n2_ := Aside0.mk (hbox); have n3_ := Aside0.mk ((by rw [hg]; exact (below_size (by repeat ((with_reducible exact HB.out)))) : w.heap.size ≤ gb613)); have n4_ := Aside0.mk ((by rw [hg]; exact (below_size (by repeat ((with_reducible exact HB.out)))) : w.heap.size ≤ gb613)); have n5_ := Aside0.mk ((by rw [hg]; exact Nat.ne_of_lt (blk_lt (g := gb612) (o := .cells #[.int .i64 a0_0, .int .i64 a0_1, .slice A0_2 l0_2.length c0_2] 24 (0, 0)) (by (with_reducible repeat (fail)); exact BK612.out)) : gb612 ≠ gb613)); have n6_ := Aside0.mk ((by rw [hg]; exact Nat.ne_of_gt (blk_lt (g := gb612) (o := .cells #[.int .i64 a0_0, .int .i64 a0_1, .slice A0_2 l0_2.length c0_2] 24 (0, 0)) (by (with_reducible repeat (fail)); exact BK612.out)) : gb613 ≠ gb612)); clear BK612; clear HB; have BK612 := n0_; have HB := n1_; have BK613 := n2_; have GW613 := n3_; have GE613 := n4_; have NB612_613 := n5_; have NB613_612 := n6_; clear n0_ n1_ n2_ n3_ n4_ n5_ n6_; clear hb hbox hg; have hnb8 := NB612_613.out; have hnc8 := NB613_612.out; have hcz9_0 : w7.cell? ⟨gb612, 0, none⟩ = some (.int .i64 a0_0) := (blk_cell BK612.out 0).trans rfl; have hcz9_1 : w7.cell? ⟨gb612, 1, none⟩ = some (.int .i64 a0_1) := (blk_cell BK612.out 1).trans rfl; have hcz9_2 : w7.cell? ⟨gb612, 2, none⟩ = some (.slice A0_2 l0_2.length c0_2) := (blk_cell BK612.out 2).trans rfl; have hfz9_0 := blk_frozen BK612.out 0; have hfz9_1 := blk_frozen BK612.out 1; have hfz9_2 := blk_frozen BK612.out 2) | ((with_reducible refine gate_callee (f := 41) rfl ?_); refine goesL_ (some 10) rfl rfl Try.func41 (by kernel_rfl) rfl #[.agg #[.int .i64 a0_0, .int .i64 a0_1, .slice A0_2 l0_2.length c0_2]] rfl (by (try simp only [List.map_toArray, List.map_cons, List.map_nil]); rfl) ?_; (with_reducible refine (barscanref31_Valid.calls a0_0 a0_1 _ _ l0_2 true _ ?side1 ?side2 A3.out).mono ?_); (case side1 => repeat ((exact (Kd.C_below HR0_2.out HB.out)))); (case side2 => exact HC0_2.out); rintro e w10 ⟨rfl, hb⟩; refine ⟨_, rfl, ?_⟩; have n0_ := Aside0.mk (blk_below (g := gb612) (o := .cells #[.int .i64 a0_0, .int .i64 a0_1, .slice A0_2 l0_2.length c0_2] 24 (0, 0)) (by (with_reducible repeat (fail)); exact BK612.out) hb); have n1_ := Aside0.mk (blk_below (g := gb613) (o := .cells #[.int .i64 0, .int .i64 0, .slice none 0 0] 24 (0, 0)) (by (with_reducible repeat (fail)); exact BK613.out) hb); have n2_ := Aside0.mk (below_step (by repeat ((with_reducible exact HB.out))) hb); clear BK612; clear BK613; clear HB; have BK612 := n0_; have BK613 := n1_; have HB := n2_; clear n0_ n1_ n2_; (try clear hb); (try clear hb2); (try clear hk); (try clear hi)))
    (try simp only [Act.put, List.setIfInBounds_toArray, List.set_cons_zero, List.set_cons_succ])
    go_cut [18] (fun v18 wc => ∃ (kq : Nat) (x18_4 : Bool), v18 = .bool x18_4 ∧ Aside0 (barscanref31_Enlarge.j0 kq a1 x18_4 a0_0 a0_1 l0_2 = some (r1, r2, r3, r4)) ∧ Aside0 (kq ≤ k) ∧ Aside0 (wc.heap[gb612]? = some (.cells #[.int .i64 a0_0, .int .i64 a0_1, (.slice A0_2 l0_2.length c0_2)] 24 (0, 0))) ∧ Aside0 (wc.heap[gb613]? = some (.cells #[.int .i64 0, .int .i64 0, (.slice none 0 0)] 24 (0, 0))) ∧ Aside0 (Below w.heap.size w wc))
    case first =>
      have H := HC5.out
      clear HC5
      by_cases c11 : a1 < 1
      · rw [if_pos c11] at H
        have c11b0 : decide (a1 < 1) = true := decide_eq_true c11
        clear c11
        (skip)
        have H' := Aside0.mk H
        clear H
        go_wp2
        go_meet
        case rel => exact ⟨_, (true), (by rfl), H', ⟨by omega⟩, ⟨by (with_reducible repeat (fail)); exact BK612.out⟩, ⟨by (with_reducible repeat (fail)); exact BK613.out⟩, ⟨by repeat ((with_reducible exact HB.out))⟩⟩
      · rw [if_neg c11] at H
        have c11b0 : decide (a1 < 1) = false := decide_eq_false c11
        clear c11
        (skip)
        have H' := Aside0.mk H
        clear H
        go_wp2
        go_meet
        case rel => exact ⟨_, (decide (a1 > 4096)), (by rfl), H', ⟨by omega⟩, ⟨by (with_reducible repeat (fail)); exact BK612.out⟩, ⟨by (with_reducible repeat (fail)); exact BK613.out⟩, ⟨by repeat ((with_reducible exact HB.out))⟩⟩
    case rest =>
      clear HC5 hcz9_0 hcz9_1 hcz9_2 hfz9_0 hfz9_1 hfz9_2
      obtain ⟨kq, x18_4, rfl, HA, HJ4, BK612, BK613, HB⟩ := hcut
      cases kq with
      | zero => exact absurd HA.out (by simp [barscanref31_Enlarge.j0])
      | succ kj4 =>
        have H := HA.out
        clear HA
        simp only [barscanref31_Enlarge.j0] at H
        by_cases c12 : x18_4 = true
        · subst c12
          have H1 : (some (0, 0, ([] : List Bool), 3)) = some (r1, r2, r3, r4) := by rw [if_pos rfl] at H; exact H
          clear H
          have H := H1
          clear H1
          simp only [Option.some.injEq, Prod.mk.injEq] at H
          obtain ⟨rfl, rfl, rfl, rfl⟩ := H
          have hnb13 := NB613_612.out
          have hnc13 := NB612_613.out
          have hcz14_0 : wc.cell? ⟨gb613, 0, none⟩ = some (.int .i64 0) := (blk_cell BK613.out 0).trans rfl
          have hcz14_1 : wc.cell? ⟨gb613, 1, none⟩ = some (.int .i64 0) := (blk_cell BK613.out 1).trans rfl
          have hcz14_2 : wc.cell? ⟨gb613, 2, none⟩ = some (.slice none 0 0) := (blk_cell BK613.out 2).trans rfl
          have hfz14_0 := blk_frozen BK613.out 0
          have hfz14_1 := blk_frozen BK613.out 1
          have hfz14_2 := blk_frozen BK613.out 2
          go_wp2
          refine bodyPost_ret (results_ct rfl _ _ gb613 24 #[.int .i64 0, .int .i64 0, .slice none 0 0] (0, 0) _ rfl (by (with_reducible repeat (fail)); refine blk_put (cs := #[.int .i64 0, .int .i64 0, .slice none 0 0]) ?_ 2 _ rfl; (with_reducible repeat (fail)); refine blk_put (cs := #[.int .i64 0, .int .i64 0, .slice none 0 0]) ?_ 1 _ rfl; (with_reducible repeat (fail)); refine blk_put (cs := #[.int .i64 0, .int .i64 0, .slice none 0 0]) ?_ 0 _ rfl; (with_reducible repeat (fail)); exact BK613.out) Try.underlying24 rfl (by kernel_rfl)) rfl ?_
          exact ⟨_, by rfl, by exact Kd.R_nil _ _ _ _ _, by repeat ((with_reducible first | exact HB.out | refine below_set ?_ GE613.out))⟩
        · replace c12 := Bool.eq_false_iff.mpr c12
          subst c12
          have H1 : ((barscanref31_fits.f (wrap64 (a1 * a0_0)) (wrap64 (a1 * a0_1))).bind fun t615 => (if t615 = true then (barscanref31_Enlarge.l0 kj4 a1 0 a0_0 a0_1 l0_2 (wrap64 (a1 * a0_0)) (wrap64 (a1 * a0_1)) ([] : List Bool)) else (some (0, 0, ([] : List Bool), 4)))) = some (r1, r2, r3, r4) := by rw [if_neg (show ¬ (false = true) by decide)] at H; exact H
          clear H
          have H := H1
          clear H1
          replace H := Option.bind_eq_some_iff.mp H
          obtain ⟨t615, A150, H⟩ := H
          replace H : (if t615 = true then (barscanref31_Enlarge.l0 kj4 a1 0 a0_0 a0_1 l0_2 (wrap64 (a1 * a0_0)) (wrap64 (a1 * a0_1)) ([] : List Bool)) else (some (0, 0, ([] : List Bool), 4))) = some (r1, r2, r3, r4) := H
          have A15 := Aside0.mk A150
          clear A150
          by_cases c16 : t615 = true
          · subst c16
            have H1 : (barscanref31_Enlarge.l0 kj4 a1 0 a0_0 a0_1 l0_2 (wrap64 (a1 * a0_0)) (wrap64 (a1 * a0_1)) ([] : List Bool)) = some (r1, r2, r3, r4) := by rw [if_pos rfl] at H; exact H
            clear H
            have H := H1
            clear H1
            have H' := Aside0.mk H
            clear H
            have hnb17 := NB612_613.out
            have hnc17 := NB613_612.out
            have hcz18_0 : wc.cell? ⟨gb612, 0, none⟩ = some (.int .i64 a0_0) := (blk_cell BK612.out 0).trans rfl
            have hcz18_1 : wc.cell? ⟨gb612, 1, none⟩ = some (.int .i64 a0_1) := (blk_cell BK612.out 1).trans rfl
            have hcz18_2 : wc.cell? ⟨gb612, 2, none⟩ = some (.slice A0_2 l0_2.length c0_2) := (blk_cell BK612.out 2).trans rfl
            have hfz18_0 := blk_frozen BK612.out 0
            have hfz18_1 := blk_frozen BK612.out 1
            have hfz18_2 := blk_frozen BK612.out 2
            go_wp2_with (first | ((with_reducible refine gate_callee (f := 44) rfl ?_); refine goesL_ (some 28) rfl rfl Try.func44 (by kernel_rfl) rfl #[.int .i64 (wrap64 (a1 * a0_0)), .int .i64 (wrap64 (a1 * a0_1))] rfl (by (try simp only [List.map_toArray, List.map_cons, List.map_nil]); rfl) ?_; (with_reducible refine (barscanref31_fits.calls (wrap64 (a1 * a0_0)) (wrap64 (a1 * a0_1)) true _ A15.out).mono ?_); rintro e w' ⟨rfl, ⟨nd, rfl⟩⟩; refine ⟨_, rfl, ?_⟩; (try (rw [drewN_self wc]; generalize hq_ : World.drewN wc _ = wc; have n0_ : Aside0 (wc.heap[gb612]? = some (.cells #[.int .i64 a0_0, .int .i64 a0_1, .slice A0_2 l0_2.length c0_2] 24 (0, 0))) := ⟨by rw [← hq_]; exact (by (with_reducible repeat (refine blk_drewN ?_ _)); exact BK612.out)⟩; have n1_ : Aside0 (wc.heap[gb613]? = some (.cells #[.int .i64 0, .int .i64 0, .slice none 0 0] 24 (0, 0))) := ⟨by rw [← hq_]; exact (by (with_reducible repeat (refine blk_drewN ?_ _)); exact BK613.out)⟩; have n2_ : Aside0 (Below w.heap.size w wc) := ⟨by rw [← hq_]; exact (by repeat ((with_reducible first | exact HB.out | apply pw_below_drewN)))⟩; clear BK612 BK613 HB hq_; have BK612 := n0_; have BK613 := n1_; have HB := n2_; clear n0_ n1_ n2_; have hcy_0 : wc.cell? ⟨gb612, 0, none⟩ = some (.int .i64 a0_0) := (blk_cell BK612.out 0).trans rfl; have hcy_1 : wc.cell? ⟨gb612, 1, none⟩ = some (.int .i64 a0_1) := (blk_cell BK612.out 1).trans rfl; have hcy_2 : wc.cell? ⟨gb612, 2, none⟩ = some (.slice A0_2 l0_2.length c0_2) := (blk_cell BK612.out 2).trans rfl; have hfy_0 := blk_frozen BK612.out 0; have hfy_1 := blk_frozen BK612.out 1; have hfy_2 := blk_frozen BK612.out 2))) | ((with_reducible refine gate_dst (N := 6) rfl ?_); refine box_event ?hg (N := 6) ?hd (cs := #[.int .i64 0, .int .i64 0, .slice none 0 0]) (t := 24) ?hr ?_; (case hd => rfl); (case hg => rfl); (case hr => (go_simp; done)); intro gb616 hg w19 hbox hb; have n0_ := Aside0.mk (blk_below (g := gb612) (o := .cells #[.int .i64 a0_0, .int .i64 a0_1, .slice A0_2 l0_2.length c0_2] 24 (0, 0)) (by (with_reducible repeat (fail)); exact BK612.out) hb); have n1_ := Aside0.mk (blk_below (g := gb613) (o := .cells #[.int .i64 0, .int .i64 0, .slice none 0 0] 24 (0, 0)) (by (with_reducible repeat (fail)); exact BK613.out) hb); have n2_ := Aside0.mk (below_step (by repeat ((with_reducible exact HB.out))) hb); have n3_ := Aside0.mk (hbox); have n4_ := Aside0.mk ((by rw [hg]; exact (below_size (by repeat ((with_reducible exact HB.out)))) : w.heap.size ≤ gb616)); have n5_ := Aside0.mk ((by rw [hg]; exact (below_size (by repeat ((with_reducible exact HB.out)))) : w.heap.size ≤ gb616)); have n6_ := Aside0.mk ((by rw [hg]; exact Nat.ne_of_lt (blk_lt (g := gb612) (o := .cells #[.int .i64 a0_0, .int .i64 a0_1, .slice A0_2 l0_2.length c0_2] 24 (0, 0)) (by (with_reducible repeat (fail)); exact BK612.out)) : gb612 ≠ gb616)); have n7_ := Aside0.mk ((by rw [hg]; exact Nat.ne_of_gt (blk_lt (g := gb612) (o := .cells #[.int .i64 a0_0, .int .i64 a0_1, .slice A0_2 l0_2.length c0_2] 24 (0, 0)) (by (with_reducible repeat (fail)); exact BK612.out)) : gb616 ≠ gb612)); have n8_ := Aside0.mk ((by rw [hg]; exact Nat.ne_of_lt (blk_lt (g := gb613) (o := .cells #[.int .i64 0, .int .i64 0, .slice none 0 0] 24 (0, 0)) (by (with_reducible repeat (fail)); exact BK613.out)) : gb613 ≠ gb616)); have n9_ := Aside0.mk ((by rw [hg]; exact Nat.ne_of_gt (blk_lt (g := gb613) (o := .cells #[.int .i64 0, .int .i64 0, .slice none 0 0] 24 (0, 0)) (by (with_reducible repeat (fail)); exact BK613.out)) : gb616 ≠ gb613)); clear BK612; clear BK613; clear HB; have BK612 := n0_; have BK613 := n1_; have HB := n2_; have BK616 := n3_; have GW616 := n4_; have GE616 := n5_; have NB612_616 := n6_; have NB616_612 := n7_; have NB613_616 := n8_; have NB616_613 := n9_; clear n0_ n1_ n2_ n3_ n4_ n5_ n6_ n7_ n8_ n9_; clear hb hbox hg; have hnb20 := NB616_612.out; have hnc20 := NB612_616.out; have hnb21 := NB616_613.out; have hnc21 := NB613_616.out; have hcz22_0 : w19.cell? ⟨gb616, 0, none⟩ = some (.int .i64 0) := (blk_cell BK616.out 0).trans rfl; have hcz22_1 : w19.cell? ⟨gb616, 1, none⟩ = some (.int .i64 0) := (blk_cell BK616.out 1).trans rfl; have hcz22_2 : w19.cell? ⟨gb616, 2, none⟩ = some (.slice none 0 0) := (blk_cell BK616.out 2).trans rfl; have hfz22_0 := blk_frozen BK616.out 0; have hfz22_1 := blk_frozen BK616.out 1; have hfz22_2 := blk_frozen BK616.out 2))
            go_loopg [7] kj4 (fun kq v7 w' => ∃ (x7_2 : Int) (x617002_2 : List Bool) (u617002 : Value), v7 = .int .i64 x7_2 ∧ Aside0 (barscanref31_Enlarge.l0 kq a1 x7_2 a0_0 a0_1 l0_2 (wrap64 (a1 * a0_0)) (wrap64 (a1 * a0_1)) x617002_2 = some (r1, r2, r3, r4)) ∧ Aside0 (kq ≤ kj4) ∧ Aside0 (Kd.R Kd.bool 4 w' w.heap.size (fun _ => True) u617002 x617002_2) ∧ Aside0 (w'.heap[gb612]? = some (.cells #[.int .i64 a0_0, .int .i64 a0_1, (.slice A0_2 l0_2.length c0_2)] 24 (0, 0))) ∧ Aside0 (w'.heap[gb613]? = some (.cells #[.int .i64 0, .int .i64 0, (.slice none 0 0)] 24 (0, 0))) ∧ Aside0 (w'.heap[gb616]? = some (.cells #[.int .i64 (wrap64 (a1 * a0_0)), .int .i64 (wrap64 (a1 * a0_1)), u617002] 24 (0, 0))) ∧ Aside0 (Below w.heap.size w w'))
            case atStart => exact ⟨(0), (([] : List Bool)), (.slice none 0 0), (by rfl), H', ⟨Nat.le_refl _⟩, ⟨by exact Kd.R_nil _ _ _ _ _⟩, ⟨by (with_reducible repeat (fail)); refine blk_far ?_ NB612_616.out _; (with_reducible repeat (fail)); refine blk_far ?_ NB612_616.out _; (with_reducible repeat (fail)); refine blk_far ?_ NB612_616.out _; (with_reducible repeat (fail)); exact BK612.out⟩, ⟨by (with_reducible repeat (fail)); refine blk_far ?_ NB613_616.out _; (with_reducible repeat (fail)); refine blk_far ?_ NB613_616.out _; (with_reducible repeat (fail)); refine blk_far ?_ NB613_616.out _; (with_reducible repeat (fail)); exact BK613.out⟩, ⟨by (with_reducible repeat (fail)); refine blk_put (cs := #[.int .i64 (wrap64 (a1 * a0_0)), .int .i64 (wrap64 (a1 * a0_1)), .slice none 0 0]) ?_ 2 _ rfl; (with_reducible repeat (fail)); refine blk_put (cs := #[.int .i64 (wrap64 (a1 * a0_0)), .int .i64 0, .slice none 0 0]) ?_ 1 _ rfl; (with_reducible repeat (fail)); refine blk_put (cs := #[.int .i64 0, .int .i64 0, .slice none 0 0]) ?_ 0 _ rfl; (with_reducible repeat (fail)); exact BK616.out⟩, ⟨by repeat ((with_reducible first | exact HB.out | refine below_set ?_ GE616.out))⟩⟩
            case round =>
              clear H' hcz18_0 hcz18_1 hcz18_2 hcz22_0 hcz22_1 hcz22_2 hfz18_0 hfz18_1 hfz18_2 hfz22_0 hfz22_1 hfz22_2
              obtain ⟨x7_2, x617002_2, u617002, rfl, HA, HK2, HO_617002, BK612, BK613, BK616, HB⟩ := hrel
              cases gk with
              | zero => exact absurd HA.out (by simp [barscanref31_Enlarge.l0])
              | succ k2 =>
                have H := HA.out
                clear HA
                simp only [barscanref31_Enlarge.l0] at H
                by_cases c23 : x7_2 < (wrap64 (a1 * a0_1))
                · rw [if_pos c23] at H
                  have c23b0 : decide (x7_2 < (wrap64 (a1 * a0_1))) = true := decide_eq_true c23
                  clear c23
                  have H' := Aside0.mk H
                  clear H
                  have hnb24 := NB616_612.out
                  have hnc24 := NB612_616.out
                  have hnb25 := NB616_613.out
                  have hnc25 := NB613_616.out
                  have hcz26_0 : wr.cell? ⟨gb616, 0, none⟩ = some (.int .i64 (wrap64 (a1 * a0_0))) := (blk_cell BK616.out 0).trans rfl
                  have hcz26_1 : wr.cell? ⟨gb616, 1, none⟩ = some (.int .i64 (wrap64 (a1 * a0_1))) := (blk_cell BK616.out 1).trans rfl
                  have hcz26_2 : wr.cell? ⟨gb616, 2, none⟩ = some (u617002) := (blk_cell BK616.out 2).trans rfl
                  have hfz26_0 := blk_frozen BK616.out 0
                  have hfz26_1 := blk_frozen BK616.out 1
                  have hfz26_2 := blk_frozen BK616.out 2
                  go_wp2
                  go_loopg [8] k2 (fun kq v8 w' => ∃ (x8_3 : Int) (x617002_3 : List Bool) (u617002 : Value), v8 = .int .i64 x8_3 ∧ Aside0 (barscanref31_Enlarge.l1 kq a1 x7_2 x8_3 a0_0 a0_1 l0_2 (wrap64 (a1 * a0_0)) (wrap64 (a1 * a0_1)) x617002_3 = some (r1, r2, r3, r4)) ∧ Aside0 (kq ≤ k2) ∧ Aside0 (Kd.R Kd.bool 4 w' w.heap.size (fun _ => True) u617002 x617002_3) ∧ Aside0 (w'.heap[gb612]? = some (.cells #[.int .i64 a0_0, .int .i64 a0_1, (.slice A0_2 l0_2.length c0_2)] 24 (0, 0))) ∧ Aside0 (w'.heap[gb613]? = some (.cells #[.int .i64 0, .int .i64 0, (.slice none 0 0)] 24 (0, 0))) ∧ Aside0 (w'.heap[gb616]? = some (.cells #[.int .i64 (wrap64 (a1 * a0_0)), .int .i64 (wrap64 (a1 * a0_1)), u617002] 24 (0, 0))) ∧ Aside0 (Below w.heap.size w w'))
                  case atStart => exact ⟨(0), (x617002_2), (u617002), (by rfl), H', ⟨Nat.le_refl _⟩, ⟨by (with_reducible repeat (fail)); exact HO_617002.out⟩, ⟨by (with_reducible repeat (fail)); exact BK612.out⟩, ⟨by (with_reducible repeat (fail)); exact BK613.out⟩, ⟨by (with_reducible repeat (fail)); exact BK616.out⟩, ⟨by repeat ((with_reducible exact HB.out))⟩⟩
                  case round =>
                    clear H' c23b0 hcz26_0 hcz26_1 hcz26_2 hfz26_0 hfz26_1 hfz26_2
                    obtain ⟨x8_3, x617002_3, u617002, rfl, HA, HK3, HO_617002, BK612, BK613, BK616, HB⟩ := hrel
                    cases gk with
                    | zero => exact absurd HA.out (by simp [barscanref31_Enlarge.l1])
                    | succ k3 =>
                      have H := HA.out
                      clear HA
                      simp only [barscanref31_Enlarge.l1] at H
                      by_cases c27 : x8_3 < (wrap64 (a1 * a0_0))
                      · rw [if_pos c27] at H
                        have c27b0 : decide (x8_3 < (wrap64 (a1 * a0_0))) = true := decide_eq_true c27
                        clear c27
                        by_cases c28 : a1 = 0
                        · rw [if_pos c28] at H
                          exact absurd H (by simp)
                        · rw [if_neg c28] at H
                          have c28b0 : (a1 == 0) = false := beq_eq_false_iff_ne.mpr c28
                          have c28b1 : (a1 != 0) = true := bne_iff_ne.mpr c28
                          replace H := Option.bind_eq_some_iff.mp H
                          obtain ⟨t617, A290, H⟩ := H
                          replace H : (if x617002_3.length < 140737488355328 then (barscanref31_Enlarge.l1 k3 a1 x7_2 (wrap64 (x8_3 + 1)) a0_0 a0_1 l0_2 (wrap64 (a1 * a0_0)) (wrap64 (a1 * a0_1)) (x617002_3 ++ [t617])) else (none)) = some (r1, r2, r3, r4) := H
                          have A29 := Aside0.mk A290
                          clear A290
                          by_cases c30 : x617002_3.length < 140737488355328
                          · rw [if_pos c30] at H
                            have LMc30 := Aside0.mk c30
                            clear c30
                            obtain ⟨y618, hy618⟩ : ∃ y_ : List Bool, y_ = (x617002_3 ++ [t617]) := ⟨_, rfl⟩
                            replace H : (barscanref31_Enlarge.l1 k3 a1 x7_2 (wrap64 (x8_3 + 1)) a0_0 a0_1 l0_2 (wrap64 (a1 * a0_0)) (wrap64 (a1 * a0_1)) y618) = some (r1, r2, r3, r4) := by (rw [hy618]; with_reducible exact H)
                            have Ny618 := Aside0.mk hy618
                            clear hy618
                            have H' := Aside0.mk H
                            clear H
                            have hnb31 := NB616_612.out
                            have hnc31 := NB612_616.out
                            have hnb32 := NB616_613.out
                            have hnc32 := NB613_616.out
                            have hcz33_0 : wr.cell? ⟨gb616, 0, none⟩ = some (.int .i64 (wrap64 (a1 * a0_0))) := (blk_cell BK616.out 0).trans rfl
                            have hcz33_1 : wr.cell? ⟨gb616, 1, none⟩ = some (.int .i64 (wrap64 (a1 * a0_1))) := (blk_cell BK616.out 1).trans rfl
                            have hcz33_2 : wr.cell? ⟨gb616, 2, none⟩ = some (u617002) := (blk_cell BK616.out 2).trans rfl
                            have hfz33_0 := blk_frozen BK616.out 0
                            have hfz33_1 := blk_frozen BK616.out 1
                            have hfz33_2 := blk_frozen BK616.out 2
                            try go_wp2
                            have n0_ := Aside0.mk (Kd.R_drew HO_617002.out)
                            have n1_ := Aside0.mk (blk_drew BK612.out)
                            have n2_ := Aside0.mk (blk_drew BK613.out)
                            have n3_ := Aside0.mk (blk_drew BK616.out)
                            have n4_ := Aside0.mk (below_drew1 HB.out)
                            clear HO_617002 BK612 BK613 BK616 HB
                            have HO_617002 := n0_
                            have BK612 := n1_
                            have BK613 := n2_
                            have BK616 := n3_
                            have HB := n4_
                            clear n0_ n1_ n2_ n3_ n4_
                            refine start_ (n := 14) (S := fun w' => w'.cell? ⟨gb616, 0, none⟩ = some (.int .i64 (wrap64 (a1 * a0_0))) ∧ w'.cell? ⟨gb616, 1, none⟩ = some (.int .i64 (wrap64 (a1 * a0_1))) ∧ w'.cell? ⟨gb616, 2, none⟩ = some (u617002) ∧ w'.cell? ⟨gb612, 0, none⟩ = some (.int .i64 a0_0) ∧ w'.cell? ⟨gb612, 1, none⟩ = some (.int .i64 a0_1) ∧ w'.cell? ⟨gb612, 2, none⟩ = some (.slice A0_2 l0_2.length c0_2)) (ds := [13]) #[false, false, false, false, false, false, false, false, false, false, false, false, false, false] (by kernel_rfl) rfl rfl ⟨(blk_cell BK616.out 0).trans rfl, (blk_cell BK616.out 1).trans rfl, (blk_cell BK616.out 2).trans rfl, (blk_cell BK612.out 0).trans rfl, (blk_cell BK612.out 1).trans rfl, (blk_cell BK612.out 2).trans rfl⟩ (fun hHeld => ?_); refine with_tabW barscanref31_Enlarge.tab14 barscanref31_Enlarge.bits14 (fun HT_ HW_ => ?_)
                            generalize wr.drew = w34 at HO_617002 BK612 BK613 BK616 HB hHeld ⊢
                            refine pure_ (i := 0) (N := some 52) (v := ?_) (a' := ?_) #[true, false, false, false, false, false, false, false, false, false, false, false, false, false] rfl rfl (any_of HT_.out (by kernel_rfl)) (fun _ _ _ h => h) (Or.inl ⟨by rfl, ?_⟩) ?_ ?_
                            rotate_left
                            · intro w'
                              go_simp
                              with_reducible rfl
                            rotate_left
                            · simp only [Zs]
                              rfl
                            refine pure_ (i := 3) (N := some 55) (v := ?_) (a' := ?_) #[true, false, false, true, false, false, false, false, false, false, false, false, false, false] rfl rfl (any_of HT_.out (by kernel_rfl)) (fun _ _ _ h => h) (Or.inl ⟨by rfl, ?_⟩) ?_ ?_
                            rotate_left
                            · intro w'
                              go_simp
                              with_reducible rfl
                            rotate_left
                            · simp only [Zs]
                              rfl
                            refine pure_ (i := 4) (N := some 56) (v := ?_) (a' := ?_) #[true, false, false, true, true, false, false, false, false, false, false, false, false, false] rfl rfl (any_of HT_.out (by kernel_rfl)) (fun _ _ _ h => h) (Or.inl ⟨by rfl, ?_⟩) ?_ ?_
                            rotate_left
                            · intro w'
                              go_simp
                              with_reducible rfl
                            rotate_left
                            · simp only [Zs]
                              rfl
                            refine pure_ (i := 5) (N := some 57) (v := ?_) (a' := ?_) #[true, false, false, true, true, true, false, false, false, false, false, false, false, false] rfl rfl (any_of HT_.out (by kernel_rfl)) (fun _ _ _ h => h) (Or.inl ⟨by rfl, ?_⟩) ?_ ?_
                            rotate_left
                            · intro w'
                              go_simp
                              with_reducible rfl
                            rotate_left
                            · simp only [Zs]
                              rfl
                            refine pure_ (i := 6) (N := some 58) (v := ?_) (a' := ?_) #[true, false, false, true, true, true, true, false, false, false, false, false, false, false] rfl rfl (any_of HT_.out (by kernel_rfl)) (fun _ _ _ h => h) (Or.inl ⟨by rfl, ?_⟩) ?_ ?_
                            rotate_left
                            · intro w'
                              go_simp
                              with_reducible rfl
                            rotate_left
                            · simp only [Zs]
                              rfl
                            refine pure_ (i := 7) (N := some 59) (v := ?_) (a' := ?_) #[true, false, false, true, true, true, true, true, false, false, false, false, false, false] rfl rfl (any_of HT_.out (by kernel_rfl)) (fun _ _ _ h => h) (Or.inl ⟨by rfl, ?_⟩) ?_ ?_
                            rotate_left
                            · intro w'
                              go_simp
                              with_reducible rfl
                            rotate_left
                            · simp only [Zs]
                              rfl
                            refine pure_ (i := 8) (N := some 60) (v := ?_) (a' := ?_) #[true, false, false, true, true, true, true, true, true, false, false, false, false, false] rfl rfl (any_of HT_.out (by kernel_rfl)) (fun _ _ _ h => h) (Or.inl ⟨by rfl, ?_⟩) ?_ ?_
                            rotate_left
                            · intro w'
                              go_simp
                              with_reducible rfl
                            rotate_left
                            · simp only [Zs]
                              rfl
                            refine take_ (i := 1) (N := some 53) (v := ?_) (a' := ?_) #[true, true, false, true, true, true, true, true, true, false, false, false, false, false] rfl rfl (take_ofW HT_.out HW_.out (by kernel_rfl)) (fun _ _ _ h => h) (Or.inl ⟨by rfl, ?_⟩) hHeld ?_ ?_
                            rotate_left
                            · rintro w' ⟨s0, s1, s2, s3, s4, s5⟩
                              go_simp
                              with_reducible rfl
                            rotate_left
                            · simp only [Zs]
                              rfl
                            refine take_ (i := 2) (N := some 54) (v := ?_) (a' := ?_) #[true, true, true, true, true, true, true, true, true, false, false, false, false, false] rfl rfl (take_ofW HT_.out HW_.out (by kernel_rfl)) (fun _ _ _ h => h) (Or.inl ⟨by rfl, ?_⟩) hHeld ?_ ?_
                            rotate_left
                            · rintro w' ⟨s0, s1, s2, s3, s4, s5⟩
                              go_simp
                              with_reducible rfl
                            rotate_left
                            · simp only [Zs]
                              rfl
                            refine one_ (i := 9) (N := some 61) #[true, true, true, true, true, true, true, true, true, true, false, false, false, false] rfl rfl (one_of HT_.out (by kernel_rfl)) (by decide) (fun K hK => ?_)
                            refine goes_ Try.func26 (by kernel_rfl) rfl #[.agg #[.int .i64 a0_0, .int .i64 a0_1, .slice A0_2 l0_2.length c0_2], .int .i64 (wrap64 (Int.tdiv x8_3 a1)), .int .i64 (wrap64 (Int.tdiv x7_2 a1))] (by rfl) rfl rfl (by (try simp only [List.map_toArray, List.map_cons, List.map_nil]); rfl) ?_
                            with_reducible refine (barscanref31_At.calls a0_0 a0_1 _ _ l0_2 (wrap64 (Int.tdiv x8_3 a1)) (wrap64 (Int.tdiv x7_2 a1)) t617 _ ?side1 ?side2 A29.out).mono ?_
                            (case side1 => repeat ((exact (Kd.C_below HR0_2.out HB.out))))
                            (case side2 => exact HC0_2.out)
                            rintro e w35 ⟨rfl, hb⟩
                            refine ⟨_, rfl, ?_⟩
                            have n0_ := Aside0.mk (Kd.R_below (by (with_reducible repeat (fail)); exact HO_617002.out) hb)
                            have n1_ := Aside0.mk (blk_below (g := gb612) (o := .cells #[.int .i64 a0_0, .int .i64 a0_1, .slice A0_2 l0_2.length c0_2] 24 (0, 0)) (by (with_reducible repeat (fail)); exact BK612.out) hb)
                            have n2_ := Aside0.mk (blk_below (g := gb613) (o := .cells #[.int .i64 0, .int .i64 0, .slice none 0 0] 24 (0, 0)) (by (with_reducible repeat (fail)); exact BK613.out) hb)
                            have n3_ := Aside0.mk (blk_below (g := gb616) (o := .cells #[.int .i64 (wrap64 (a1 * a0_0)), .int .i64 (wrap64 (a1 * a0_1)), u617002] 24 (0, 0)) (by (with_reducible repeat (fail)); exact BK616.out) hb)
                            have n4_ := Aside0.mk (below_step (by repeat ((with_reducible exact HB.out))) hb)
                            clear HO_617002 BK612 BK613 BK616 HB
                            have HO_617002 := n0_
                            have BK612 := n1_
                            have BK613 := n2_
                            have BK616 := n3_
                            have HB := n4_
                            clear n0_ n1_ n2_ n3_ n4_
                            (try clear hb)
                            (try clear hb2)
                            (try clear hk)
                            (try clear hi)
                            refine hK.out _ _ ⟨(blk_cell BK616.out 0).trans rfl, (blk_cell BK616.out 1).trans rfl, (blk_cell BK616.out 2).trans rfl, (blk_cell BK612.out 0).trans rfl, (blk_cell BK612.out 1).trans rfl, (blk_cell BK612.out 2).trans rfl⟩ (fun hHeld => ?_)
                            clear hK K
                            refine norm_ (a' := ?_) ?_ ?_
                            rotate_left
                            · show Act.put _ (some 61) _ = _
                              simp only [Zs]
                              rfl
                            refine one_ (i := 10) (N := some 62) #[true, true, true, true, true, true, true, true, true, true, true, false, false, false] rfl rfl (one_of HT_.out (by kernel_rfl)) (by decide) (fun K hK => ?_)
                            refine value_ (w1 := ?_) (v := ?_) (by rfl) rfl ?_ ?_
                            rotate_left 2
                            · go_simp
                              constructor
                              · rfl
                              · rfl
                            refine hK.out _ _ ⟨(blk_cell (blk_alloc BK616.out _) 0).trans rfl, (blk_cell (blk_alloc BK616.out _) 1).trans rfl, (blk_cell (blk_alloc BK616.out _) 2).trans rfl, (blk_cell (blk_alloc BK612.out _) 0).trans rfl, (blk_cell (blk_alloc BK612.out _) 1).trans rfl, (blk_cell (blk_alloc BK612.out _) 2).trans rfl⟩ (fun hHeld => ?_)
                            clear hK K
                            refine norm_ (a' := ?_) ?_ ?_
                            rotate_left
                            · show Act.put _ (some 62) _ = _
                              simp only [Zs]
                              rfl
                            refine one_ (i := 11) (N := some 63) #[true, true, true, true, true, true, true, true, true, true, true, true, false, false] rfl rfl (one_of HT_.out (by kernel_rfl)) (by decide) (fun K hK => ?_)
                            refine Kd.R_append_step Kd.bool (w0 := w) w.heap.size (by rfl) (.tmp 53) (.tmp 62) 22 4 (.bool false) 1 rfl Try.underlying22 info4 rfl (by decide) (by omega) u617002 x617002_3 t617 [.bool t617] (fun _ => True) (fun _ => False) rfl rfl ?aP (fun _ hk => hk.elim) ?aF ?aO ?aB ?aS ?aL ?_
                            (case aP => exact rfl)
                            (case aB => exact (by repeat ((with_reducible exact HB.out))))
                            (case aF => exact (fun _ _ => trivial))
                            (case aO => exact (by (with_reducible repeat (fail)); exact HO_617002.out))
                            (case aS => exact (below_size (by repeat ((with_reducible exact HB.out)))))
                            (case aL => have := LMc30.out; omega)
                            intro v619 w36 ho hb hg hat
                            rw [← Ny618.out] at ho
                            have n0_ := Aside0.mk (blk_grown (g := gb612) (o := .cells #[.int .i64 a0_0, .int .i64 a0_1, .slice A0_2 l0_2.length c0_2] 24 (0, 0)) (by (with_reducible repeat (fail)); exact BK612.out) hg (Kd.R_ne HO_617002.out BK612.out (by decide)))
                            have n1_ := Aside0.mk (blk_grown (g := gb613) (o := .cells #[.int .i64 0, .int .i64 0, .slice none 0 0] 24 (0, 0)) (by (with_reducible repeat (fail)); exact BK613.out) hg (Kd.R_ne HO_617002.out BK613.out (by decide)))
                            have n2_ := Aside0.mk (blk_grown (g := gb616) (o := .cells #[.int .i64 (wrap64 (a1 * a0_0)), .int .i64 (wrap64 (a1 * a0_1)), u617002] 24 (0, 0)) (by (with_reducible repeat (fail)); exact BK616.out) hg (Kd.R_ne HO_617002.out BK616.out (by decide)))
                            have n3_ := Aside0.mk (hb)
                            have n4_ := Aside0.mk (ho)
                            clear BK612 BK613 BK616 HB HO_617002
                            have BK612 := n0_
                            have BK613 := n1_
                            have BK616 := n2_
                            have HB := n3_
                            have HO620 := n4_
                            clear n0_ n1_ n2_ n3_ n4_ ho hb hg hat
                            obtain ⟨Ao37, co37, eo37⟩ := Kd.R_slice HO620.out
                            (subst eo37)
                            refine hK.out _ _ ⟨(blk_cell BK616.out 0).trans rfl, (blk_cell BK616.out 1).trans rfl, (blk_cell BK616.out 2).trans rfl, (blk_cell BK612.out 0).trans rfl, (blk_cell BK612.out 1).trans rfl, (blk_cell BK612.out 2).trans rfl⟩ (fun hHeld => ?_)
                            clear hK K
                            refine norm_ (a' := ?_) ?_ ?_
                            rotate_left
                            · show Act.put _ (some 63) _ = _
                              simp only [Zs]
                              rfl
                            refine pure_ (i := 12) (N := some 64) (v := ?_) (a' := ?_) #[true, true, true, true, true, true, true, true, true, true, true, true, true, false] rfl rfl (any_of HT_.out (by kernel_rfl)) (fun _ _ _ h => h) (Or.inl ⟨by rfl, ?_⟩) ?_ ?_
                            rotate_left
                            · intro w'
                              go_simp
                              with_reducible rfl
                            rotate_left
                            · simp only [Zs]
                              rfl
                            refine last_ (i := 13) (N := none) #[true, true, true, true, true, true, true, true, true, true, true, true, true, true] rfl rfl (one_of HT_.out (by kernel_rfl)) (by decide) (fun K hK => ?_)
                            have hs38 : w36.cell? ⟨gb616, 2, none⟩ = some (u617002) := (blk_cell BK616.out 2).trans rfl
                            have hfs38 := blk_frozen BK616.out 2
                            have hns38_0 := NB612_616.out
                            have hns38_1 := NB613_616.out
                            have hms38_0 := NB616_612.out
                            have hms38_1 := NB616_613.out
                            refine skip_ (w1 := ?_) (by rfl) rfl ?_ ?_
                            rotate_left
                            · go_simp
                              rfl
                            refine hK.out _ _ ?_
                            clear hK K
                            refine done_ (done_of HT_.out (by kernel_rfl)) ?_
                            try go_wp2
                            go_roundg k3
                            case measure => have := HJ4.out; have := HK2.out; have := HK3.out; omega
                            case rel => exact ⟨(wrap64 (x8_3 + 1)), (y618), (.slice Ao37 y618.length co37), (by rfl), H', ⟨by have := HJ4.out; have := HK2.out; have := HK3.out; omega⟩, ⟨by (with_reducible repeat (fail)); exact Kd.R_mono (Kd.R_far (p := ⟨gb616, 2, none⟩) (Kd.R_types HO620.out BK616.out (by decide)) (fun _ hk => hk.2) (.slice Ao37 y618.length co37)) (fun _ hk => trivial)⟩, ⟨by (with_reducible repeat (fail)); refine blk_far ?_ NB612_616.out _; (with_reducible repeat (fail)); exact BK612.out⟩, ⟨by (with_reducible repeat (fail)); refine blk_far ?_ NB613_616.out _; (with_reducible repeat (fail)); exact BK613.out⟩, ⟨by (with_reducible repeat (fail)); refine blk_put (cs := #[.int .i64 (wrap64 (a1 * a0_0)), .int .i64 (wrap64 (a1 * a0_1)), u617002]) ?_ 2 _ rfl; (with_reducible repeat (fail)); exact BK616.out⟩, ⟨by repeat ((with_reducible first | exact HB.out | refine below_set ?_ GE616.out))⟩⟩
                          · rw [if_neg c30] at H
                            exact absurd H (by simp)
                      · rw [if_neg c27] at H
                        have c27b0 : decide (x8_3 < (wrap64 (a1 * a0_0))) = false := decide_eq_false c27
                        clear c27
                        have H' := Aside0.mk H
                        clear H
                        have hnb39 := NB616_612.out
                        have hnc39 := NB612_616.out
                        have hnb40 := NB616_613.out
                        have hnc40 := NB613_616.out
                        have hcz41_0 : wr.cell? ⟨gb616, 0, none⟩ = some (.int .i64 (wrap64 (a1 * a0_0))) := (blk_cell BK616.out 0).trans rfl
                        have hcz41_1 : wr.cell? ⟨gb616, 1, none⟩ = some (.int .i64 (wrap64 (a1 * a0_1))) := (blk_cell BK616.out 1).trans rfl
                        have hcz41_2 : wr.cell? ⟨gb616, 2, none⟩ = some (u617002) := (blk_cell BK616.out 2).trans rfl
                        have hfz41_0 := blk_frozen BK616.out 0
                        have hfz41_1 := blk_frozen BK616.out 1
                        have hfz41_2 := blk_frozen BK616.out 2
                        go_wp2
                        go_roundg k3
                        case measure => have := HJ4.out; have := HK2.out; have := HK3.out; omega
                        case rel => exact ⟨(wrap64 (x7_2 + 1)), (x617002_3), (u617002), (by rfl), H', ⟨by have := HJ4.out; have := HK2.out; have := HK3.out; omega⟩, ⟨by (with_reducible repeat (fail)); exact HO_617002.out⟩, ⟨by (with_reducible repeat (fail)); exact BK612.out⟩, ⟨by (with_reducible repeat (fail)); exact BK613.out⟩, ⟨by (with_reducible repeat (fail)); exact BK616.out⟩, ⟨by repeat ((with_reducible exact HB.out))⟩⟩
                · rw [if_neg c23] at H
                  have c23b0 : decide (x7_2 < (wrap64 (a1 * a0_1))) = false := decide_eq_false c23
                  clear c23
                  simp only [Option.some.injEq, Prod.mk.injEq] at H
                  obtain ⟨rfl, rfl, rfl, rfl⟩ := H
                  have hnb42 := NB616_612.out
                  have hnc42 := NB612_616.out
                  have hnb43 := NB616_613.out
                  have hnc43 := NB613_616.out
                  have hcz44_0 : wr.cell? ⟨gb616, 0, none⟩ = some (.int .i64 (wrap64 (a1 * a0_0))) := (blk_cell BK616.out 0).trans rfl
                  have hcz44_1 : wr.cell? ⟨gb616, 1, none⟩ = some (.int .i64 (wrap64 (a1 * a0_1))) := (blk_cell BK616.out 1).trans rfl
                  have hcz44_2 : wr.cell? ⟨gb616, 2, none⟩ = some (u617002) := (blk_cell BK616.out 2).trans rfl
                  have hfz44_0 := blk_frozen BK616.out 0
                  have hfz44_1 := blk_frozen BK616.out 1
                  have hfz44_2 := blk_frozen BK616.out 2
                  have hnb45 := NB613_612.out
                  have hnc45 := NB612_613.out
                  have hcz46_0 : wr.cell? ⟨gb613, 0, none⟩ = some (.int .i64 0) := (blk_cell BK613.out 0).trans rfl
                  have hcz46_1 : wr.cell? ⟨gb613, 1, none⟩ = some (.int .i64 0) := (blk_cell BK613.out 1).trans rfl
                  have hcz46_2 : wr.cell? ⟨gb613, 2, none⟩ = some (.slice none 0 0) := (blk_cell BK613.out 2).trans rfl
                  have hfz46_0 := blk_frozen BK613.out 0
                  have hfz46_1 := blk_frozen BK613.out 1
                  have hfz46_2 := blk_frozen BK613.out 2
                  obtain ⟨Ao47, co47, eo47⟩ := Kd.R_slice HO_617002.out
                  subst eo47
                  go_wp2
                  refine bodyPost_ret (results_ct rfl _ _ gb613 24 #[.int .i64 (wrap64 (a1 * a0_0)), .int .i64 (wrap64 (a1 * a0_1)), .slice Ao47 x617002_2.length co47] (0, 0) _ rfl (by (with_reducible repeat (fail)); refine blk_put (cs := #[.int .i64 (wrap64 (a1 * a0_0)), .int .i64 (wrap64 (a1 * a0_1)), .slice none 0 0]) ?_ 2 _ rfl; (with_reducible repeat (fail)); refine blk_put (cs := #[.int .i64 (wrap64 (a1 * a0_0)), .int .i64 0, .slice none 0 0]) ?_ 1 _ rfl; (with_reducible repeat (fail)); refine blk_put (cs := #[.int .i64 0, .int .i64 0, .slice none 0 0]) ?_ 0 _ rfl; (with_reducible repeat (fail)); exact BK613.out) Try.underlying24 rfl (by kernel_rfl)) rfl ?_
                  exact ⟨_, by rfl, by (with_reducible repeat (fail)); exact Kd.R_mono (Kd.R_far (p := ⟨gb613, 2, none⟩) (Kd.R_far (p := ⟨gb613, 1, none⟩) (Kd.R_far (p := ⟨gb613, 0, none⟩) (Kd.R_types HO_617002.out BK613.out (by decide)) (fun _ hk => hk.2) (.int .i64 (wrap64 (a1 * a0_0)))) (fun _ hk => hk.2) (.int .i64 (wrap64 (a1 * a0_1)))) (fun _ hk => hk.2) (.slice Ao47 x617002_2.length co47)) (fun _ hk => trivial), by repeat ((with_reducible first | exact HB.out | refine below_set ?_ GE613.out))⟩
          · replace c16 := Bool.eq_false_iff.mpr c16
            subst c16
            have H1 : (some (0, 0, ([] : List Bool), 4)) = some (r1, r2, r3, r4) := by rw [if_neg (show ¬ (false = true) by decide)] at H; exact H
            clear H
            have H := H1
            clear H1
            simp only [Option.some.injEq, Prod.mk.injEq] at H
            obtain ⟨rfl, rfl, rfl, rfl⟩ := H
            have hnb48 := NB612_613.out
            have hnc48 := NB613_612.out
            have hcz49_0 : wc.cell? ⟨gb612, 0, none⟩ = some (.int .i64 a0_0) := (blk_cell BK612.out 0).trans rfl
            have hcz49_1 : wc.cell? ⟨gb612, 1, none⟩ = some (.int .i64 a0_1) := (blk_cell BK612.out 1).trans rfl
            have hcz49_2 : wc.cell? ⟨gb612, 2, none⟩ = some (.slice A0_2 l0_2.length c0_2) := (blk_cell BK612.out 2).trans rfl
            have hfz49_0 := blk_frozen BK612.out 0
            have hfz49_1 := blk_frozen BK612.out 1
            have hfz49_2 := blk_frozen BK612.out 2
            go_wp2_with (((with_reducible refine gate_callee (f := 44) rfl ?_); refine goesL_ (some 28) rfl rfl Try.func44 (by kernel_rfl) rfl #[.int .i64 (wrap64 (a1 * a0_0)), .int .i64 (wrap64 (a1 * a0_1))] rfl (by (try simp only [List.map_toArray, List.map_cons, List.map_nil]); rfl) ?_; (with_reducible refine (barscanref31_fits.calls (wrap64 (a1 * a0_0)) (wrap64 (a1 * a0_1)) false _ A15.out).mono ?_); rintro e w' ⟨rfl, ⟨nd, rfl⟩⟩; refine ⟨_, rfl, ?_⟩; (try (rw [drewN_self wc]; generalize hq_ : World.drewN wc _ = wc; have n0_ : Aside0 (wc.heap[gb612]? = some (.cells #[.int .i64 a0_0, .int .i64 a0_1, .slice A0_2 l0_2.length c0_2] 24 (0, 0))) := ⟨by rw [← hq_]; exact (by (with_reducible repeat (refine blk_drewN ?_ _)); exact BK612.out)⟩; have n1_ : Aside0 (wc.heap[gb613]? = some (.cells #[.int .i64 0, .int .i64 0, .slice none 0 0] 24 (0, 0))) := ⟨by rw [← hq_]; exact (by (with_reducible repeat (refine blk_drewN ?_ _)); exact BK613.out)⟩; have n2_ : Aside0 (Below w.heap.size w wc) := ⟨by rw [← hq_]; exact (by repeat ((with_reducible first | exact HB.out | apply pw_below_drewN)))⟩; clear BK612 BK613 HB hq_; have BK612 := n0_; have BK613 := n1_; have HB := n2_; clear n0_ n1_ n2_)); have hcz50_0 : wc.cell? ⟨gb613, 0, none⟩ = some (.int .i64 0) := (blk_cell BK613.out 0).trans rfl; have hcz50_1 : wc.cell? ⟨gb613, 1, none⟩ = some (.int .i64 0) := (blk_cell BK613.out 1).trans rfl; have hcz50_2 : wc.cell? ⟨gb613, 2, none⟩ = some (.slice none 0 0) := (blk_cell BK613.out 2).trans rfl; have hfz50_0 := blk_frozen BK613.out 0; have hfz50_1 := blk_frozen BK613.out 1; have hfz50_2 := blk_frozen BK613.out 2))
            refine bodyPost_ret (results_ct rfl _ _ gb613 24 #[.int .i64 0, .int .i64 0, .slice none 0 0] (0, 0) _ rfl (by (with_reducible repeat (fail)); refine blk_put (cs := #[.int .i64 0, .int .i64 0, .slice none 0 0]) ?_ 2 _ rfl; (with_reducible repeat (fail)); refine blk_put (cs := #[.int .i64 0, .int .i64 0, .slice none 0 0]) ?_ 1 _ rfl; (with_reducible repeat (fail)); refine blk_put (cs := #[.int .i64 0, .int .i64 0, .slice none 0 0]) ?_ 0 _ rfl; (with_reducible repeat (fail)); exact BK613.out) Try.underlying24 rfl (by kernel_rfl)) rfl ?_
            exact ⟨_, by rfl, by exact Kd.R_nil _ _ _ _ _, by repeat ((with_reducible first | exact HB.out | refine below_set ?_ GE613.out))⟩
  · replace c4 := Bool.eq_false_iff.mpr c4
    subst c4
    have H1 : (some (0, 0, ([] : List Bool), 1)) = some (r1, r2, r3, r4) := by rw [if_neg (show ¬ (false = true) by decide)] at H; exact H
    clear H
    have H := H1
    clear H1
    simp only [Option.some.injEq, Prod.mk.injEq] at H
    obtain ⟨rfl, rfl, rfl, rfl⟩ := H
    go_enter Try.func30, Try.ntmps30
    go_wp2_with (first | ((with_reducible refine gate_dst (N := 2) rfl ?_); refine box_event ?hg (N := 2) ?hd (cs := #[.int .i64 a0_0, .int .i64 a0_1, .slice A0_2 l0_2.length c0_2]) (t := 24) ?hr ?_; (case hd => rfl); (case hg => rfl); (case hr => (go_simp; done)); intro gb612 hg w51 hbox hb; have n0_ := Aside0.mk (below_step (by repeat ((with_reducible exact HB.out))) hb); have n1_ := Aside0.mk (hbox); have n2_ := Aside0.mk ((by rw [hg]; exact (below_size (by repeat ((with_reducible exact HB.out)))) : w.heap.size ≤ gb612)); have n3_ := Aside0.mk ((by rw [hg]; exact (below_size (by repeat ((with_reducible exact HB.out)))) : w.heap.size ≤ gb612)); clear HB; have HB := n0_; have BK612 := n1_; have GW612 := n2_; have GE612 := n3_; clear n0_ n1_ n2_ n3_; clear hb hbox hg) | ((with_reducible refine gate_dst (N := 4) rfl ?_); refine box_event ?hg (N := 4) ?hd (cs := #[.int .i64 0, .int .i64 0, .slice none 0 0]) (t := 24) ?hr ?_; (case hd => rfl); (case hg => rfl); (case hr => (go_simp; done)); intro gb613 hg w52 hbox hb; have n0_ := Aside0.mk (blk_below (g := gb612) (o := .cells #[.int .i64 a0_0, .int .i64 a0_1, .slice A0_2 l0_2.length c0_2] 24 (0, 0)) (by (with_reducible repeat (fail)); exact BK612.out) hb); have n1_ := Aside0.mk (below_step (by repeat ((with_reducible exact HB.out))) hb); have n2_ := Aside0.mk (hbox); have n3_ := Aside0.mk ((by rw [hg]; exact (below_size (by repeat ((with_reducible exact HB.out)))) : w.heap.size ≤ gb613)); have n4_ := Aside0.mk ((by rw [hg]; exact (below_size (by repeat ((with_reducible exact HB.out)))) : w.heap.size ≤ gb613)); have n5_ := Aside0.mk ((by rw [hg]; exact Nat.ne_of_lt (blk_lt (g := gb612) (o := .cells #[.int .i64 a0_0, .int .i64 a0_1, .slice A0_2 l0_2.length c0_2] 24 (0, 0)) (by (with_reducible repeat (fail)); exact BK612.out)) : gb612 ≠ gb613)); have n6_ := Aside0.mk ((by rw [hg]; exact Nat.ne_of_gt (blk_lt (g := gb612) (o := .cells #[.int .i64 a0_0, .int .i64 a0_1, .slice A0_2 l0_2.length c0_2] 24 (0, 0)) (by (with_reducible repeat (fail)); exact BK612.out)) : gb613 ≠ gb612)); clear BK612; clear HB; have BK612 := n0_; have HB := n1_; have BK613 := n2_; have GW613 := n3_; have GE613 := n4_; have NB612_613 := n5_; have NB613_612 := n6_; clear n0_ n1_ n2_ n3_ n4_ n5_ n6_; clear hb hbox hg; have hnb53 := NB612_613.out; have hnc53 := NB613_612.out; have hcz54_0 : w52.cell? ⟨gb612, 0, none⟩ = some (.int .i64 a0_0) := (blk_cell BK612.out 0).trans rfl; have hcz54_1 : w52.cell? ⟨gb612, 1, none⟩ = some (.int .i64 a0_1) := (blk_cell BK612.out 1).trans rfl; have hcz54_2 : w52.cell? ⟨gb612, 2, none⟩ = some (.slice A0_2 l0_2.length c0_2) := (blk_cell BK612.out 2).trans rfl; have hfz54_0 := blk_frozen BK612.out 0; have hfz54_1 := blk_frozen BK612.out 1; have hfz54_2 := blk_frozen BK612.out 2) | ((with_reducible refine gate_callee (f := 41) rfl ?_); refine goesL_ (some 10) rfl rfl Try.func41 (by kernel_rfl) rfl #[.agg #[.int .i64 a0_0, .int .i64 a0_1, .slice A0_2 l0_2.length c0_2]] rfl (by (try simp only [List.map_toArray, List.map_cons, List.map_nil]); rfl) ?_; (with_reducible refine (barscanref31_Valid.calls a0_0 a0_1 _ _ l0_2 false _ ?side1 ?side2 A3.out).mono ?_); (case side1 => repeat ((exact (Kd.C_below HR0_2.out HB.out)))); (case side2 => exact HC0_2.out); rintro e w55 ⟨rfl, hb⟩; refine ⟨_, rfl, ?_⟩; have n0_ := Aside0.mk (blk_below (g := gb612) (o := .cells #[.int .i64 a0_0, .int .i64 a0_1, .slice A0_2 l0_2.length c0_2] 24 (0, 0)) (by (with_reducible repeat (fail)); exact BK612.out) hb); have n1_ := Aside0.mk (blk_below (g := gb613) (o := .cells #[.int .i64 0, .int .i64 0, .slice none 0 0] 24 (0, 0)) (by (with_reducible repeat (fail)); exact BK613.out) hb); have n2_ := Aside0.mk (below_step (by repeat ((with_reducible exact HB.out))) hb); clear BK612; clear BK613; clear HB; have BK612 := n0_; have BK613 := n1_; have HB := n2_; clear n0_ n1_ n2_; (try clear hb); (try clear hb2); (try clear hk); (try clear hi); have hcz56_0 : w55.cell? ⟨gb613, 0, none⟩ = some (.int .i64 0) := (blk_cell BK613.out 0).trans rfl; have hcz56_1 : w55.cell? ⟨gb613, 1, none⟩ = some (.int .i64 0) := (blk_cell BK613.out 1).trans rfl; have hcz56_2 : w55.cell? ⟨gb613, 2, none⟩ = some (.slice none 0 0) := (blk_cell BK613.out 2).trans rfl; have hfz56_0 := blk_frozen BK613.out 0; have hfz56_1 := blk_frozen BK613.out 1; have hfz56_2 := blk_frozen BK613.out 2))
    refine bodyPost_ret (results_ct rfl _ _ gb613 24 #[.int .i64 0, .int .i64 0, .slice none 0 0] (0, 0) _ rfl (by (with_reducible repeat (fail)); refine blk_put (cs := #[.int .i64 0, .int .i64 0, .slice none 0 0]) ?_ 2 _ rfl; (with_reducible repeat (fail)); refine blk_put (cs := #[.int .i64 0, .int .i64 0, .slice none 0 0]) ?_ 1 _ rfl; (with_reducible repeat (fail)); refine blk_put (cs := #[.int .i64 0, .int .i64 0, .slice none 0 0]) ?_ 0 _ rfl; (with_reducible repeat (fail)); exact BK613.out) Try.underlying24 rfl (by kernel_rfl)) rfl ?_
    exact ⟨_, by rfl, by exact Kd.R_nil _ _ _ _ _, by repeat ((with_reducible first | exact HB.out | refine below_set ?_ GE613.out))⟩

end Go.Proofs.Ytahibhipffojlaa.M
