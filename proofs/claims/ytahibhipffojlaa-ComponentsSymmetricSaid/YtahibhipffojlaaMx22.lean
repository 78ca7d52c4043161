-- Machine side, printed by this session's own program over the kit's print (wip/tools/myprint.py). Lean checks it.
import Derived.Test.YtahibhipffojlaaMx0
import Derived.Test.YtahibhipffojlaaMx8
import Derived.Test.YtahibhipffojlaaMx17
namespace Go.Proofs.Ytahibhipffojlaa.M
open Go.RowKit Go.Proofs.YtahibhipffojlaaW.PrintWords Go.Proofs.YtahibhipffojlaaW.PrintLast Go.Proofs.YtahibhipffojlaaW.PrintMore
attribute [local go_sem] max2_int min2_int max_two min_two max_three min_three max_four min_four   -- for this text's walks alone
set_option linter.unusedVariables false
set_option linter.unusedSimpArgs false

/-! ### barscanref31_Mirror: function 29 -/
def barscanref31_Mirror.l0 : Nat → Int → Int → Int → List Bool → Int → Int → List Bool → Option (Int × Int × List Bool × Int)
  | 0, _, _, _, _, _, _, _ => none
  | k + 1, x5, x605000, x605001, x605002, x608000, x608001, x608002 => if x5 < (x605002.length : Int) then (if x605000 = 0 then (none) else ((barscanref31_At.f x605000 x605001 x605002 (wrap64 ((wrap64 (x605000 - 1)) - (Int.tmod x5 x605000))) (wrap64 (Int.tdiv x5 x605000))).bind fun t608 => (if x608002.length < 140737488355328 then (barscanref31_Mirror.l0 k (wrap64 (x5 + 1)) x605000 x605001 x605002 x608000 x608001 (x608002 ++ [t608])) else (none)))) else (some (x608000, x608001, x608002, 0))
def barscanref31_Mirror.f (k : Nat) (a0_0 : Int) (a0_1 : Int) (l0_2 : List Bool) : Option (Int × Int × List Bool × Int) := (barscanref31_Valid.f a0_0 a0_1 l0_2).bind fun t606 => (if t606 = true then (barscanref31_Mirror.l0 k 0 a0_0 a0_1 l0_2 a0_0 a0_1 ([] : List Bool)) else (some (0, 0, ([] : List Bool), 1)))
theorem barscanref31_Mirror.mono_l : ∀ k, (∀ y0 y1 y2 y3 y4 y5 y6, LeO (barscanref31_Mirror.l0 k y0 y1 y2 y3 y4 y5 y6) (barscanref31_Mirror.l0 (k + 1) y0 y1 y2 y3 y4 y5 y6))
  | 0 => fun _ _ _ _ _ _ _ r h => by simp [barscanref31_Mirror.l0] at h
  | k + 1 => by
    have ih0 := barscanref31_Mirror.mono_l k
    · intro y0 y1 y2 y3 y4 y5 y6
      unfold barscanref31_Mirror.l0
      repeat' first
      | (with_reducible exact ih0 _ _ _ _ _ _ _)
      | (with_reducible exact LeO.refl _)
      | (with_reducible refine LeO.ite ?_ ?_)
      | (with_reducible refine LeO.bind ?_ (fun _ => ?_))
theorem barscanref31_Mirror.mono : ∀ a0 a1 a2 k, LeO (barscanref31_Mirror.f k a0 a1 a2) (barscanref31_Mirror.f (k + 1) a0 a1 a2) := by
  intro a0 a1 a2 k
  have ih0 := barscanref31_Mirror.mono_l k
  unfold barscanref31_Mirror.f
  repeat' first
      | (with_reducible exact ih0 _ _ _ _ _ _ _)
      | (with_reducible exact LeO.refl _)
      | (with_reducible refine LeO.ite ?_ ?_)
      | (with_reducible refine LeO.bind ?_ (fun _ => ?_))
def barscanref31_Mirror.T7 : Bool × List (List Nat × List Nat) := (true, [([], []), ([0], [0]), ([], []), ([], []), ([3], [3]), ([4], [4]), ([], []), ([], []), ([7], [7]), ([6, 8], [6, 8]), ([5, 9], [5, 9]), ([], []), ([], []), ([12], [12]), ([11, 13], [11, 13]), ([2, 10, 14], [2, 10, 14]), ([15], [15]), ([1, 16, 15], [1, 16]), ([0, 1, 2, 3, 4, 5, 6, 7, 8, 9, 10, 11, 12, 13, 14, 15, 16, 17], []), ([18, 17, 17, 0, 1, 2, 3, 4, 5, 6, 7, 8, 9, 10, 11, 12, 13, 14, 15, 16, 17], [17, 18])])
def barscanref31_Mirror.B7 : List Nat := [0, 1, 0, 0, 8, 24, 0, 0, 128, 448, 1016, 0, 0, 4096, 14336, 32764, 65532, 131071, 262143, 524287]
theorem barscanref31_Mirror.tab7 : rtab .any (opsOf Try.f29 7) = barscanref31_Mirror.T7 := by kernel_rfl
theorem barscanref31_Mirror.bits7 : waitsOk barscanref31_Mirror.T7.2 barscanref31_Mirror.B7 = true := by kernel_rfl
set_option maxHeartbeats 8000000 in
set_option maxRecDepth 100000 in
theorem barscanref31_Mirror.calls (k : Nat) (a0_0 : Int) (a0_1 : Int) (A0_2 : Option Addr) (c0_2 : Nat) (l0_2 : List Bool) (r1 : Int) (r2 : Int) (r3 : List Bool) (r4 : Int) (w : World) (hr0_2 : Kd.C Kd.bool w A0_2 l0_2.length l0_2) (hc0_2 : l0_2.length ≤ c0_2) (h : barscanref31_Mirror.f k a0_0 a0_1 l0_2 = some (r1, r2, r3, r4)) :
    Calls Try.prog 29 #[.agg #[.int .i64 a0_0, .int .i64 a0_1, .slice A0_2 l0_2.length c0_2]] w fun e w' => ∃ v2_ : Value, e = .returned (.tuple #[.agg #[.int .i64 r1, .int .i64 r2, v2_], .int .i64 r4]) ∧ Kd.R Kd.bool 4 w' w.heap.size (fun _ => True) v2_ r3 ∧ Below w.heap.size w w' := by
  have hu24 := Try.underlying24
  have HR0_2 := Aside0.mk hr0_2
  have HC0_2 := Aside0.mk hc0_2
  clear hr0_2 hc0_2
  have HB := Aside0.mk (Below.refl w.heap.size w)
  have H : ((barscanref31_Valid.f a0_0 a0_1 l0_2).bind fun t606 => (if t606 = true then (barscanref31_Mirror.l0 k 0 a0_0 a0_1 l0_2 a0_0 a0_1 ([] : List Bool)) else (some (0, 0, ([] : List Bool), 1)))) = some (r1, r2, r3, r4) := h
  clear h
  replace H := Option.bind_eq_some_iff.mp H
  obtain ⟨t606, A20, H⟩ := H
  replace H : (if t606 = true then (barscanref31_Mirror.l0 k 0 a0_0 a0_1 l0_2 a0_0 a0_1 ([] : List Bool)) else (some (0, 0, ([] : List Bool), 1))) = some (r1, r2, r3, r4) := H
  have A2 := Aside0.mk A20
  clear A20
  by_cases c3 : t606 = true
  · subst c3
    have H1 : (barscanref31_Mirror.l0 k 0 a0_0 a0_1 l0_2 a0_0 a0_1 ([] : List Bool)) = some (r1, r2, r3, r4) := by rw [if_pos rfl] at H; exact H
    clear H
    have H := H1
    clear H1
    have H' := Aside0.mk H
    clear H
    go_enter Try.func29, Try.ntmps29
    go_wp2_with (first | ((with_reducible refine gate_dst (N := 1) rfl ?_); refine box_event ?hg (N := 1) ?hd (cs := #[.int .i64 a0_0, .int .i64 a0_1, .slice A0_2 l0_2.length c0_2]) (t := 24) ?hr ?_; (case hd => rfl); (case hg => rfl); (case hr => (go_simp; done)); intro gb604 hg w4 hbox hb; have n0_ := Aside0.mk (below_step (by repeat ((with_reducible exact HB.out))) hb); have n1_ := Aside0.mk (hbox); have n2_ := Aside0.mk ((by rw [hg]; exact (below_size (by repeat ((with_reducible exact HB.out)))) : w.heap.size ≤ gb604)); have n3_ := Aside0.mk ((by rw [hg]; exact (below_size (by repeat ((with_reducible exact HB.out)))) : w.heap.size ≤ gb604)); clear HB; have HB := n0_; have BK604 := n1_; have GW604 := n2_; have GE604 := n3_; clear n0_ n1_ n2_ n3_; clear hb hbox hg) | ((with_reducible refine gate_dst (N := 2) rfl ?_); refine box_event ?hg (N := 2) ?hd (cs := #[.int .i64 0, .int .i64 0, .slice none 0 0]) (t := 24) ?hr ?_; (case hd => rfl); (case hg => rfl); (case hr => (go_simp; done)); intro gb605 hg w5 hbox hb; have n0_ := Aside0.mk (blk_below (g := gb604) (o := .cells #[.int .i64 a0_0, .int .i64 a0_1, .slice A0_2 l0_2.length c0_2] 24 (0, 0)) (by (with_reducible repeat (fail)); exact BK604.out) hb); have n1_ := Aside0.mk (below_step (by repeat ((with_reducible exact HB.out))) hb); have n2_ := Aside0.mk (hbox); have n3_ := Aside0.mk ((by rw [hg]; exact (below_size (by repeat ((with_reducible exact HB.out)))) : w.heap.size ≤ gb605)); have n4_ := Aside0.mk ((by rw [hg]; exact (below_size (by repeat ((with_reducible exact HB.out)))) : w.heap.size ≤ gb605)); have n5_ := Aside0.mk ((by rw [hg]; exact Nat.ne_of_lt (blk_lt (g := gb604) (o := .cells #[.int .i64 a0_0, .int .i64 a0_1, .slice A0_2 l0_2.length c0_2] 24 (0, 0)) (by (with_reducible repeat (fail)); exact BK604.out)) : gb604 ≠ gb605)); have n6_ := Aside0.mk ((by rw [hg]; exact Nat.ne_of_gt (blk_lt (g := gb604) (o := .cells #[.int .i64 a0_0, .int .i64 a0_1, .slice A0_2 l0_2.length c0_2] 24 (0, 0)) (by (with_reducible repeat (fail)); exact BK604.out)) : gb605 ≠ gb604)); clear BK604; clear HB; have BK604 := n0_; have HB := n1_; have BK605 := n2_; have GW605 := n3_; have GE605 := n4_; have NB604_605 := n5_; have NB605_604 := n6_; clear n0_ n1_ n2_ n3_ n4_ n5_ n6_; clear hb hbox hg; have hnb6 := NB604_605.out; have hnc6 := NB605_604.out; have hcz7_0 : w5.cell? ⟨gb604, 0, none⟩ = some (.int .i64 a0_0) := (blk_cell BK604.out 0).trans rfl; have hcz7_1 : w5.cell? ⟨gb604, 1, none⟩ = some (.int .i64 a0_1) := (blk_cell BK604.out 1).trans rfl; have hcz7_2 : w5.cell? ⟨gb604, 2, none⟩ = some (.slice A0_2 l0_2.length c0_2) := (blk_cell BK604.out 2).trans rfl; have hfz7_0 := blk_frozen BK604.out 0; have hfz7_1 := blk_frozen BK604.out 1; have hfz7_2 := blk_frozen BK604.out 2) | ((with_reducible refine gate_callee (f := 41) rfl ?_); refine goesL_ (some 7) rfl rfl Try.func41 (by kernel_rfl) rfl #[.agg #[.int .i64 a0_0, .int .i64 a0_1, .slice A0_2 l0_2.length c0_2]] rfl (by (try simp only [List.map_toArray, List.map_cons, List.map_nil]); rfl) ?_; (with_reducible refine (barscanref31_Valid.calls a0_0 a0_1 _ _ l0_2 true _ ?side1 ?side2 A2.out).mono ?_); (case side1 => repeat ((exact (Kd.C_below HR0_2.out HB.out)))); (case side2 => exact HC0_2.out); rintro e w8 ⟨rfl, hb⟩; refine ⟨_, rfl, ?_⟩; have n0_ := Aside0.mk (blk_below (g := gb604) (o := .cells #[.int .i64 a0_0, .int .i64 a0_1, .slice A0_2 l0_2.length c0_2] 24 (0, 0)) (by (with_reducible repeat (fail)); exact BK604.out) hb); have n1_ := Aside0.mk (blk_below (g := gb605) (o := .cells #[.int .i64 0, .int .i64 0, .slice none 0 0] 24 (0, 0)) (by (with_reducible repeat (fail)); exact BK605.out) hb); have n2_ := Aside0.mk (below_step (by repeat ((with_reducible exact HB.out))) hb); clear BK604; clear BK605; clear HB; have BK604 := n0_; have BK605 := n1_; have HB := n2_; clear n0_ n1_ n2_; (try clear hb); (try clear hb2); (try clear hk); (try clear hi); have hcz9_0 : w8.cell? ⟨gb604, 0, none⟩ = some (.int .i64 a0_0) := (blk_cell BK604.out 0).trans rfl; have hcz9_1 : w8.cell? ⟨gb604, 1, none⟩ = some (.int .i64 a0_1) := (blk_cell BK604.out 1).trans rfl; have hcz9_2 : w8.cell? ⟨gb604, 2, none⟩ = some (.slice A0_2 l0_2.length c0_2) := (blk_cell BK604.out 2).trans rfl; have hfz9_0 := blk_frozen BK604.out 0; have hfz9_1 := blk_frozen BK604.out 1; have hfz9_2 := blk_frozen BK604.out 2) | ((with_reducible refine gate_dst (N := 4) rfl ?_); refine box_event ?hg (N := 4) ?hd (cs := #[.int .i64 0, .int .i64 0, .slice none 0 0]) (t := 24) ?hr ?_; (case hd => rfl); (case hg => rfl); (case hr => (go_simp; done)); intro gb607 hg w10 hbox hb; have n0_ := Aside0.mk (blk_below (g := gb604) (o := .cells #[.int .i64 a0_0, .int .i64 a0_1, .slice A0_2 l0_2.length c0_2] 24 (0, 0)) (by (with_reducible repeat (fail)); exact BK604.out) hb); have n1_ := Aside0.mk (blk_below (g := gb605) (o := .cells #[.int .i64 0, .int .i64 0, .slice none 0 0] 24 (0, 0)) (by (with_reducible repeat (fail)); exact BK605.out) hb); have n2_ := Aside0.mk (below_step (by repeat ((with_reducible exact HB.out))) hb); have n3_ := Aside0.mk (hbox); have n4_ := Aside0.mk ((by rw [hg]; exact (below_size (by repeat ((with_reducible exact HB.out)))) : w.heap.size ≤ gb607)); have n5_ := Aside0.mk ((by rw [hg]; exact (below_size (by repeat ((with_reducible exact HB.out)))) : w.heap.size ≤ gb607)); have n6_ := Aside0.mk ((by rw [hg]; exact Nat.ne_of_lt (blk_lt (g := gb604) (o := .cells #[.int .i64 a0_0, .int .i64 a0_1, .slice A0_2 l0_2.length c0_2] 24 (0, 0)) (by (with_reducible repeat (fail)); exact BK604.out)) : gb604 ≠ gb607)); have n7_ := Aside0.mk ((by rw [hg]; exact Nat.ne_of_gt (blk_lt (g := gb604) (o := .cells #[.int .i64 a0_0, .int .i64 a0_1, .slice A0_2 l0_2.length c0_2] 24 (0, 0)) (by (with_reducible repeat (fail)); exact BK604.out)) : gb607 ≠ gb604)); have n8_ := Aside0.mk ((by rw [hg]; exact Nat.ne_of_lt (blk_lt (g := gb605) (o := .cells #[.int .i64 0, .int .i64 0, .slice none 0 0] 24 (0, 0)) (by (with_reducible repeat (fail)); exact BK605.out)) : gb605 ≠ gb607)); have n9_ := Aside0.mk ((by rw [hg]; exact Nat.ne_of_gt (blk_lt (g := gb605) (o := .cells #[.int .i64 0, .int .i64 0, .slice none 0 0] 24 (0, 0)) (by (with_reducible repeat (fail)); exact BK605.out)) : gb607 ≠ gb605)); clear BK604; clear BK605; clear HB; have BK604 := n0_; have BK605 := n1_; have HB := n2_; have BK607 := n3_; have GW607 := n4_; have GE607 := n5_; have NB604_607 := n6_; have NB607_604 := n7_; have NB605_607 := n8_; have NB607_605 := n9_; clear n0_ n1_ n2_ n3_ n4_ n5_ n6_ n7_ n8_ n9_; clear hb hbox hg; have hnb11 := NB607_604.out; have hnc11 := NB604_607.out; have hnb12 := NB607_605.out; have hnc12 := NB605_607.out; have hcz13_0 : w10.cell? ⟨gb607, 0, none⟩ = some (.int .i64 0) := (blk_cell BK607.out 0).trans rfl; have hcz13_1 : w10.cell? ⟨gb607, 1, none⟩ = some (.int .i64 0) := (blk_cell BK607.out 1).trans rfl; have hcz13_2 : w10.cell? ⟨gb607, 2, none⟩ = some (.slice none 0 0) := (blk_cell BK607.out 2).trans rfl; have hfz13_0 := blk_frozen BK607.out 0; have hfz13_1 := blk_frozen BK607.out 1; have hfz13_2 := blk_frozen BK607.out 2))
    go_loopg [5] k (fun kq v5 w' => ∃ (x5_1 : Int) (x608002_1 : List Bool) (u608002 : Value), v5 = .int .i64 x5_1 ∧ Aside0 (barscanref31_Mirror.l0 kq x5_1 a0_0 a0_1 l0_2 a0_0 a0_1 x608002_1 = some (r1, r2, r3, r4)) ∧ Aside0 (kq ≤ k) ∧ Aside0 (Kd.R Kd.bool 4 w' w.heap.size (fun _ => True) u608002 x608002_1) ∧ Aside0 (w'.heap[gb604]? = some (.cells #[.int .i64 a0_0, .int .i64 a0_1, (.slice A0_2 l0_2.length c0_2)] 24 (0, 0))) ∧ Aside0 (w'.heap[gb605]? = some (.cells #[.int .i64 0, .int .i64 0, (.slice none 0 0)] 24 (0, 0))) ∧ Aside0 (w'.heap[gb607]? = some (.cells #[.int .i64 a0_0, .int .i64 a0_1, u608002] 24 (0, 0))) ∧ Aside0 (Below w.heap.size w w'))
    case atStart => exact ⟨(0), (([] : List Bool)), (.slice none 0 0), (by rfl), H', ⟨Nat.le_refl _⟩, ⟨by exact Kd.R_nil _ _ _ _ _⟩, ⟨by (with_reducible repeat (fail)); refine blk_far ?_ NB604_607.out _; (with_reducible repeat (fail)); refine blk_far ?_ NB604_607.out _; (with_reducible repeat (fail)); refine blk_far ?_ NB604_607.out _; (with_reducible repeat (fail)); exact BK604.out⟩, ⟨by (with_reducible repeat (fail)); refine blk_far ?_ NB605_607.out _; (with_reducible repeat (fail)); refine blk_far ?_ NB605_607.out _; (with_reducible repeat (fail)); refine blk_far ?_ NB605_607.out _; (with_reducible repeat (fail)); exact BK605.out⟩, ⟨by (with_reducible repeat (fail)); refine blk_put (cs := #[.int .i64 a0_0, .int .i64 a0_1, .slice none 0 0]) ?_ 2 _ rfl; (with_reducible repeat (fail)); refine blk_put (cs := #[.int .i64 a0_0, .int .i64 0, .slice none 0 0]) ?_ 1 _ rfl; (with_reducible repeat (fail)); refine blk_put (cs := #[.int .i64 0, .int .i64 0, .slice none 0 0]) ?_ 0 _ rfl; (with_reducible repeat (fail)); exact BK607.out⟩, ⟨by repeat ((with_reducible first | exact HB.out | refine below_set ?_ GE607.out))⟩⟩
    case round =>
      clear H' hcz13_0 hcz13_1 hcz13_2 hcz7_0 hcz7_1 hcz7_2 hcz9_0 hcz9_1 hcz9_2 hfz13_0 hfz13_1 hfz13_2 hfz7_0 hfz7_1 hfz7_2 hfz9_0 hfz9_1 hfz9_2
      obtain ⟨x5_1, x608002_1, u608002, rfl, HA, HK1, HO_608002, BK604, BK605, BK607, HB⟩ := hrel
      cases gk with
      | zero => exact absurd HA.out (by simp [barscanref31_Mirror.l0])
      | succ k1 =>
        have H := HA.out
        clear HA
        simp only [barscanref31_Mirror.l0] at H
        by_cases c14 : x5_1 < (l0_2.length : Int)
        · rw [if_pos c14] at H
          have c14b0 : decide (x5_1 < (l0_2.length : Int)) = true := decide_eq_true c14
          clear c14
          by_cases c15 : a0_0 = 0
          · rw [if_pos c15] at H
            exact absurd H (by simp)
          · rw [if_neg c15] at H
            have c15b0 : (a0_0 == 0) = false := beq_eq_false_iff_ne.mpr c15
            have c15b1 : (a0_0 != 0) = true := bne_iff_ne.mpr c15
            replace H := Option.bind_eq_some_iff.mp H
            obtain ⟨t608, A160, H⟩ := H
            replace H : (if x608002_1.length < 140737488355328 then (barscanref31_Mirror.l0 k1 (wrap64 (x5_1 + 1)) a0_0 a0_1 l0_2 a0_0 a0_1 (x608002_1 ++ [t608])) else (none)) = some (r1, r2, r3, r4) := H
            have A16 := Aside0.mk A160
            clear A160
            by_cases c17 : x608002_1.length < 140737488355328
            · rw [if_pos c17] at H
              have LMc17 := Aside0.mk c17
              clear c17
              obtain ⟨y609, hy609⟩ : ∃ y_ : List Bool, y_ = (x608002_1 ++ [t608]) := ⟨_, rfl⟩
              replace H : (barscanref31_Mirror.l0 k1 (wrap64 (x5_1 + 1)) a0_0 a0_1 l0_2 a0_0 a0_1 y609) = some (r1, r2, r3, r4) := by (rw [hy609]; with_reducible exact H)
              have Ny609 := Aside0.mk hy609
              clear hy609
              have H' := Aside0.mk H
              clear H
              have hnb18 := NB604_605.out
              have hnc18 := NB605_604.out
              have hnb19 := NB604_607.out
              have hnc19 := NB607_604.out
              have hcz20_0 : wr.cell? ⟨gb604, 0, none⟩ = some (.int .i64 a0_0) := (blk_cell BK604.out 0).trans rfl
              have hcz20_1 : wr.cell? ⟨gb604, 1, none⟩ = some (.int .i64 a0_1) := (blk_cell BK604.out 1).trans rfl
              have hcz20_2 : wr.cell? ⟨gb604, 2, none⟩ = some (.slice A0_2 l0_2.length c0_2) := (blk_cell BK604.out 2).trans rfl
              have hfz20_0 := blk_frozen BK604.out 0
              have hfz20_1 := blk_frozen BK604.out 1
              have hfz20_2 := blk_frozen BK604.out 2
              try go_wp2
              have n0_ := Aside0.mk (Kd.R_drew HO_608002.out)
              have n1_ := Aside0.mk (blk_drew BK604.out)
              have n2_ := Aside0.mk (blk_drew BK605.out)
              have n3_ := Aside0.mk (blk_drew BK607.out)
              have n4_ := Aside0.mk (below_drew1 HB.out)
              clear HO_608002 BK604 BK605 BK607 HB
              have HO_608002 := n0_
              have BK604 := n1_
              have BK605 := n2_
              have BK607 := n3_
              have HB := n4_
              clear n0_ n1_ n2_ n3_ n4_
              refine start_ (n := 20) (S := fun w' => w'.cell? ⟨gb607, 0, none⟩ = some (.int .i64 a0_0) ∧ w'.cell? ⟨gb607, 1, none⟩ = some (.int .i64 a0_1) ∧ w'.cell? ⟨gb607, 2, none⟩ = some (u608002) ∧ w'.cell? ⟨gb604, 0, none⟩ = some (.int .i64 a0_0) ∧ w'.cell? ⟨gb604, 1, none⟩ = some (.int .i64 a0_1) ∧ w'.cell? ⟨gb604, 2, none⟩ = some (.slice A0_2 l0_2.length c0_2)) (ds := [19]) #[false, false, false, false, false, false, false, false, false, false, false, false, false, false, false, false, false, false, false, false] (by kernel_rfl) rfl rfl ⟨(blk_cell BK607.out 0).trans rfl, (blk_cell BK607.out 1).trans rfl, (blk_cell BK607.out 2).trans rfl, (blk_cell BK604.out 0).trans rfl, (blk_cell BK604.out 1).trans rfl, (blk_cell BK604.out 2).trans rfl⟩ (fun hHeld => ?_); refine with_tabW barscanref31_Mirror.tab7 barscanref31_Mirror.bits7 (fun HT_ HW_ => ?_)
              generalize wr.drew = w21 at HO_608002 BK604 BK605 BK607 HB hHeld ⊢
              refine pure_ (i := 0) (N := some 22) (v := ?_) (a' := ?_) #[true, false, false, false, false, false, false, false, false, false, false, false, false, false, false, false, false, false, false, false] rfl rfl (any_of HT_.out (by kernel_rfl)) (fun _ _ _ h => h) (Or.inl ⟨by rfl, ?_⟩) ?_ ?_
              rotate_left
              · intro w'
                go_simp
                with_reducible rfl
              rotate_left
              · simp only [Zs]
                rfl
              refine pure_ (i := 3) (N := some 25) (v := ?_) (a' := ?_) #[true, false, false, true, false, false, false, false, false, false, false, false, false, false, false, false, false, false, false, false] rfl rfl (any_of HT_.out (by kernel_rfl)) (fun _ _ _ h => h) (Or.inl ⟨by rfl, ?_⟩) ?_ ?_
              rotate_left
              · intro w'
                go_simp
                with_reducible rfl
              rotate_left
              · simp only [Zs]
                rfl
              refine pure_ (i := 6) (N := some 28) (v := ?_) (a' := ?_) #[true, false, false, true, false, false, true, false, false, false, false, false, false, false, false, false, false, false, false, false] rfl rfl (any_of HT_.out (by kernel_rfl)) (fun _ _ _ h => h) (Or.inl ⟨by rfl, ?_⟩) ?_ ?_
              rotate_left
              · intro w'
                go_simp
                with_reducible rfl
              rotate_left
              · simp only [Zs]
                rfl
              refine pure_ (i := 7) (N := some 29) (v := ?_) (a' := ?_) #[true, false, false, true, false, false, true, true, false, false, false, false, false, false, false, false, false, false, false, false] rfl rfl (any_of HT_.out (by kernel_rfl)) (fun _ _ _ h => h) (Or.inl ⟨by rfl, ?_⟩) ?_ ?_
              rotate_left
              · intro w'
                go_simp
                with_reducible rfl
              rotate_left
              · simp only [Zs]
                rfl
              refine pure_ (i := 11) (N := some 33) (v := ?_) (a' := ?_) #[true, false, false, true, false, false, true, true, false, false, false, true, false, false, false, false, false, false, false, false] rfl rfl (any_of HT_.out (by kernel_rfl)) (fun _ _ _ h => h) (Or.inl ⟨by rfl, ?_⟩) ?_ ?_
              rotate_left
              · intro w'
                go_simp
                with_reducible rfl
              rotate_left
              · simp only [Zs]
                rfl
              refine pure_ (i := 12) (N := some 34) (v := ?_) (a' := ?_) #[true, false, false, true, false, false, true, true, false, false, false, true, true, false, false, false, false, false, false, false] rfl rfl (any_of HT_.out (by kernel_rfl)) (fun _ _ _ h => h) (Or.inl ⟨by rfl, ?_⟩) ?_ ?_
              rotate_left
              · intro w'
                go_simp
                with_reducible rfl
              rotate_left
              · simp only [Zs]
                rfl
              refine take_ (i := 1) (N := some 23) (v := ?_) (a' := ?_) #[true, true, false, true, false, false, true, true, false, false, false, true, true, false, false, false, false, false, false, false] rfl rfl (take_ofW HT_.out HW_.out (by kernel_rfl)) (fun _ _ _ h => h) (Or.inl ⟨by rfl, ?_⟩) hHeld ?_ ?_
              rotate_left
              · rintro w' ⟨s0, s1, s2, s3, s4, s5⟩
                go_simp
                with_reducible rfl
              rotate_left
              · simp only [Zs]
                rfl
              refine take_ (i := 2) (N := some 24) (v := ?_) (a' := ?_) #[true, true, true, true, false, false, true, true, false, false, false, true, true, false, false, false, false, false, false, false] rfl rfl (take_ofW HT_.out HW_.out (by kernel_rfl)) (fun _ _ _ h => h) (Or.inl ⟨by rfl, ?_⟩) hHeld ?_ ?_
              rotate_left
              · rintro w' ⟨s0, s1, s2, s3, s4, s5⟩
                go_simp
                with_reducible rfl
              rotate_left
              · simp only [Zs]
                rfl
              refine take_ (i := 4) (N := some 26) (v := ?_) (a' := ?_) #[true, true, true, true, true, false, true, true, false, false, false, true, true, false, false, false, false, false, false, false] rfl rfl (take_ofW HT_.out HW_.out (by kernel_rfl)) (fun _ _ _ h => h) (Or.inl ⟨by rfl, ?_⟩) hHeld ?_ ?_
              rotate_left
              · rintro w' ⟨s0, s1, s2, s3, s4, s5⟩
                go_simp
                with_reducible rfl
              rotate_left
              · simp only [Zs]
                rfl
              refine pure_ (i := 5) (N := some 27) (v := ?_) (a' := ?_) #[true, true, true, true, true, true, true, true, false, false, false, true, true, false, false, false, false, false, false, false] rfl rfl (any_of HT_.out (by kernel_rfl)) (fun _ _ _ h => h) (Or.inl ⟨by rfl, ?_⟩) ?_ ?_
              rotate_left
              · intro w'
                go_simp
                with_reducible rfl
              rotate_left
              · simp only [Zs]
                rfl
              refine take_ (i := 8) (N := some 30) (v := ?_) (a' := ?_) #[true, true, true, true, true, true, true, true, true, false, false, true, true, false, false, false, false, false, false, false] rfl rfl (take_ofW HT_.out HW_.out (by kernel_rfl)) (fun _ _ _ h => h) (Or.inl ⟨by rfl, ?_⟩) hHeld ?_ ?_
              rotate_left
              · rintro w' ⟨s0, s1, s2, s3, s4, s5⟩
                go_simp
                with_reducible rfl
              rotate_left
              · simp only [Zs]
                rfl
              refine pure_ (i := 9) (N := some 31) (v := ?_) (a' := ?_) #[true, true, true, true, true, true, true, true, true, true, false, true, true, false, false, false, false, false, false, false] rfl rfl (any_of HT_.out (by kernel_rfl)) (fun _ _ _ h => h) (Or.inl ⟨by rfl, ?_⟩) ?_ ?_
              rotate_left
              · intro w'
                go_simp
                with_reducible rfl
              rotate_left
              · simp only [Zs]
                rfl
              refine pure_ (i := 10) (N := some 32) (v := ?_) (a' := ?_) #[true, true, true, true, true, true, true, true, true, true, true, true, true, false, false, false, false, false, false, false] rfl rfl (any_of HT_.out (by kernel_rfl)) (fun _ _ _ h => h) (Or.inl ⟨by rfl, ?_⟩) ?_ ?_
              rotate_left
              · intro w'
                go_simp
                with_reducible rfl
              rotate_left
              · simp only [Zs]
                rfl
              refine take_ (i := 13) (N := some 35) (v := ?_) (a' := ?_) #[true, true, true, true, true, true, true, true, true, true, true, true, true, true, false, false, false, false, false, false] rfl rfl (take_ofW HT_.out HW_.out (by kernel_rfl)) (fun _ _ _ h => h) (Or.inl ⟨by rfl, ?_⟩) hHeld ?_ ?_
              rotate_left
              · rintro w' ⟨s0, s1, s2, s3, s4, s5⟩
                go_simp
                with_reducible rfl
              rotate_left
              · simp only [Zs]
                rfl
              refine pure_ (i := 14) (N := some 36) (v := ?_) (a' := ?_) #[true, true, true, true, true, true, true, true, true, true, true, true, true, true, true, false, false, false, false, false] rfl rfl (any_of HT_.out (by kernel_rfl)) (fun _ _ _ h => h) (Or.inl ⟨by rfl, ?_⟩) ?_ ?_
              rotate_left
              · intro w'
                go_simp
                with_reducible rfl
              rotate_left
              · simp only [Zs]
                rfl
              refine one_ (i := 15) (N := some 37) #[true, true, true, true, true, true, true, true, true, true, true, true, true, true, true, true, false, false, false, false] rfl rfl (one_of HT_.out (by kernel_rfl)) (by decide) (fun K hK => ?_)
              refine goes_ Try.func26 (by kernel_rfl) rfl #[.agg #[.int .i64 a0_0, .int .i64 a0_1, .slice A0_2 l0_2.length c0_2], .int .i64 (wrap64 ((wrap64 (a0_0 - 1)) - (Int.tmod x5_1 a0_0))), .int .i64 (wrap64 (Int.tdiv x5_1 a0_0))] (by rfl) rfl rfl (by (try simp only [List.map_toArray, List.map_cons, List.map_nil]); rfl) ?_
              with_reducible refine (barscanref31_At.calls a0_0 a0_1 _ _ l0_2 (wrap64 ((wrap64 (a0_0 - 1)) - (Int.tmod x5_1 a0_0))) (wrap64 (Int.tdiv x5_1 a0_0)) t608 _ ?side1 ?side2 A16.out).mono ?_
              (case side1 => repeat ((exact (Kd.C_below HR0_2.out HB.out))))
              (case side2 => exact HC0_2.out)
              rintro e w22 ⟨rfl, hb⟩
              refine ⟨_, rfl, ?_⟩
              have n0_ := Aside0.mk (Kd.R_below (by (with_reducible repeat (fail)); exact HO_608002.out) hb)
              have n1_ := Aside0.mk (blk_below (g := gb604) (o := .cells #[.int .i64 a0_0, .int .i64 a0_1, .slice A0_2 l0_2.length c0_2] 24 (0, 0)) (by (with_reducible repeat (fail)); exact BK604.out) hb)
              have n2_ := Aside0.mk (blk_below (g := gb605) (o := .cells #[.int .i64 0, .int .i64 0, .slice none 0 0] 24 (0, 0)) (by (with_reducible repeat (fail)); exact BK605.out) hb)
              have n3_ := Aside0.mk (blk_below (g := gb607) (o := .cells #[.int .i64 a0_0, .int .i64 a0_1, u608002] 24 (0, 0)) (by (with_reducible repeat (fail)); exact BK607.out) hb)
              have n4_ := Aside0.mk (below_step (by repeat ((with_reducible exact HB.out))) hb)
              clear HO_608002 BK604 BK605 BK607 HB
              have HO_608002 := n0_
              have BK604 := n1_
              have BK605 := n2_
              have BK607 := n3_
              have HB := n4_
              clear n0_ n1_ n2_ n3_ n4_
              (try clear hb)
              (try clear hb2)
              (try clear hk)
              (try clear hi)
              refine hK.out _ _ ⟨(blk_cell BK607.out 0).trans rfl, (blk_cell BK607.out 1).trans rfl, (blk_cell BK607.out 2).trans rfl, (blk_cell BK604.out 0).trans rfl, (blk_cell BK604.out 1).trans rfl, (blk_cell BK604.out 2).trans rfl⟩ (fun hHeld => ?_)
              clear hK K
              refine norm_ (a' := ?_) ?_ ?_
              rotate_left
              · show Act.put _ (some 37) _ = _
                simp only [Zs]
                rfl
              refine one_ (i := 16) (N := some 38) #[true, true, true, true, true, true, true, true, true, true, true, true, true, true, true, true, true, false, false, false] rfl rfl (one_of HT_.out (by kernel_rfl)) (by decide) (fun K hK => ?_)
              refine value_ (w1 := ?_) (v := ?_) (by rfl) rfl ?_ ?_
              rotate_left 2
              · go_simp
                constructor
                · rfl
                · rfl
              refine hK.out _ _ ⟨(blk_cell (blk_alloc BK607.out _) 0).trans rfl, (blk_cell (blk_alloc BK607.out _) 1).trans rfl, (blk_cell (blk_alloc BK607.out _) 2).trans rfl, (blk_cell (blk_alloc BK604.out _) 0).trans rfl, (blk_cell (blk_alloc BK604.out _) 1).trans rfl, (blk_cell (blk_alloc BK604.out _) 2).trans rfl⟩ (fun hHeld => ?_)
              clear hK K
              refine norm_ (a' := ?_) ?_ ?_
              rotate_left
              · show Act.put _ (some 38) _ = _
                simp only [Zs]
                rfl
              refine one_ (i := 17) (N := some 39) #[true, true, true, true, true, true, true, true, true, true, true, true, true, true, true, true, true, true, false, false] rfl rfl (one_of HT_.out (by kernel_rfl)) (by decide) (fun K hK => ?_)
              refine Kd.R_append_step Kd.bool (w0 := w) w.heap.size (by rfl) (.tmp 23) (.tmp 38) 22 4 (.bool false) 1 rfl Try.underlying22 info4 rfl (by decide) (by omega) u608002 x608002_1 t608 [.bool t608] (fun _ => True) (fun _ => False) rfl rfl ?aP (fun _ hk => hk.elim) ?aF ?aO ?aB ?aS ?aL ?_
              (case aP => exact rfl)
              (case aB => exact (by repeat ((with_reducible exact HB.out))))
              (case aF => exact (fun _ _ => trivial))
              (case aO => exact (by (with_reducible repeat (fail)); exact HO_608002.out))
              (case aS => exact (below_size (by repeat ((with_reducible exact HB.out)))))
              (case aL => have := LMc17.out; omega)
              intro v610 w23 ho hb hg hat
              rw [← Ny609.out] at ho
              have n0_ := Aside0.mk (blk_grown (g := gb604) (o := .cells #[.int .i64 a0_0, .int .i64 a0_1, .slice A0_2 l0_2.length c0_2] 24 (0, 0)) (by (with_reducible repeat (fail)); exact BK604.out) hg (Kd.R_ne HO_608002.out BK604.out (by decide)))
              have n1_ := Aside0.mk (blk_grown (g := gb605) (o := .cells #[.int .i64 0, .int .i64 0, .slice none 0 0] 24 (0, 0)) (by (with_reducible repeat (fail)); exact BK605.out) hg (Kd.R_ne HO_608002.out BK605.out (by decide)))
              have n2_ := Aside0.mk (blk_grown (g := gb607) (o := .cells #[.int .i64 a0_0, .int .i64 a0_1, u608002] 24 (0, 0)) (by (with_reducible repeat (fail)); exact BK607.out) hg (Kd.R_ne HO_608002.out BK607.out (by decide)))
              have n3_ := Aside0.mk (hb)
              have n4_ := Aside0.mk (ho)
              clear BK604 BK605 BK607 HB HO_608002
              have BK604 := n0_
              have BK605 := n1_
              have BK607 := n2_
              have HB := n3_
              have HO611 := n4_
              clear n0_ n1_ n2_ n3_ n4_ ho hb hg hat
              obtain ⟨Ao24, co24, eo24⟩ := Kd.R_slice HO611.out
              (subst eo24)
              refine hK.out _ _ ⟨(blk_cell BK607.out 0).trans rfl, (blk_cell BK607.out 1).trans rfl, (blk_cell BK607.out 2).trans rfl, (blk_cell BK604.out 0).trans rfl, (blk_cell BK604.out 1).trans rfl, (blk_cell BK604.out 2).trans rfl⟩ (fun hHeld => ?_)
              clear hK K
              refine norm_ (a' := ?_) ?_ ?_
              rotate_left
              · show Act.put _ (some 39) _ = _
                simp only [Zs]
                rfl
              refine pure_ (i := 18) (N := some 40) (v := ?_) (a' := ?_) #[true, true, true, true, true, true, true, true, true, true, true, true, true, true, true, true, true, true, true, false] rfl rfl (any_of HT_.out (by kernel_rfl)) (fun _ _ _ h => h) (Or.inl ⟨by rfl, ?_⟩) ?_ ?_
              rotate_left
              · intro w'
                go_simp
                with_reducible rfl
              rotate_left
              · simp only [Zs]
                rfl
              refine last_ (i := 19) (N := none) #[true, true, true, true, true, true, true, true, true, true, true, true, true, true, true, true, true, true, true, true] rfl rfl (one_of HT_.out (by kernel_rfl)) (by decide) (fun K hK => ?_)
              have hs25 : w23.cell? ⟨gb607, 2, none⟩ = some (u608002) := (blk_cell BK607.out 2).trans rfl
              have hfs25 := blk_frozen BK607.out 2
              have hns25_0 := NB604_607.out
              have hns25_1 := NB605_607.out
              have hms25_0 := NB607_604.out
              have hms25_1 := NB607_605.out
              refine skip_ (w1 := ?_) (by rfl) rfl ?_ ?_
              rotate_left
              · go_simp
                rfl
              refine hK.out _ _ ?_
              clear hK K
              refine done_ (done_of HT_.out (by kernel_rfl)) ?_
              try go_wp2
              go_roundg k1
              case measure => have := HK1.out; omega
              case rel => exact ⟨(wrap64 (x5_1 + 1)), (y609), (.slice Ao24 y609.length co24), (by rfl), H', ⟨by have := HK1.out; omega⟩, ⟨by (with_reducible repeat (fail)); exact Kd.R_mono (Kd.R_far (p := ⟨gb607, 2, none⟩) (Kd.R_types HO611.out BK607.out (by decide)) (fun _ hk => hk.2) (.slice Ao24 y609.length co24)) (fun _ hk => trivial)⟩, ⟨by (with_reducible repeat (fail)); refine blk_far ?_ NB604_607.out _; (with_reducible repeat (fail)); exact BK604.out⟩, ⟨by (with_reducible repeat (fail)); refine blk_far ?_ NB605_607.out _; (with_reducible repeat (fail)); exact BK605.out⟩, ⟨by (with_reducible repeat (fail)); refine blk_put (cs := #[.int .i64 a0_0, .int .i64 a0_1, u608002]) ?_ 2 _ rfl; (with_reducible repeat (fail)); exact BK607.out⟩, ⟨by repeat ((with_reducible first | exact HB.out | refine below_set ?_ GE607.out))⟩⟩
            · rw [if_neg c17] at H
              exact absurd H (by simp)
        · rw [if_neg c14] at H
          have c14b0 : decide (x5_1 < (l0_2.length : Int)) = false := decide_eq_false c14
          clear c14
          simp only [Option.some.injEq, Prod.mk.injEq] at H
          obtain ⟨rfl, rfl, rfl, rfl⟩ := H
          have hnb26 := NB604_605.out
          have hnc26 := NB605_604.out
          have hnb27 := NB604_607.out
          have hnc27 := NB607_604.out
          have hcz28_0 : wr.cell? ⟨gb604, 0, none⟩ = some (.int .i64 a0_0) := (blk_cell BK604.out 0).trans rfl
          have hcz28_1 : wr.cell? ⟨gb604, 1, none⟩ = some (.int .i64 a0_1) := (blk_cell BK604.out 1).trans rfl
          have hcz28_2 : wr.cell? ⟨gb604, 2, none⟩ = some (.slice A0_2 l0_2.length c0_2) := (blk_cell BK604.out 2).trans rfl
          have hfz28_0 := blk_frozen BK604.out 0
          have hfz28_1 := blk_frozen BK604.out 1
          have hfz28_2 := blk_frozen BK604.out 2
          have hnb29 := NB607_605.out
          have hnc29 := NB605_607.out
          have hcz30_0 : wr.cell? ⟨gb607, 0, none⟩ = some (.int .i64 a0_0) := (blk_cell BK607.out 0).trans rfl
          have hcz30_1 : wr.cell? ⟨gb607, 1, none⟩ = some (.int .i64 a0_1) := (blk_cell BK607.out 1).trans rfl
          have hcz30_2 : wr.cell? ⟨gb607, 2, none⟩ = some (u608002) := (blk_cell BK607.out 2).trans rfl
          have hfz30_0 := blk_frozen BK607.out 0
          have hfz30_1 := blk_frozen BK607.out 1
          have hfz30_2 := blk_frozen BK607.out 2
          have hcz31_0 : wr.cell? ⟨gb605, 0, none⟩ = some (.int .i64 0) := (blk_cell BK605.out 0).trans rfl
          have hcz31_1 : wr.cell? ⟨gb605, 1, none⟩ = some (.int .i64 0) := (blk_cell BK605.out 1).trans rfl
          have hcz31_2 : wr.cell? ⟨gb605, 2, none⟩ = some (.slice none 0 0) := (blk_cell BK605.out 2).trans rfl
          have hfz31_0 := blk_frozen BK605.out 0
          have hfz31_1 := blk_frozen BK605.out 1
          have hfz31_2 := blk_frozen BK605.out 2
          obtain ⟨Ao32, co32, eo32⟩ := Kd.R_slice HO_608002.out
          subst eo32
          go_wp2
          refine bodyPost_ret (results_ct rfl _ _ gb605 24 #[.int .i64 a0_0, .int .i64 a0_1, .slice Ao32 x608002_1.length co32] (0, 0) _ rfl (by (with_reducible repeat (fail)); refine blk_put (cs := #[.int .i64 a0_0, .int .i64 a0_1, .slice none 0 0]) ?_ 2 _ rfl; (with_reducible repeat (fail)); refine blk_put (cs := #[.int .i64 a0_0, .int .i64 0, .slice none 0 0]) ?_ 1 _ rfl; (with_reducible repeat (fail)); refine blk_put (cs := #[.int .i64 0, .int .i64 0, .slice none 0 0]) ?_ 0 _ rfl; (with_reducible repeat (fail)); exact BK605.out) Try.underlying24 rfl (by kernel_rfl)) rfl ?_
          exact ⟨_, by rfl, by (with_reducible repeat (fail)); exact Kd.R_mono (Kd.R_far (p := ⟨gb605, 2, none⟩) (Kd.R_far (p := ⟨gb605, 1, none⟩) (Kd.R_far (p := ⟨gb605, 0, none⟩) (Kd.R_types HO_608002.out BK605.out (by decide)) (fun _ hk => hk.2) (.int .i64 a0_0)) (fun _ hk => hk.2) (.int .i64 a0_1)) (fun _ hk => hk.2) (.slice Ao32 x608002_1.length co32)) (fun _ hk => trivial), by repeat ((with_reducible first | exact HB.out | refine below_set ?_ GE605.out))⟩
  · replace c3 := Bool.eq_false_iff.mpr c3
    subst c3
    have H1 : (some (0, 0, ([] : List Bool), 1)) = some (r1, r2, r3, r4) := by rw [if_neg (show ¬ (false = true) by decide)] at H; exact H
    clear H
    have H := H1
    clear H1
    simp only [Option.some.injEq, Prod.mk.injEq] at H
    obtain ⟨rfl, rfl, rfl, rfl⟩ := H
    go_enter Try.func29, Try.ntmps29
    go_wp2_with (first | ((with_reducible refine gate_dst (N := 1) rfl ?_); refine box_event ?hg (N := 1) ?hd (cs := #[.int .i64 a0_0, .int .i64 a0_1, .slice A0_2 l0_2.length c0_2]) (t := 24) ?hr ?_; (case hd => rfl); (case hg => rfl); (case hr => (go_simp; done)); intro gb604 hg w33 hbox hb; have n0_ := Aside0.mk (below_step (by repeat ((with_reducible exact HB.out))) hb); have n1_ := Aside0.mk (hbox); have n2_ := Aside0.mk ((by rw [hg]; exact (below_size (by repeat ((with_reducible exact HB.out)))) : w.heap.size ≤ gb604)); have n3_ := Aside0.mk ((by rw [hg]; exact (below_size (by repeat ((with_reducible exact HB.out)))) : w.heap.size ≤ gb604)); clear HB; have HB := n0_; have BK604 := n1_; have GW604 := n2_; have GE604 := n3_; clear n0_ n1_ n2_ n3_; clear hb hbox hg) | ((with_reducible refine gate_dst (N := 2) rfl ?_); refine box_event ?hg (N := 2) ?hd (cs := #[.int .i64 0, .int .i64 0, .slice none 0 0]) (t := 24) ?hr ?_; (case hd => rfl); (case hg => rfl); (case hr => (go_simp; done)); intro gb605 hg w34 hbox hb; have n0_ := Aside0.mk (blk_below (g := gb604) (o := .cells #[.int .i64 a0_0, .int .i64 a0_1, .slice A0_2 l0_2.length c0_2] 24 (0, 0)) (by (with_reducible repeat (fail)); exact BK604.out) hb); have n1_ := Aside0.mk (below_step (by repeat ((with_reducible exact HB.out))) hb); have n2_ := Aside0.mk (hbox); have n3_ := Aside0.mk ((by rw [hg]; exact (below_size (by repeat ((with_reducible exact HB.out)))) : w.heap.size ≤ gb605)); have n4_ := Aside0.mk ((by rw [hg]; exact (below_size (by repeat ((with_reducible exact HB.out)))) : w.heap.size ≤ gb605)); have n5_ := Aside0.mk ((by rw [hg]; exact Nat.ne_of_lt (blk_lt (g := gb604) (o := .cells #[.int .i64 a0_0, .int .i64 a0_1, .slice A0_2 l0_2.length c0_2] 24 (0, 0)) (by (with_reducible repeat (fail)); exact BK604.out)) : gb604 ≠ gb605)); have n6_ := Aside0.mk ((by rw [hg]; exact Nat.ne_of_gt (blk_lt (g := gb604) (o := .cells #[.int .i64 a0_0, .int .i64 a0_1, .slice A0_2 l0_2.length c0_2] 24 (0, 0)) (by (with_reducible repeat (fail)); exact BK604.out)) : gb605 ≠ gb604)); clear BK604; clear HB; have BK604 := n0_; have HB := n1_; have BK605 := n2_; have GW605 := n3_; have GE605 := n4_; have NB604_605 := n5_; have NB605_604 := n6_; clear n0_ n1_ n2_ n3_ n4_ n5_ n6_; clear hb hbox hg; have hnb35 := NB604_605.out; have hnc35 := NB605_604.out; have hcz36_0 : w34.cell? ⟨gb604, 0, none⟩ = some (.int .i64 a0_0) := (blk_cell BK604.out 0).trans rfl; have hcz36_1 : w34.cell? ⟨gb604, 1, none⟩ = some (.int .i64 a0_1) := (blk_cell BK604.out 1).trans rfl; have hcz36_2 : w34.cell? ⟨gb604, 2, none⟩ = some (.slice A0_2 l0_2.length c0_2) := (blk_cell BK604.out 2).trans rfl; have hfz36_0 := blk_frozen BK604.out 0; have hfz36_1 := blk_frozen BK604.out 1; have hfz36_2 := blk_frozen BK604.out 2) | ((with_reducible refine gate_callee (f := 41) rfl ?_); refine goesL_ (some 7) rfl rfl Try.func41 (by kernel_rfl) rfl #[.agg #[.int .i64 a0_0, .int .i64 a0_1, .slice A0_2 l0_2.length c0_2]] rfl (by (try simp only [List.map_toArray, List.map_cons, List.map_nil]); rfl) ?_; (with_reducible refine (barscanref31_Valid.calls a0_0 a0_1 _ _ l0_2 false _ ?side1 ?side2 A2.out).mono ?_); (case side1 => repeat ((exact (Kd.C_below HR0_2.out HB.out)))); (case side2 => exact HC0_2.out); rintro e w37 ⟨rfl, hb⟩; refine ⟨_, rfl, ?_⟩; have n0_ := Aside0.mk (blk_below (g := gb604) (o := .cells #[.int .i64 a0_0, .int .i64 a0_1, .slice A0_2 l0_2.length c0_2] 24 (0, 0)) (by (with_reducible repeat (fail)); exact BK604.out) hb); have n1_ := Aside0.mk (blk_below (g := gb605) (o := .cells #[.int .i64 0, .int .i64 0, .slice none 0 0] 24 (0, 0)) (by (with_reducible repeat (fail)); exact BK605.out) hb); have n2_ := Aside0.mk (below_step (by repeat ((with_reducible exact HB.out))) hb); clear BK604; clear BK605; clear HB; have BK604 := n0_; have BK605 := n1_; have HB := n2_; clear n0_ n1_ n2_; (try clear hb); (try clear hb2); (try clear hk); (try clear hi); have hcz38_0 : w37.cell? ⟨gb605, 0, none⟩ = some (.int .i64 0) := (blk_cell BK605.out 0).trans rfl; have hcz38_1 : w37.cell? ⟨gb605, 1, none⟩ = some (.int .i64 0) := (blk_cell BK605.out 1).trans rfl; have hcz38_2 : w37.cell? ⟨gb605, 2, none⟩ = some (.slice none 0 0) := (blk_cell BK605.out 2).trans rfl; have hfz38_0 := blk_frozen BK605.out 0; have hfz38_1 := blk_frozen BK605.out 1; have hfz38_2 := blk_frozen BK605.out 2))
    refine bodyPost_ret (results_ct rfl _ _ gb605 24 #[.int .i64 0, .int .i64 0, .slice none 0 0] (0, 0) _ rfl (by (with_reducible repeat (fail)); refine blk_put (cs := #[.int .i64 0, .int .i64 0, .slice none 0 0]) ?_ 2 _ rfl; (with_reducible repeat (fail)); refine blk_put (cs := #[.int .i64 0, .int .i64 0, .slice none 0 0]) ?_ 1 _ rfl; (with_reducible repeat (fail)); refine blk_put (cs := #[.int .i64 0, .int .i64 0, .slice none 0 0]) ?_ 0 _ rfl; (with_reducible repeat (fail)); exact BK605.out) Try.underlying24 rfl (by kernel_rfl)) rfl ?_
    exact ⟨_, by rfl, by exact Kd.R_nil _ _ _ _ _, by repeat ((with_reducible first | exact HB.out | refine below_set ?_ GE605.out))⟩

end Go.Proofs.Ytahibhipffojlaa.M
