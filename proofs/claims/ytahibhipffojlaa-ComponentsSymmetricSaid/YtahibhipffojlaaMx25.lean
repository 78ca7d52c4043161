-- Machine side, printed by this session's own program over the kit's print (wip/tools/myprint.py). Lean checks it.
import Derived.Test.YtahibhipffojlaaMx0
import Derived.Test.YtahibhipffojlaaMx6
import Derived.Test.YtahibhipffojlaaMx8
import Derived.Test.YtahibhipffojlaaMx11a
import Derived.Test.YtahibhipffojlaaMx21
import Derived.Test.YtahibhipffojlaaMx22
import Derived.Test.YtahibhipffojlaaMx23
import Derived.Test.YtahibhipffojlaaMx24
import Derived.Test.YtahibhipffojlaaEx
namespace Go.Proofs.Ytahibhipffojlaa.M
open Go.RowKit Go.Proofs.YtahibhipffojlaaW.PrintWords Go.Proofs.YtahibhipffojlaaW.PrintLast Go.Proofs.YtahibhipffojlaaW.PrintMore
attribute [local go_sem] max2_int min2_int max_two min_two max_three min_three max_four min_four   -- for this text's walks alone
set_option linter.unusedVariables false
set_option linter.unusedSimpArgs false

/-! ### barscanlaw38_ComponentsSymmetric: function 10 -/
mutual
def barscanlaw38_ComponentsSymmetric.j0 : Nat → Int → Bool → Int → Int → List Bool → Option (Bool)
  | 0, _, _, _, _, _ => none
  | k + 1, x1, x30, x658000, x658001, x658002 => if x30 = true then ((exHolds.f).bind fun t659 => (some t659)) else ((barscanref31_Turn.f k x658000 x658001 x658002 x1).bind fun bt660 => ((barscanref31_Mirror.f k bt660.1 bt660.2.1 bt660.2.2.1).bind fun bt667 => ((barscanref31_Enlarge.f k x658000 x658001 x658002 2).bind fun bt674 => ((barscanlaw38_areas.f k x658000 x658001 x658002).bind fun bt681 => ((barscanlaw38_areas.f k bt667.1 bt667.2.1 bt667.2.2.1).bind fun bt685 => ((barscanlaw38_areas.f k bt674.1 bt674.2.1 bt674.2.2.1).bind fun bt689 => ((components_Euler.f k x658000 x658001 x658002).bind fun bt693 => ((components_Euler.f k bt667.1 bt667.2.1 bt667.2.2.1).bind fun bt695 => (if bt681.2 = true then (if bt685.2 = true then (if bt689.2 = true then (if bt693.2 = 0 then (if bt695.2 = 0 then (if bt693.1 = bt695.1 then ((barscanlaw38_same.f k bt681.1 bt685.1).bind fun t697 => (if t697 = true then (barscanlaw38_ComponentsSymmetric.j1 k bt681.1 bt689.1 ((bt681.1.length : Int) != (bt689.1.length : Int))) else (barscanlaw38_ComponentsSymmetric.j1 k bt681.1 bt689.1 true))) else (barscanlaw38_ComponentsSymmetric.j1 k bt681.1 bt689.1 true)) else (barscanlaw38_ComponentsSymmetric.j1 k bt681.1 bt689.1 true)) else (barscanlaw38_ComponentsSymmetric.j1 k bt681.1 bt689.1 true)) else (barscanlaw38_ComponentsSymmetric.j1 k bt681.1 bt689.1 true)) else (barscanlaw38_ComponentsSymmetric.j1 k bt681.1 bt689.1 true)) else (barscanlaw38_ComponentsSymmetric.j1 k bt681.1 bt689.1 true))))))))))
def barscanlaw38_ComponentsSymmetric.j1 : Nat → List Int → List Int → Bool → Option (Bool)
  | 0, _, _, _ => none
  | k + 1, x11, x15, x108 => if x108 = true then (some false) else (barscanlaw38_ComponentsSymmetric.l0 k x11 x15 0)
def barscanlaw38_ComponentsSymmetric.l0 : Nat → List Int → List Int → Int → Option (Bool)
  | 0, _, _, _ => none
  | k + 1, x11, x15, x21 => if x21 < (x11.length : Int) then (if 0 ≤ x21 then (if x21 < (x15.length : Int) then (if (rd x15 x21) = (wrap64 (4 * (rd x11 x21))) then (barscanlaw38_ComponentsSymmetric.l0 k x11 x15 (wrap64 (x21 + 1))) else (some false)) else (none)) else (none)) else ((exHolds.f).bind fun t700 => (some t700))
end
def barscanlaw38_ComponentsSymmetric.f (k : Nat) (a0_0 : Int) (a0_1 : Int) (l0_2 : List Bool) (a1 : Int) : Option (Bool) := if (l0_2.length : Int) > 400 then (barscanlaw38_ComponentsSymmetric.j0 k a1 true a0_0 a0_1 l0_2) else ((barscanref31_Check.f a0_0 a0_1 l0_2).bind fun t658 => (barscanlaw38_ComponentsSymmetric.j0 k a1 (t658 != 0) a0_0 a0_1 l0_2))
theorem barscanlaw38_ComponentsSymmetric.mono_l : ∀ k, (∀ y0 y1 y2 y3 y4, LeO (barscanlaw38_ComponentsSymmetric.j0 k y0 y1 y2 y3 y4) (barscanlaw38_ComponentsSymmetric.j0 (k + 1) y0 y1 y2 y3 y4)) ∧ (∀ y0 y1 y2, LeO (barscanlaw38_ComponentsSymmetric.j1 k y0 y1 y2) (barscanlaw38_ComponentsSymmetric.j1 (k + 1) y0 y1 y2)) ∧ (∀ y0 y1 y2, LeO (barscanlaw38_ComponentsSymmetric.l0 k y0 y1 y2) (barscanlaw38_ComponentsSymmetric.l0 (k + 1) y0 y1 y2))
  | 0 => ⟨fun _ _ _ _ _ r h => by simp [barscanlaw38_ComponentsSymmetric.j0] at h, fun _ _ _ r h => by simp [barscanlaw38_ComponentsSymmetric.j1] at h, fun _ _ _ r h => by simp [barscanlaw38_ComponentsSymmetric.l0] at h⟩
  | k + 1 => by
    obtain ⟨ih0, ih1, ih2⟩ := barscanlaw38_ComponentsSymmetric.mono_l k
    refine ⟨?_, ?_, ?_⟩
    · intro y0 y1 y2 y3 y4
      unfold barscanlaw38_ComponentsSymmetric.j0
      repeat' first
      | (with_reducible exact ih1 _ _ _)
      | (with_reducible exact barscanlaw38_areas.mono _ _ _ _)
      | (with_reducible exact barscanlaw38_same.mono _ _ _)
      | (with_reducible exact barscanref31_Enlarge.mono _ _ _ _ _)
      | (with_reducible exact barscanref31_Mirror.mono _ _ _ _)
      | (with_reducible exact barscanref31_Turn.mono _ _ _ _ _)
      | (with_reducible exact components_Euler.mono _ _ _ _)
      | (with_reducible exact LeO.refl _)
      | (with_reducible refine LeO.ite ?_ ?_)
      | (with_reducible refine LeO.bind ?_ (fun _ => ?_))
    · intro y0 y1 y2
      unfold barscanlaw38_ComponentsSymmetric.j1
      repeat' first
      | (with_reducible exact ih2 _ _ _)
      | (with_reducible exact LeO.refl _)
      | (with_reducible refine LeO.ite ?_ ?_)
    · intro y0 y1 y2
      unfold barscanlaw38_ComponentsSymmetric.l0
      repeat' first
      | (with_reducible exact ih2 _ _ _)
      | (with_reducible exact LeO.refl _)
      | (with_reducible refine LeO.ite ?_ ?_)
theorem barscanlaw38_ComponentsSymmetric.mono : ∀ a0 a1 a2 a3 k, LeO (barscanlaw38_ComponentsSymmetric.f k a0 a1 a2 a3) (barscanlaw38_ComponentsSymmetric.f (k + 1) a0 a1 a2 a3) := by
  intro a0 a1 a2 a3 k
  obtain ⟨ih0, ih1, ih2⟩ := barscanlaw38_ComponentsSymmetric.mono_l k
  unfold barscanlaw38_ComponentsSymmetric.f
  repeat' first
      | (with_reducible exact ih0 _ _ _ _ _)
      | (with_reducible exact LeO.refl _)
      | (with_reducible refine LeO.ite ?_ ?_)
      | (with_reducible refine LeO.bind ?_ (fun _ => ?_))
set_option maxHeartbeats 8000000 in
set_option maxRecDepth 100000 in
theorem barscanlaw38_ComponentsSymmetric.calls (k : Nat) (a0_0 : Int) (a0_1 : Int) (A0_2 : Option Addr) (c0_2 : Nat) (l0_2 : List Bool) (a1 : Int) (w : World) (hr0_2 : Kd.C Kd.bool w A0_2 l0_2.length l0_2) (hc0_2 : l0_2.length ≤ c0_2) (h : barscanlaw38_ComponentsSymmetric.f k a0_0 a0_1 l0_2 a1 = some true) :
    Calls Try.prog 10 #[.agg #[.int .i64 a0_0, .int .i64 a0_1, .slice A0_2 l0_2.length c0_2], .int .i64 a1] w fun e w' => e = .returned (.bool true) ∧ Below w.heap.size w w' := by
  have hu24 := Try.underlying24
  have HR0_2 := Aside0.mk hr0_2
  have HC0_2 := Aside0.mk hc0_2
  clear hr0_2 hc0_2
  have HB := Aside0.mk (Below.refl w.heap.size w)
  have H : (if (l0_2.length : Int) > 400 then (barscanlaw38_ComponentsSymmetric.j0 k a1 true a0_0 a0_1 l0_2) else ((barscanref31_Check.f a0_0 a0_1 l0_2).bind fun t658 => (barscanlaw38_ComponentsSymmetric.j0 k a1 (t658 != 0) a0_0 a0_1 l0_2))) = some true := h
  clear h
  have HC3 := Aside0.mk H
  clear H
  go_enter Try.func10, Try.ntmps10
  go_upto_region 1 with (((with_reducible refine gate_dst (N := 2) rfl ?_); (try (refine gate_guard (by rfl) ?_; dsimp only)); refine box_event ?hg (N := 2) ?hd (cs := #[.int .i64 a0_0, .int .i64 a0_1, .slice A0_2 l0_2.length c0_2]) (t := 24) ?hr ?_; (case hd => rfl); (case hg => rfl); (case hr => (go_simp; done)); intro gb657 hg w4 hbox hb; have n0_ := Aside0.mk (below_step (by repeat ((with_reducible exact HB.out))) hb); have n1_ := Aside0.mk (hbox); have n2_ := Aside0.mk ((by rw [hg]; exact (below_size (by repeat ((with_reducible exact HB.out)))) : w.heap.size ≤ gb657)); have n3_ := Aside0.mk ((by rw [hg]; exact (below_size (by repeat ((with_reducible exact HB.out)))) : w.heap.size ≤ gb657)); clear HB; have HB := n0_; have BK657 := n1_; have GW657 := n2_; have GE657 := n3_; clear n0_ n1_ n2_ n3_; clear hb hbox hg))
  repeat (go_quiet (fail); go_upto_region 1 with (fail))
  (try simp only [Act.put, List.setIfInBounds_toArray, List.set_cons_zero, List.set_cons_succ])
  go_cut [30] (fun v30 wc => ∃ (kq : Nat) (x30_2 : Bool), v30 = .bool x30_2 ∧ Aside0 (barscanlaw38_ComponentsSymmetric.j0 kq a1 x30_2 a0_0 a0_1 l0_2 = some true) ∧ Aside0 (kq ≤ k) ∧ Aside0 (wc.heap[gb657]? = some (.cells #[.int .i64 a0_0, .int .i64 a0_1, (.slice A0_2 l0_2.length c0_2)] 24 (0, 0))) ∧ Aside0 (Below w.heap.size w wc))
  case first =>
    have H := HC3.out
    clear HC3
    by_cases c5 : (l0_2.length : Int) > 400
    · rw [if_pos c5] at H
      have c5b0 : decide (400 < (l0_2.length : Int)) = true := decide_eq_true c5
      have c5b1 : decide (400 < l0_2.length) = true := decide_eq_true (by omega)
      clear c5
      (skip)
      have H' := Aside0.mk H
      clear H
      have hcz6_0 : w4.cell? ⟨gb657, 0, none⟩ = some (.int .i64 a0_0) := (blk_cell BK657.out 0).trans rfl
      have hcz6_1 : w4.cell? ⟨gb657, 1, none⟩ = some (.int .i64 a0_1) := (blk_cell BK657.out 1).trans rfl
      have hcz6_2 : w4.cell? ⟨gb657, 2, none⟩ = some (.slice A0_2 l0_2.length c0_2) := (blk_cell BK657.out 2).trans rfl
      have hfz6_0 := blk_frozen BK657.out 0
      have hfz6_1 := blk_frozen BK657.out 1
      have hfz6_2 := blk_frozen BK657.out 2
      go_wp2
      repeat (go_quiet (fail); try go_wp2)
      go_meet
      case rel => exact ⟨_, (true), (by rfl), H', ⟨by omega⟩, ⟨by (with_reducible repeat (fail)); exact BK657.out⟩, ⟨by repeat ((with_reducible exact HB.out))⟩⟩
    · rw [if_neg c5] at H
      have c5b0 : decide (400 < (l0_2.length : Int)) = false := decide_eq_false c5
      have c5b1 : decide (400 < l0_2.length) = false := decide_eq_false (by omega)
      clear c5
      (skip)
      replace H := Option.bind_eq_some_iff.mp H
      obtain ⟨t658, A70, H⟩ := H
      replace H : (barscanlaw38_ComponentsSymmetric.j0 k a1 (t658 != 0) a0_0 a0_1 l0_2) = some true := H
      have A7 := Aside0.mk A70
      clear A70
      have H' := Aside0.mk H
      clear H
      have hcz8_0 : w4.cell? ⟨gb657, 0, none⟩ = some (.int .i64 a0_0) := (blk_cell BK657.out 0).trans rfl
      have hcz8_1 : w4.cell? ⟨gb657, 1, none⟩ = some (.int .i64 a0_1) := (blk_cell BK657.out 1).trans rfl
      have hcz8_2 : w4.cell? ⟨gb657, 2, none⟩ = some (.slice A0_2 l0_2.length c0_2) := (blk_cell BK657.out 2).trans rfl
      have hfz8_0 := blk_frozen BK657.out 0
      have hfz8_1 := blk_frozen BK657.out 1
      have hfz8_2 := blk_frozen BK657.out 2
      go_wp2_with ((go_at_call 24; (with_reducible refine (barscanref31_Check.calls a0_0 a0_1 _ _ l0_2 t658 _ ?side1 ?side2 A7.out).mono ?_); (case side1 => repeat ((exact (Kd.C_below HR0_2.out HB.out)))); (case side2 => exact HC0_2.out); rintro e w9 ⟨rfl, hb⟩; have n0_ := Aside0.mk (blk_below (g := gb657) (o := .cells #[.int .i64 a0_0, .int .i64 a0_1, .slice A0_2 l0_2.length c0_2] 24 (0, 0)) (by (with_reducible repeat (fail)); exact BK657.out) hb); have n1_ := Aside0.mk (below_step (by repeat ((with_reducible exact HB.out))) hb); clear BK657; clear HB; have BK657 := n0_; have HB := n1_; clear n0_ n1_; (try clear hb); (try clear hb2); (try clear hk); (try clear hi)))
      repeat (go_quiet (fail); try go_wp2_with (fail))
      go_meet
      case rel => exact ⟨_, ((t658 != 0)), (by rfl), H', ⟨by omega⟩, ⟨by (with_reducible repeat (fail)); exact BK657.out⟩, ⟨by repeat ((with_reducible exact HB.out))⟩⟩
  case rest =>
    clear HC3
    obtain ⟨kq, x30_2, rfl, HA, HJ2, BK657, HB⟩ := hcut
    cases kq with
    | zero => exact absurd HA.out (by simp [barscanlaw38_ComponentsSymmetric.j0])
    | succ kj2 =>
      have H := HA.out
      clear HA
      simp only [barscanlaw38_ComponentsSymmetric.j0] at H
      by_cases c10 : x30_2 = true
      · subst c10
        have H1 : ((exHolds.f).bind fun t659 => (some t659)) = some true := by rw [if_pos rfl] at H; exact H
        clear H
        have H := H1
        clear H1
        replace H := Option.bind_eq_some_iff.mp H
        obtain ⟨t659, A110, H⟩ := H
        replace H : (some t659) = some true := H
        have A11 := Aside0.mk A110
        clear A110
        (obtain rfl := Option.some.inj H)
        go_wp2_with ((go_at_call 13; (with_reducible refine (exHolds.calls  _ _ A11.out).mono ?_); rintro e w12 ⟨rfl, hb⟩; have n0_ := Aside0.mk (blk_below (g := gb657) (o := .cells #[.int .i64 a0_0, .int .i64 a0_1, .slice A0_2 l0_2.length c0_2] 24 (0, 0)) (by (with_reducible repeat (fail)); exact BK657.out) hb); have n1_ := Aside0.mk (below_step (by repeat ((with_reducible exact HB.out))) hb); clear BK657; clear HB; have BK657 := n0_; have HB := n1_; clear n0_ n1_; (try clear hb); (try clear hb2); (try clear hk); (try clear hi)))
        repeat (go_quiet (fail); try go_wp2_with (fail))
        go_ret
        exact ⟨by rfl, by repeat ((with_reducible exact HB.out))⟩
      · replace c10 := Bool.eq_false_iff.mpr c10
        subst c10
        have H1 : ((barscanref31_Turn.f kj2 a0_0 a0_1 l0_2 a1).bind fun bt660 => ((barscanref31_Mirror.f kj2 bt660.1 bt660.2.1 bt660.2.2.1).bind fun bt667 => ((barscanref31_Enlarge.f kj2 a0_0 a0_1 l0_2 2).bind fun bt674 => ((barscanlaw38_areas.f kj2 a0_0 a0_1 l0_2).bind fun bt681 => ((barscanlaw38_areas.f kj2 bt667.1 bt667.2.1 bt667.2.2.1).bind fun bt685 => ((barscanlaw38_areas.f kj2 bt674.1 bt674.2.1 bt674.2.2.1).bind fun bt689 => ((components_Euler.f kj2 a0_0 a0_1 l0_2).bind fun bt693 => ((components_Euler.f kj2 bt667.1 bt667.2.1 bt667.2.2.1).bind fun bt695 => (if bt681.2 = true then (if bt685.2 = true then (if bt689.2 = true then (if bt693.2 = 0 then (if bt695.2 = 0 then (if bt693.1 = bt695.1 then ((barscanlaw38_same.f kj2 bt681.1 bt685.1).bind fun t697 => (if t697 = true then (barscanlaw38_ComponentsSymmetric.j1 kj2 bt681.1 bt689.1 ((bt681.1.length : Int) != (bt689.1.length : Int))) else (barscanlaw38_ComponentsSymmetric.j1 kj2 bt681.1 bt689.1 true))) else (barscanlaw38_ComponentsSymmetric.j1 kj2 bt681.1 bt689.1 true)) else (barscanlaw38_ComponentsSymmetric.j1 kj2 bt681.1 bt689.1 true)) else (barscanlaw38_ComponentsSymmetric.j1 kj2 bt681.1 bt689.1 true)) else (barscanlaw38_ComponentsSymmetric.j1 kj2 bt681.1 bt689.1 true)) else (barscanlaw38_ComponentsSymmetric.j1 kj2 bt681.1 bt689.1 true)) else (barscanlaw38_ComponentsSymmetric.j1 kj2 bt681.1 bt689.1 true)))))))))) = some true := by rw [if_neg (show ¬ (false = true) by decide)] at H; exact H
        clear H
        have H := H1
        clear H1
        replace H := Option.bind_eq_some_iff.mp H
        obtain ⟨⟨t660, t661, t662, t665⟩, A130, H⟩ := H
        replace H : ((barscanref31_Mirror.f kj2 t660 t661 t662).bind fun bt667 => ((barscanref31_Enlarge.f kj2 a0_0 a0_1 l0_2 2).bind fun bt674 => ((barscanlaw38_areas.f kj2 a0_0 a0_1 l0_2).bind fun bt681 => ((barscanlaw38_areas.f kj2 bt667.1 bt667.2.1 bt667.2.2.1).bind fun bt685 => ((barscanlaw38_areas.f kj2 bt674.1 bt674.2.1 bt674.2.2.1).bind fun bt689 => ((components_Euler.f kj2 a0_0 a0_1 l0_2).bind fun bt693 => ((components_Euler.f kj2 bt667.1 bt667.2.1 bt667.2.2.1).bind fun bt695 => (if bt681.2 = true then (if bt685.2 = true then (if bt689.2 = true then (if bt693.2 = 0 then (if bt695.2 = 0 then (if bt693.1 = bt695.1 then ((barscanlaw38_same.f kj2 bt681.1 bt685.1).bind fun t697 => (if t697 = true then (barscanlaw38_ComponentsSymmetric.j1 kj2 bt681.1 bt689.1 ((bt681.1.length : Int) != (bt689.1.length : Int))) else (barscanlaw38_ComponentsSymmetric.j1 kj2 bt681.1 bt689.1 true))) else (barscanlaw38_ComponentsSymmetric.j1 kj2 bt681.1 bt689.1 true)) else (barscanlaw38_ComponentsSymmetric.j1 kj2 bt681.1 bt689.1 true)) else (barscanlaw38_ComponentsSymmetric.j1 kj2 bt681.1 bt689.1 true)) else (barscanlaw38_ComponentsSymmetric.j1 kj2 bt681.1 bt689.1 true)) else (barscanlaw38_ComponentsSymmetric.j1 kj2 bt681.1 bt689.1 true)) else (barscanlaw38_ComponentsSymmetric.j1 kj2 bt681.1 bt689.1 true))))))))) = some true := H
        have A13 := Aside0.mk A130
        clear A130
        replace H := Option.bind_eq_some_iff.mp H
        obtain ⟨⟨t667, t668, t669, t672⟩, A140, H⟩ := H
        replace H : ((barscanref31_Enlarge.f kj2 a0_0 a0_1 l0_2 2).bind fun bt674 => ((barscanlaw38_areas.f kj2 a0_0 a0_1 l0_2).bind fun bt681 => ((barscanlaw38_areas.f kj2 t667 t668 t669).bind fun bt685 => ((barscanlaw38_areas.f kj2 bt674.1 bt674.2.1 bt674.2.2.1).bind fun bt689 => ((components_Euler.f kj2 a0_0 a0_1 l0_2).bind fun bt693 => ((components_Euler.f kj2 t667 t668 t669).bind fun bt695 => (if bt681.2 = true then (if bt685.2 = true then (if bt689.2 = true then (if bt693.2 = 0 then (if bt695.2 = 0 then (if bt693.1 = bt695.1 then ((barscanlaw38_same.f kj2 bt681.1 bt685.1).bind fun t697 => (if t697 = true then (barscanlaw38_ComponentsSymmetric.j1 kj2 bt681.1 bt689.1 ((bt681.1.length : Int) != (bt689.1.length : Int))) else (barscanlaw38_ComponentsSymmetric.j1 kj2 bt681.1 bt689.1 true))) else (barscanlaw38_ComponentsSymmetric.j1 kj2 bt681.1 bt689.1 true)) else (barscanlaw38_ComponentsSymmetric.j1 kj2 bt681.1 bt689.1 true)) else (barscanlaw38_ComponentsSymmetric.j1 kj2 bt681.1 bt689.1 true)) else (barscanlaw38_ComponentsSymmetric.j1 kj2 bt681.1 bt689.1 true)) else (barscanlaw38_ComponentsSymmetric.j1 kj2 bt681.1 bt689.1 true)) else (barscanlaw38_ComponentsSymmetric.j1 kj2 bt681.1 bt689.1 true)))))))) = some true := H
        have A14 := Aside0.mk A140
        clear A140
        replace H := Option.bind_eq_some_iff.mp H
        obtain ⟨⟨t674, t675, t676, t679⟩, A150, H⟩ := H
        replace H : ((barscanlaw38_areas.f kj2 a0_0 a0_1 l0_2).bind fun bt681 => ((barscanlaw38_areas.f kj2 t667 t668 t669).bind fun bt685 => ((barscanlaw38_areas.f kj2 t674 t675 t676).bind fun bt689 => ((components_Euler.f kj2 a0_0 a0_1 l0_2).bind fun bt693 => ((components_Euler.f kj2 t667 t668 t669).bind fun bt695 => (if bt681.2 = true then (if bt685.2 = true then (if bt689.2 = true then (if bt693.2 = 0 then (if bt695.2 = 0 then (if bt693.1 = bt695.1 then ((barscanlaw38_same.f kj2 bt681.1 bt685.1).bind fun t697 => (if t697 = true then (barscanlaw38_ComponentsSymmetric.j1 kj2 bt681.1 bt689.1 ((bt681.1.length : Int) != (bt689.1.length : Int))) else (barscanlaw38_ComponentsSymmetric.j1 kj2 bt681.1 bt689.1 true))) else (barscanlaw38_ComponentsSymmetric.j1 kj2 bt681.1 bt689.1 true)) else (barscanlaw38_ComponentsSymmetric.j1 kj2 bt681.1 bt689.1 true)) else (barscanlaw38_ComponentsSymmetric.j1 kj2 bt681.1 bt689.1 true)) else (barscanlaw38_ComponentsSymmetric.j1 kj2 bt681.1 bt689.1 true)) else (barscanlaw38_ComponentsSymmetric.j1 kj2 bt681.1 bt689.1 true)) else (barscanlaw38_ComponentsSymmetric.j1 kj2 bt681.1 bt689.1 true))))))) = some true := H
        have A15 := Aside0.mk A150
        clear A150
        replace H := Option.bind_eq_some_iff.mp H
        obtain ⟨⟨t681, t684⟩, A160, H⟩ := H
        replace H : ((barscanlaw38_areas.f kj2 t667 t668 t669).bind fun bt685 => ((barscanlaw38_areas.f kj2 t674 t675 t676).bind fun bt689 => ((components_Euler.f kj2 a0_0 a0_1 l0_2).bind fun bt693 => ((components_Euler.f kj2 t667 t668 t669).bind fun bt695 => (if t684 = true then (if bt685.2 = true then (if bt689.2 = true then (if bt693.2 = 0 then (if bt695.2 = 0 then (if bt693.1 = bt695.1 then ((barscanlaw38_same.f kj2 t681 bt685.1).bind fun t697 => (if t697 = true then (barscanlaw38_ComponentsSymmetric.j1 kj2 t681 bt689.1 ((t681.length : Int) != (bt689.1.length : Int))) else (barscanlaw38_ComponentsSymmetric.j1 kj2 t681 bt689.1 true))) else (barscanlaw38_ComponentsSymmetric.j1 kj2 t681 bt689.1 true)) else (barscanlaw38_ComponentsSymmetric.j1 kj2 t681 bt689.1 true)) else (barscanlaw38_ComponentsSymmetric.j1 kj2 t681 bt689.1 true)) else (barscanlaw38_ComponentsSymmetric.j1 kj2 t681 bt689.1 true)) else (barscanlaw38_ComponentsSymmetric.j1 kj2 t681 bt689.1 true)) else (barscanlaw38_ComponentsSymmetric.j1 kj2 t681 bt689.1 true)))))) = some true := H
        have A16 := Aside0.mk A160
        clear A160
        replace H := Option.bind_eq_some_iff.mp H
        obtain ⟨⟨t685, t688⟩, A170, H⟩ := H
        replace H : ((barscanlaw38_areas.f kj2 t674 t675 t676).bind fun bt689 => ((components_Euler.f kj2 a0_0 a0_1 l0_2).bind fun bt693 => ((components_Euler.f kj2 t667 t668 t669).bind fun bt695 => (if t684 = true then (if t688 = true then (if bt689.2 = true then (if bt693.2 = 0 then (if bt695.2 = 0 then (if bt693.1 = bt695.1 then ((barscanlaw38_same.f kj2 t681 t685).bind fun t697 => (if t697 = true then (barscanlaw38_ComponentsSymmetric.j1 kj2 t681 bt689.1 ((t681.length : Int) != (bt689.1.length : Int))) else (barscanlaw38_ComponentsSymmetric.j1 kj2 t681 bt689.1 true))) else (barscanlaw38_ComponentsSymmetric.j1 kj2 t681 bt689.1 true)) else (barscanlaw38_ComponentsSymmetric.j1 kj2 t681 bt689.1 true)) else (barscanlaw38_ComponentsSymmetric.j1 kj2 t681 bt689.1 true)) else (barscanlaw38_ComponentsSymmetric.j1 kj2 t681 bt689.1 true)) else (barscanlaw38_ComponentsSymmetric.j1 kj2 t681 bt689.1 true)) else (barscanlaw38_ComponentsSymmetric.j1 kj2 t681 bt689.1 true))))) = some true := H
        have A17 := Aside0.mk A170
        clear A170
        replace H := Option.bind_eq_some_iff.mp H
        obtain ⟨⟨t689, t692⟩, A180, H⟩ := H
        replace H : ((components_Euler.f kj2 a0_0 a0_1 l0_2).bind fun bt693 => ((components_Euler.f kj2 t667 t668 t669).bind fun bt695 => (if t684 = true then (if t688 = true then (if t692 = true then (if bt693.2 = 0 then (if bt695.2 = 0 then (if bt693.1 = bt695.1 then ((barscanlaw38_same.f kj2 t681 t685).bind fun t697 => (if t697 = true then (barscanlaw38_ComponentsSymmetric.j1 kj2 t681 t689 ((t681.length : Int) != (t689.length : Int))) else (barscanlaw38_ComponentsSymmetric.j1 kj2 t681 t689 true))) else (barscanlaw38_ComponentsSymmetric.j1 kj2 t681 t689 true)) else (barscanlaw38_ComponentsSymmetric.j1 kj2 t681 t689 true)) else (barscanlaw38_ComponentsSymmetric.j1 kj2 t681 t689 true)) else (barscanlaw38_ComponentsSymmetric.j1 kj2 t681 t689 true)) else (barscanlaw38_ComponentsSymmetric.j1 kj2 t681 t689 true)) else (barscanlaw38_ComponentsSymmetric.j1 kj2 t681 t689 true)))) = some true := H
        have A18 := Aside0.mk A180
        clear A180
        replace H := Option.bind_eq_some_iff.mp H
        obtain ⟨⟨t693, t694⟩, A190, H⟩ := H
        replace H : ((components_Euler.f kj2 t667 t668 t669).bind fun bt695 => (if t684 = true then (if t688 = true then (if t692 = true then (if t694 = 0 then (if bt695.2 = 0 then (if t693 = bt695.1 then ((barscanlaw38_same.f kj2 t681 t685).bind fun t697 => (if t697 = true then (barscanlaw38_ComponentsSymmetric.j1 kj2 t681 t689 ((t681.length : Int) != (t689.length : Int))) else (barscanlaw38_ComponentsSymmetric.j1 kj2 t681 t689 true))) else (barscanlaw38_ComponentsSymmetric.j1 kj2 t681 t689 true)) else (barscanlaw38_ComponentsSymmetric.j1 kj2 t681 t689 true)) else (barscanlaw38_ComponentsSymmetric.j1 kj2 t681 t689 true)) else (barscanlaw38_ComponentsSymmetric.j1 kj2 t681 t689 true)) else (barscanlaw38_ComponentsSymmetric.j1 kj2 t681 t689 true)) else (barscanlaw38_ComponentsSymmetric.j1 kj2 t681 t689 true))) = some true := H
        have A19 := Aside0.mk A190
        clear A190
        replace H := Option.bind_eq_some_iff.mp H
        obtain ⟨⟨t695, t696⟩, A200, H⟩ := H
        replace H : (if t684 = true then (if t688 = true then (if t692 = true then (if t694 = 0 then (if t696 = 0 then (if t693 = t695 then ((barscanlaw38_same.f kj2 t681 t685).bind fun t697 => (if t697 = true then (barscanlaw38_ComponentsSymmetric.j1 kj2 t681 t689 ((t681.length : Int) != (t689.length : Int))) else (barscanlaw38_ComponentsSymmetric.j1 kj2 t681 t689 true))) else (barscanlaw38_ComponentsSymmetric.j1 kj2 t681 t689 true)) else (barscanlaw38_ComponentsSymmetric.j1 kj2 t681 t689 true)) else (barscanlaw38_ComponentsSymmetric.j1 kj2 t681 t689 true)) else (barscanlaw38_ComponentsSymmetric.j1 kj2 t681 t689 true)) else (barscanlaw38_ComponentsSymmetric.j1 kj2 t681 t689 true)) else (barscanlaw38_ComponentsSymmetric.j1 kj2 t681 t689 true)) = some true := H
        have A20 := Aside0.mk A200
        clear A200
        have HC21 := Aside0.mk H
        clear H
        have hcz22_0 : wc.cell? ⟨gb657, 0, none⟩ = some (.int .i64 a0_0) := (blk_cell BK657.out 0).trans rfl
        have hcz22_1 : wc.cell? ⟨gb657, 1, none⟩ = some (.int .i64 a0_1) := (blk_cell BK657.out 1).trans rfl
        have hcz22_2 : wc.cell? ⟨gb657, 2, none⟩ = some (.slice A0_2 l0_2.length c0_2) := (blk_cell BK657.out 2).trans rfl
        have hfz22_0 := blk_frozen BK657.out 0
        have hfz22_1 := blk_frozen BK657.out 1
        have hfz22_2 := blk_frozen BK657.out 2
        go_upto_region 11 with (first | (go_at_call 28; (with_reducible refine (barscanref31_Turn.calls kj2 a0_0 a0_1 _ _ l0_2 a1 t660 t661 t662 t665 _ ?side1 ?side2 A13.out).mono ?_); (case side1 => repeat ((exact (Kd.C_below HR0_2.out HB.out)))); (case side2 => exact HC0_2.out); rintro e w23 ⟨v663, rfl, ho0, hb⟩; have n0_ := Aside0.mk (Kd.R_lower ho0 (below_size (by repeat ((with_reducible exact HB.out))))); have n1_ := Aside0.mk (blk_below (g := gb657) (o := .cells #[.int .i64 a0_0, .int .i64 a0_1, .slice A0_2 l0_2.length c0_2] 24 (0, 0)) (by (with_reducible repeat (fail)); exact BK657.out) hb); have n2_ := Aside0.mk (below_step (by repeat ((with_reducible exact HB.out))) hb); clear BK657; clear HB; have HO664 := n0_; have BK657 := n1_; have HB := n2_; clear n0_ n1_ n2_; (try clear hb); (try clear hb2); (try clear hk); (try clear hi); (try clear ho0)) | ((with_reducible refine gate_dst (N := 5) rfl ?_); (try (refine gate_guard (by rfl) ?_; dsimp only)); refine box_event ?hg (N := 5) ?hd (cs := #[.int .i64 0, .int .i64 0, .slice none 0 0]) (t := 24) ?hr ?_; (case hd => rfl); (case hg => rfl); (case hr => (go_simp; done)); intro gb666 hg w24 hbox hb; have n0_ := Aside0.mk (Kd.R_below (by (with_reducible repeat (fail)); exact HO664.out) hb); have n1_ := Aside0.mk (blk_below (g := gb657) (o := .cells #[.int .i64 a0_0, .int .i64 a0_1, .slice A0_2 l0_2.length c0_2] 24 (0, 0)) (by (with_reducible repeat (fail)); exact BK657.out) hb); have n2_ := Aside0.mk (below_step (by repeat ((with_reducible exact HB.out))) hb); have n3_ := Aside0.mk (hbox); have n4_ := Aside0.mk ((by rw [hg]; exact (below_size (by repeat ((with_reducible exact HB.out)))) : w.heap.size ≤ gb666)); have n5_ := Aside0.mk ((by rw [hg]; exact (below_size (by repeat ((with_reducible exact HB.out)))) : w.heap.size ≤ gb666)); have n6_ := Aside0.mk ((by rw [hg]; exact Nat.ne_of_lt (blk_lt (g := gb657) (o := .cells #[.int .i64 a0_0, .int .i64 a0_1, .slice A0_2 l0_2.length c0_2] 24 (0, 0)) (by (with_reducible repeat (fail)); exact BK657.out)) : gb657 ≠ gb666)); have n7_ := Aside0.mk ((by rw [hg]; exact Nat.ne_of_gt (blk_lt (g := gb657) (o := .cells #[.int .i64 a0_0, .int .i64 a0_1, .slice A0_2 l0_2.length c0_2] 24 (0, 0)) (by (with_reducible repeat (fail)); exact BK657.out)) : gb666 ≠ gb657)); clear HO664; clear BK657; clear HB; have HO664 := n0_; have BK657 := n1_; have HB := n2_; have BK666 := n3_; have GW666 := n4_; have GE666 := n5_; have NB657_666 := n6_; have NB666_657 := n7_; clear n0_ n1_ n2_ n3_ n4_ n5_ n6_ n7_; clear hb hbox hg; have hnb25 := NB666_657.out; have hnc25 := NB657_666.out; have hcz26_0 : w24.cell? ⟨gb666, 0, none⟩ = some (.int .i64 0) := (blk_cell BK666.out 0).trans rfl; have hcz26_1 : w24.cell? ⟨gb666, 1, none⟩ = some (.int .i64 0) := (blk_cell BK666.out 1).trans rfl; have hcz26_2 : w24.cell? ⟨gb666, 2, none⟩ = some (.slice none 0 0) := (blk_cell BK666.out 2).trans rfl; have hfz26_0 := blk_frozen BK666.out 0; have hfz26_1 := blk_frozen BK666.out 1; have hfz26_2 := blk_frozen BK666.out 2; obtain ⟨Ao27, co27, eo27⟩ := Kd.R_slice HO664.out; subst eo27) | (go_at_call 29; (with_reducible refine (barscanref31_Mirror.calls kj2 t660 t661 _ _ t662 t667 t668 t669 t672 _ ?side1 ?side2 A14.out).mono ?_); (case side1 => refine (Kd.R_reads' (e := 4) (base := w.heap.size) (ok := fun k_ => True) (n := t662.length) (c := co27) ?_).2.2; exact (by (with_reducible repeat (fail)); exact (Kd.R_mono (Kd.R_far (p := ⟨gb666, 2, none⟩) (Kd.R_far (p := ⟨gb666, 1, none⟩) (Kd.R_far (p := ⟨gb666, 0, none⟩) (Kd.R_types HO664.out BK666.out (by decide)) (fun _ hk => hk.2) (.int .i64 t660)) (fun _ hk => hk.2) (.int .i64 t661)) (fun _ hk => hk.2) (.slice Ao27 t662.length co27)) (fun _ h_ => h_.1)))); (case side2 => exact (Kd.R_reads' HO664.out).2.1); rintro e w28 ⟨v670, rfl, ho0, hb⟩; have n0_ := Aside0.mk (Kd.R_elder' (by (with_reducible repeat (fail)); exact (Kd.R_mono (Kd.R_far (p := ⟨gb666, 2, none⟩) (Kd.R_far (p := ⟨gb666, 1, none⟩) (Kd.R_far (p := ⟨gb666, 0, none⟩) (Kd.R_types HO664.out BK666.out (by decide)) (fun _ hk => hk.2) (.int .i64 t660)) (fun _ hk => hk.2) (.int .i64 t661)) (fun _ hk => hk.2) (.slice Ao27 t662.length co27)) (fun _ h_ => h_.1))) (Kd.R_base ho0) hb); have n1_ := Aside0.mk (Kd.R_lower (Kd.R_new' ho0 (Kd.R_lt (by (with_reducible repeat (fail)); exact (Kd.R_mono (Kd.R_far (p := ⟨gb666, 2, none⟩) (Kd.R_far (p := ⟨gb666, 1, none⟩) (Kd.R_far (p := ⟨gb666, 0, none⟩) (Kd.R_types HO664.out BK666.out (by decide)) (fun _ hk => hk.2) (.int .i64 t660)) (fun _ hk => hk.2) (.int .i64 t661)) (fun _ hk => hk.2) (.slice Ao27 t662.length co27)) (fun _ h_ => h_.1))))) (below_size (by repeat ((with_reducible first | exact HB.out | refine below_set ?_ GE666.out))))); have n2_ := Aside0.mk (blk_below (g := gb657) (o := .cells #[.int .i64 a0_0, .int .i64 a0_1, .slice A0_2 l0_2.length c0_2] 24 (0, 0)) (by (with_reducible repeat (fail)); refine blk_far ?_ NB657_666.out _; (with_reducible repeat (fail)); refine blk_far ?_ NB657_666.out _; (with_reducible repeat (fail)); refine blk_far ?_ NB657_666.out _; (with_reducible repeat (fail)); exact BK657.out) hb); have n3_ := Aside0.mk (blk_below (g := gb666) (o := .cells #[.int .i64 t660, .int .i64 t661, .slice Ao27 t662.length co27] 24 (0, 0)) (by (with_reducible repeat (fail)); refine blk_put (cs := #[.int .i64 t660, .int .i64 t661, .slice none 0 0]) ?_ 2 _ rfl; (with_reducible repeat (fail)); refine blk_put (cs := #[.int .i64 t660, .int .i64 0, .slice none 0 0]) ?_ 1 _ rfl; (with_reducible repeat (fail)); refine blk_put (cs := #[.int .i64 0, .int .i64 0, .slice none 0 0]) ?_ 0 _ rfl; (with_reducible repeat (fail)); exact BK666.out) hb); have n4_ := Aside0.mk (below_step (by repeat ((with_reducible first | exact HB.out | refine below_set ?_ GE666.out))) hb); clear HO664; clear BK657; clear BK666; clear HB; have HO664 := n0_; have HO671 := n1_; have BK657 := n2_; have BK666 := n3_; have HB := n4_; clear n0_ n1_ n2_ n3_ n4_; (try clear hb); (try clear hb2); (try clear hk); (try clear hi); (try clear ho0)) | ((with_reducible refine gate_dst (N := 7) rfl ?_); (try (refine gate_guard (by rfl) ?_; dsimp only)); refine box_event ?hg (N := 7) ?hd (cs := #[.int .i64 0, .int .i64 0, .slice none 0 0]) (t := 24) ?hr ?_; (case hd => rfl); (case hg => rfl); (case hr => (go_simp; done)); intro gb673 hg w29 hbox hb; have n0_ := Aside0.mk (Kd.R_below (by (with_reducible repeat (fail)); exact HO664.out) hb); have n1_ := Aside0.mk (Kd.R_below (by (with_reducible repeat (fail)); exact HO671.out) hb); have n2_ := Aside0.mk (blk_below (g := gb657) (o := .cells #[.int .i64 a0_0, .int .i64 a0_1, .slice A0_2 l0_2.length c0_2] 24 (0, 0)) (by (with_reducible repeat (fail)); exact BK657.out) hb); have n3_ := Aside0.mk (blk_below (g := gb666) (o := .cells #[.int .i64 t660, .int .i64 t661, .slice Ao27 t662.length co27] 24 (0, 0)) (by (with_reducible repeat (fail)); exact BK666.out) hb); have n4_ := Aside0.mk (below_step (by repeat ((with_reducible exact HB.out))) hb); have n5_ := Aside0.mk (hbox); have n6_ := Aside0.mk ((by rw [hg]; exact (below_size (by repeat ((with_reducible exact HB.out)))) : w.heap.size ≤ gb673)); have n7_ := Aside0.mk ((by rw [hg]; exact (below_size (by repeat ((with_reducible exact HB.out)))) : w.heap.size ≤ gb673)); have n8_ := Aside0.mk ((by rw [hg]; exact Nat.ne_of_lt (blk_lt (g := gb657) (o := .cells #[.int .i64 a0_0, .int .i64 a0_1, .slice A0_2 l0_2.length c0_2] 24 (0, 0)) (by (with_reducible repeat (fail)); exact BK657.out)) : gb657 ≠ gb673)); have n9_ := Aside0.mk ((by rw [hg]; exact Nat.ne_of_gt (blk_lt (g := gb657) (o := .cells #[.int .i64 a0_0, .int .i64 a0_1, .slice A0_2 l0_2.length c0_2] 24 (0, 0)) (by (with_reducible repeat (fail)); exact BK657.out)) : gb673 ≠ gb657)); have n10_ := Aside0.mk ((by rw [hg]; exact Nat.ne_of_lt (blk_lt (g := gb666) (o := .cells #[.int .i64 t660, .int .i64 t661, .slice Ao27 t662.length co27] 24 (0, 0)) (by (with_reducible repeat (fail)); exact BK666.out)) : gb666 ≠ gb673)); have n11_ := Aside0.mk ((by rw [hg]; exact Nat.ne_of_gt (blk_lt (g := gb666) (o := .cells #[.int .i64 t660, .int .i64 t661, .slice Ao27 t662.length co27] 24 (0, 0)) (by (with_reducible repeat (fail)); exact BK666.out)) : gb673 ≠ gb666)); clear HO664; clear HO671; clear BK657; clear BK666; clear HB; have HO664 := n0_; have HO671 := n1_; have BK657 := n2_; have BK666 := n3_; have HB := n4_; have BK673 := n5_; have GW673 := n6_; have GE673 := n7_; have NB657_673 := n8_; have NB673_657 := n9_; have NB666_673 := n10_; have NB673_666 := n11_; clear n0_ n1_ n2_ n3_ n4_ n5_ n6_ n7_ n8_ n9_ n10_ n11_; clear hb hbox hg; have hnb30 := NB673_657.out; have hnc30 := NB657_673.out; have hnb31 := NB673_666.out; have hnc31 := NB666_673.out; have hcz32_0 : w29.cell? ⟨gb673, 0, none⟩ = some (.int .i64 0) := (blk_cell BK673.out 0).trans rfl; have hcz32_1 : w29.cell? ⟨gb673, 1, none⟩ = some (.int .i64 0) := (blk_cell BK673.out 1).trans rfl; have hcz32_2 : w29.cell? ⟨gb673, 2, none⟩ = some (.slice none 0 0) := (blk_cell BK673.out 2).trans rfl; have hfz32_0 := blk_frozen BK673.out 0; have hfz32_1 := blk_frozen BK673.out 1; have hfz32_2 := blk_frozen BK673.out 2; obtain ⟨Ao33, co33, eo33⟩ := Kd.R_slice HO671.out; subst eo33; have hcz34_0 : w29.cell? ⟨gb657, 0, none⟩ = some (.int .i64 a0_0) := (blk_cell BK657.out 0).trans rfl; have hcz34_1 : w29.cell? ⟨gb657, 1, none⟩ = some (.int .i64 a0_1) := (blk_cell BK657.out 1).trans rfl; have hcz34_2 : w29.cell? ⟨gb657, 2, none⟩ = some (.slice A0_2 l0_2.length c0_2) := (blk_cell BK657.out 2).trans rfl; have hfz34_0 := blk_frozen BK657.out 0; have hfz34_1 := blk_frozen BK657.out 1; have hfz34_2 := blk_frozen BK657.out 2) | (go_at_call 30; (with_reducible refine (barscanref31_Enlarge.calls kj2 a0_0 a0_1 _ _ l0_2 2 t674 t675 t676 t679 _ ?side1 ?side2 A15.out).mono ?_); (case side1 => exact Kd.C_below HR0_2.out (by repeat ((with_reducible first | exact HB.out | refine below_set ?_ GE673.out)))); (case side2 => exact HC0_2.out); rintro e w35 ⟨v677, rfl, ho0, hb⟩; have n0_ := Aside0.mk (Kd.R_elder' (by (with_reducible repeat (fail)); exact (Kd.R_mono (Kd.R_far (p := ⟨gb673, 2, none⟩) (Kd.R_far (p := ⟨gb673, 1, none⟩) (Kd.R_far (p := ⟨gb673, 0, none⟩) (Kd.R_types HO664.out BK673.out (by decide)) (fun _ hk => hk.2) (.int .i64 t667)) (fun _ hk => hk.2) (.int .i64 t668)) (fun _ hk => hk.2) (.slice Ao33 t669.length co33)) (fun _ h_ => h_.1))) (Kd.R_base ho0) hb); have n1_ := Aside0.mk (Kd.R_elder' (by (with_reducible repeat (fail)); exact (Kd.R_mono (Kd.R_far (p := ⟨gb673, 2, none⟩) (Kd.R_far (p := ⟨gb673, 1, none⟩) (Kd.R_far (p := ⟨gb673, 0, none⟩) (Kd.R_types HO671.out BK673.out (by decide)) (fun _ hk => hk.2) (.int .i64 t667)) (fun _ hk => hk.2) (.int .i64 t668)) (fun _ hk => hk.2) (.slice Ao33 t669.length co33)) (fun _ h_ => h_.1))) (Kd.R_base ho0) hb); have n2_ := Aside0.mk (Kd.R_lower (Kd.R_new' (Kd.R_new' ho0 (Kd.R_lt (by (with_reducible repeat (fail)); exact (Kd.R_mono (Kd.R_far (p := ⟨gb673, 2, none⟩) (Kd.R_far (p := ⟨gb673, 1, none⟩) (Kd.R_far (p := ⟨gb673, 0, none⟩) (Kd.R_types HO664.out BK673.out (by decide)) (fun _ hk => hk.2) (.int .i64 t667)) (fun _ hk => hk.2) (.int .i64 t668)) (fun _ hk => hk.2) (.slice Ao33 t669.length co33)) (fun _ h_ => h_.1))))) (Kd.R_lt (by (with_reducible repeat (fail)); exact (Kd.R_mono (Kd.R_far (p := ⟨gb673, 2, none⟩) (Kd.R_far (p := ⟨gb673, 1, none⟩) (Kd.R_far (p := ⟨gb673, 0, none⟩) (Kd.R_types HO671.out BK673.out (by decide)) (fun _ hk => hk.2) (.int .i64 t667)) (fun _ hk => hk.2) (.int .i64 t668)) (fun _ hk => hk.2) (.slice Ao33 t669.length co33)) (fun _ h_ => h_.1))))) (below_size (by repeat ((with_reducible first | exact HB.out | refine below_set ?_ GE673.out))))); have n3_ := Aside0.mk (blk_below (g := gb657) (o := .cells #[.int .i64 a0_0, .int .i64 a0_1, .slice A0_2 l0_2.length c0_2] 24 (0, 0)) (by (with_reducible repeat (fail)); refine blk_far ?_ NB657_673.out _; (with_reducible repeat (fail)); refine blk_far ?_ NB657_673.out _; (with_reducible repeat (fail)); refine blk_far ?_ NB657_673.out _; (with_reducible repeat (fail)); exact BK657.out) hb); have n4_ := Aside0.mk (blk_below (g := gb666) (o := .cells #[.int .i64 t660, .int .i64 t661, .slice Ao27 t662.length co27] 24 (0, 0)) (by (with_reducible repeat (fail)); refine blk_far ?_ NB666_673.out _; (with_reducible repeat (fail)); refine blk_far ?_ NB666_673.out _; (with_reducible repeat (fail)); refine blk_far ?_ NB666_673.out _; (with_reducible repeat (fail)); exact BK666.out) hb); have n5_ := Aside0.mk (blk_below (g := gb673) (o := .cells #[.int .i64 t667, .int .i64 t668, .slice Ao33 t669.length co33] 24 (0, 0)) (by (with_reducible repeat (fail)); refine blk_put (cs := #[.int .i64 t667, .int .i64 t668, .slice none 0 0]) ?_ 2 _ rfl; (with_reducible repeat (fail)); refine blk_put (cs := #[.int .i64 t667, .int .i64 0, .slice none 0 0]) ?_ 1 _ rfl; (with_reducible repeat (fail)); refine blk_put (cs := #[.int .i64 0, .int .i64 0, .slice none 0 0]) ?_ 0 _ rfl; (with_reducible repeat (fail)); exact BK673.out) hb); have n6_ := Aside0.mk (below_step (by repeat ((with_reducible first | exact HB.out | refine below_set ?_ GE673.out))) hb); clear HO664; clear HO671; clear BK657; clear BK666; clear BK673; clear HB; have HO664 := n0_; have HO671 := n1_; have HO678 := n2_; have BK657 := n3_; have BK666 := n4_; have BK673 := n5_; have HB := n6_; clear n0_ n1_ n2_ n3_ n4_ n5_ n6_; (try clear hb); (try clear hb2); (try clear hk); (try clear hi); (try clear ho0)) | ((with_reducible refine gate_dst (N := 9) rfl ?_); (try (refine gate_guard (by rfl) ?_; dsimp only)); refine box_event ?hg (N := 9) ?hd (cs := #[.int .i64 0, .int .i64 0, .slice none 0 0]) (t := 24) ?hr ?_; (case hd => rfl); (case hg => rfl); (case hr => (go_simp; done)); intro gb680 hg w36 hbox hb; have n0_ := Aside0.mk (Kd.R_below (by (with_reducible repeat (fail)); exact HO664.out) hb); have n1_ := Aside0.mk (Kd.R_below (by (with_reducible repeat (fail)); exact HO671.out) hb); have n2_ := Aside0.mk (Kd.R_below (by (with_reducible repeat (fail)); exact HO678.out) hb); have n3_ := Aside0.mk (blk_below (g := gb657) (o := .cells #[.int .i64 a0_0, .int .i64 a0_1, .slice A0_2 l0_2.length c0_2] 24 (0, 0)) (by (with_reducible repeat (fail)); exact BK657.out) hb); have n4_ := Aside0.mk (blk_below (g := gb666) (o := .cells #[.int .i64 t660, .int .i64 t661, .slice Ao27 t662.length co27] 24 (0, 0)) (by (with_reducible repeat (fail)); exact BK666.out) hb); have n5_ := Aside0.mk (blk_below (g := gb673) (o := .cells #[.int .i64 t667, .int .i64 t668, .slice Ao33 t669.length co33] 24 (0, 0)) (by (with_reducible repeat (fail)); exact BK673.out) hb); have n6_ := Aside0.mk (below_step (by repeat ((with_reducible exact HB.out))) hb); have n7_ := Aside0.mk (hbox); have n8_ := Aside0.mk ((by rw [hg]; exact (below_size (by repeat ((with_reducible exact HB.out)))) : w.heap.size ≤ gb680)); have n9_ := Aside0.mk ((by rw [hg]; exact (below_size (by repeat ((with_reducible exact HB.out)))) : w.heap.size ≤ gb680)); have n10_ := Aside0.mk ((by rw [hg]; exact Nat.ne_of_lt (blk_lt (g := gb657) (o := .cells #[.int .i64 a0_0, .int .i64 a0_1, .slice A0_2 l0_2.length c0_2] 24 (0, 0)) (by (with_reducible repeat (fail)); exact BK657.out)) : gb657 ≠ gb680)); have n11_ := Aside0.mk ((by rw [hg]; exact Nat.ne_of_gt (blk_lt (g := gb657) (o := .cells #[.int .i64 a0_0, .int .i64 a0_1, .slice A0_2 l0_2.length c0_2] 24 (0, 0)) (by (with_reducible repeat (fail)); exact BK657.out)) : gb680 ≠ gb657)); have n12_ := Aside0.mk ((by rw [hg]; exact Nat.ne_of_lt (blk_lt (g := gb666) (o := .cells #[.int .i64 t660, .int .i64 t661, .slice Ao27 t662.length co27] 24 (0, 0)) (by (with_reducible repeat (fail)); exact BK666.out)) : gb666 ≠ gb680)); have n13_ := Aside0.mk ((by rw [hg]; exact Nat.ne_of_gt (blk_lt (g := gb666) (o := .cells #[.int .i64 t660, .int .i64 t661, .slice Ao27 t662.length co27] 24 (0, 0)) (by (with_reducible repeat (fail)); exact BK666.out)) : gb680 ≠ gb666)); have n14_ := Aside0.mk ((by rw [hg]; exact Nat.ne_of_lt (blk_lt (g := gb673) (o := .cells #[.int .i64 t667, .int .i64 t668, .slice Ao33 t669.length co33] 24 (0, 0)) (by (with_reducible repeat (fail)); exact BK673.out)) : gb673 ≠ gb680)); have n15_ := Aside0.mk ((by rw [hg]; exact Nat.ne_of_gt (blk_lt (g := gb673) (o := .cells #[.int .i64 t667, .int .i64 t668, .slice Ao33 t669.length co33] 24 (0, 0)) (by (with_reducible repeat (fail)); exact BK673.out)) : gb680 ≠ gb673)); clear HO664; clear HO671; clear HO678; clear BK657; clear BK666; clear BK673; clear HB; have HO664 := n0_; have HO671 := n1_; have HO678 := n2_; have BK657 := n3_; have BK666 := n4_; have BK673 := n5_; have HB := n6_; have BK680 := n7_; have GW680 := n8_; have GE680 := n9_; have NB657_680 := n10_; have NB680_657 := n11_; have NB666_680 := n12_; have NB680_666 := n13_; have NB673_680 := n14_; have NB680_673 := n15_; clear n0_ n1_ n2_ n3_ n4_ n5_ n6_ n7_ n8_ n9_ n10_ n11_ n12_ n13_ n14_ n15_; clear hb hbox hg; have hnb37 := NB680_657.out; have hnc37 := NB657_680.out; have hnb38 := NB680_666.out; have hnc38 := NB666_680.out; have hnb39 := NB680_673.out; have hnc39 := NB673_680.out; have hcz40_0 : w36.cell? ⟨gb680, 0, none⟩ = some (.int .i64 0) := (blk_cell BK680.out 0).trans rfl; have hcz40_1 : w36.cell? ⟨gb680, 1, none⟩ = some (.int .i64 0) := (blk_cell BK680.out 1).trans rfl; have hcz40_2 : w36.cell? ⟨gb680, 2, none⟩ = some (.slice none 0 0) := (blk_cell BK680.out 2).trans rfl; have hfz40_0 := blk_frozen BK680.out 0; have hfz40_1 := blk_frozen BK680.out 1; have hfz40_2 := blk_frozen BK680.out 2; obtain ⟨Ao41, co41, eo41⟩ := Kd.R_slice HO678.out; subst eo41; have hcz42_0 : w36.cell? ⟨gb657, 0, none⟩ = some (.int .i64 a0_0) := (blk_cell BK657.out 0).trans rfl; have hcz42_1 : w36.cell? ⟨gb657, 1, none⟩ = some (.int .i64 a0_1) := (blk_cell BK657.out 1).trans rfl; have hcz42_2 : w36.cell? ⟨gb657, 2, none⟩ = some (.slice A0_2 l0_2.length c0_2) := (blk_cell BK657.out 2).trans rfl; have hfz42_0 := blk_frozen BK657.out 0; have hfz42_1 := blk_frozen BK657.out 1; have hfz42_2 := blk_frozen BK657.out 2) | (go_at_call 31; (with_reducible refine (barscanlaw38_areas.calls kj2 a0_0 a0_1 _ _ l0_2 t681 t684 _ ?side1 ?side2 A16.out).mono ?_); (case side1 => exact Kd.C_below HR0_2.out (by repeat ((with_reducible first | exact HB.out | refine below_set ?_ GE680.out)))); (case side2 => exact HC0_2.out); rintro e w43 ⟨v682, rfl, ho0, hb⟩; have n0_ := Aside0.mk (Kd.R_below (by (with_reducible repeat (fail)); exact (Kd.R_mono (Kd.R_far (p := ⟨gb680, 2, none⟩) (Kd.R_far (p := ⟨gb680, 1, none⟩) (Kd.R_far (p := ⟨gb680, 0, none⟩) (Kd.R_types HO664.out BK680.out (by decide)) (fun _ hk => hk.2) (.int .i64 t674)) (fun _ hk => hk.2) (.int .i64 t675)) (fun _ hk => hk.2) (.slice Ao41 t676.length co41)) (fun _ h_ => h_.1))) hb); have n1_ := Aside0.mk (Kd.R_below (by (with_reducible repeat (fail)); exact (Kd.R_mono (Kd.R_far (p := ⟨gb680, 2, none⟩) (Kd.R_far (p := ⟨gb680, 1, none⟩) (Kd.R_far (p := ⟨gb680, 0, none⟩) (Kd.R_types HO671.out BK680.out (by decide)) (fun _ hk => hk.2) (.int .i64 t674)) (fun _ hk => hk.2) (.int .i64 t675)) (fun _ hk => hk.2) (.slice Ao41 t676.length co41)) (fun _ h_ => h_.1))) hb); have n2_ := Aside0.mk (Kd.R_below (by (with_reducible repeat (fail)); exact (Kd.R_mono (Kd.R_far (p := ⟨gb680, 2, none⟩) (Kd.R_far (p := ⟨gb680, 1, none⟩) (Kd.R_far (p := ⟨gb680, 0, none⟩) (Kd.R_types HO678.out BK680.out (by decide)) (fun _ hk => hk.2) (.int .i64 t674)) (fun _ hk => hk.2) (.int .i64 t675)) (fun _ hk => hk.2) (.slice Ao41 t676.length co41)) (fun _ h_ => h_.1))) hb); have n3_ := Aside0.mk (Kd.R_lower ho0 (below_size (by repeat ((with_reducible first | exact HB.out | refine below_set ?_ GE680.out))))); have n4_ := Aside0.mk (blk_below (g := gb657) (o := .cells #[.int .i64 a0_0, .int .i64 a0_1, .slice A0_2 l0_2.length c0_2] 24 (0, 0)) (by (with_reducible repeat (fail)); refine blk_far ?_ NB657_680.out _; (with_reducible repeat (fail)); refine blk_far ?_ NB657_680.out _; (with_reducible repeat (fail)); refine blk_far ?_ NB657_680.out _; (with_reducible repeat (fail)); exact BK657.out) hb); have n5_ := Aside0.mk (blk_below (g := gb666) (o := .cells #[.int .i64 t660, .int .i64 t661, .slice Ao27 t662.length co27] 24 (0, 0)) (by (with_reducible repeat (fail)); refine blk_far ?_ NB666_680.out _; (with_reducible repeat (fail)); refine blk_far ?_ NB666_680.out _; (with_reducible repeat (fail)); refine blk_far ?_ NB666_680.out _; (with_reducible repeat (fail)); exact BK666.out) hb); have n6_ := Aside0.mk (blk_below (g := gb673) (o := .cells #[.int .i64 t667, .int .i64 t668, .slice Ao33 t669.length co33] 24 (0, 0)) (by (with_reducible repeat (fail)); refine blk_far ?_ NB673_680.out _; (with_reducible repeat (fail)); refine blk_far ?_ NB673_680.out _; (with_reducible repeat (fail)); refine blk_far ?_ NB673_680.out _; (with_reducible repeat (fail)); exact BK673.out) hb); have n7_ := Aside0.mk (blk_below (g := gb680) (o := .cells #[.int .i64 t674, .int .i64 t675, .slice Ao41 t676.length co41] 24 (0, 0)) (by (with_reducible repeat (fail)); refine blk_put (cs := #[.int .i64 t674, .int .i64 t675, .slice none 0 0]) ?_ 2 _ rfl; (with_reducible repeat (fail)); refine blk_put (cs := #[.int .i64 t674, .int .i64 0, .slice none 0 0]) ?_ 1 _ rfl; (with_reducible repeat (fail)); refine blk_put (cs := #[.int .i64 0, .int .i64 0, .slice none 0 0]) ?_ 0 _ rfl; (with_reducible repeat (fail)); exact BK680.out) hb); have n8_ := Aside0.mk (below_step (by repeat ((with_reducible first | exact HB.out | refine below_set ?_ GE680.out))) hb); clear HO664; clear HO671; clear HO678; clear BK657; clear BK666; clear BK673; clear BK680; clear HB; have HO664 := n0_; have HO671 := n1_; have HO678 := n2_; have HO683 := n3_; have BK657 := n4_; have BK666 := n5_; have BK673 := n6_; have BK680 := n7_; have HB := n8_; clear n0_ n1_ n2_ n3_ n4_ n5_ n6_ n7_ n8_; (try clear hb); (try clear hb2); (try clear hk); (try clear hi); (try clear ho0); have hcz44_0 : w43.cell? ⟨gb673, 0, none⟩ = some (.int .i64 t667) := (blk_cell BK673.out 0).trans rfl; have hcz44_1 : w43.cell? ⟨gb673, 1, none⟩ = some (.int .i64 t668) := (blk_cell BK673.out 1).trans rfl; have hcz44_2 : w43.cell? ⟨gb673, 2, none⟩ = some (.slice Ao33 t669.length co33) := (blk_cell BK673.out 2).trans rfl; have hfz44_0 := blk_frozen BK673.out 0; have hfz44_1 := blk_frozen BK673.out 1; have hfz44_2 := blk_frozen BK673.out 2) | (go_at_call 31; (with_reducible refine (barscanlaw38_areas.calls kj2 t667 t668 _ _ t669 t685 t688 _ ?side1 ?side2 A17.out).mono ?_); (case side1 => repeat ((exact (Kd.R_reads' HO671.out).2.2))); (case side2 => exact (Kd.R_reads' HO671.out).2.1); rintro e w45 ⟨v686, rfl, ho0, hb⟩; have n0_ := Aside0.mk (Kd.R_below (by (with_reducible repeat (fail)); exact HO664.out) hb); have n1_ := Aside0.mk (Kd.R_below (by (with_reducible repeat (fail)); exact HO671.out) hb); have n2_ := Aside0.mk (Kd.R_below (by (with_reducible repeat (fail)); exact HO678.out) hb); have n3_ := Aside0.mk (Kd.R_elder' (by (with_reducible repeat (fail)); exact HO683.out) (Kd.R_base ho0) hb); have n4_ := Aside0.mk (Kd.R_lower (Kd.R_new' ho0 (Kd.R_lt (by (with_reducible repeat (fail)); exact HO683.out))) (below_size (by repeat ((with_reducible exact HB.out))))); have n5_ := Aside0.mk (blk_below (g := gb657) (o := .cells #[.int .i64 a0_0, .int .i64 a0_1, .slice A0_2 l0_2.length c0_2] 24 (0, 0)) (by (with_reducible repeat (fail)); exact BK657.out) hb); have n6_ := Aside0.mk (blk_below (g := gb666) (o := .cells #[.int .i64 t660, .int .i64 t661, .slice Ao27 t662.length co27] 24 (0, 0)) (by (with_reducible repeat (fail)); exact BK666.out) hb); have n7_ := Aside0.mk (blk_below (g := gb673) (o := .cells #[.int .i64 t667, .int .i64 t668, .slice Ao33 t669.length co33] 24 (0, 0)) (by (with_reducible repeat (fail)); exact BK673.out) hb); have n8_ := Aside0.mk (blk_below (g := gb680) (o := .cells #[.int .i64 t674, .int .i64 t675, .slice Ao41 t676.length co41] 24 (0, 0)) (by (with_reducible repeat (fail)); exact BK680.out) hb); have n9_ := Aside0.mk (below_step (by repeat ((with_reducible exact HB.out))) hb); clear HO664; clear HO671; clear HO678; clear HO683; clear BK657; clear BK666; clear BK673; clear BK680; clear HB; have HO664 := n0_; have HO671 := n1_; have HO678 := n2_; have HO683 := n3_; have HO687 := n4_; have BK657 := n5_; have BK666 := n6_; have BK673 := n7_; have BK680 := n8_; have HB := n9_; clear n0_ n1_ n2_ n3_ n4_ n5_ n6_ n7_ n8_ n9_; (try clear hb); (try clear hb2); (try clear hk); (try clear hi); (try clear ho0); have hcz46_0 : w45.cell? ⟨gb680, 0, none⟩ = some (.int .i64 t674) := (blk_cell BK680.out 0).trans rfl; have hcz46_1 : w45.cell? ⟨gb680, 1, none⟩ = some (.int .i64 t675) := (blk_cell BK680.out 1).trans rfl; have hcz46_2 : w45.cell? ⟨gb680, 2, none⟩ = some (.slice Ao41 t676.length co41) := (blk_cell BK680.out 2).trans rfl; have hfz46_0 := blk_frozen BK680.out 0; have hfz46_1 := blk_frozen BK680.out 1; have hfz46_2 := blk_frozen BK680.out 2) | (go_at_call 31; (with_reducible refine (barscanlaw38_areas.calls kj2 t674 t675 _ _ t676 t689 t692 _ ?side1 ?side2 A18.out).mono ?_); (case side1 => repeat ((exact (Kd.R_reads' HO678.out).2.2))); (case side2 => exact (Kd.R_reads' HO678.out).2.1); rintro e w47 ⟨v690, rfl, ho0, hb⟩; have n0_ := Aside0.mk (Kd.R_below (by (with_reducible repeat (fail)); exact HO664.out) hb); have n1_ := Aside0.mk (Kd.R_below (by (with_reducible repeat (fail)); exact HO671.out) hb); have n2_ := Aside0.mk (Kd.R_below (by (with_reducible repeat (fail)); exact HO678.out) hb); have n3_ := Aside0.mk (Kd.R_elder' (by (with_reducible repeat (fail)); exact HO683.out) (Kd.R_base ho0) hb); have n4_ := Aside0.mk (Kd.R_elder' (by (with_reducible repeat (fail)); exact HO687.out) (Kd.R_base ho0) hb); have n5_ := Aside0.mk (Kd.R_lower (Kd.R_new' (Kd.R_new' ho0 (Kd.R_lt (by (with_reducible repeat (fail)); exact HO683.out))) (Kd.R_lt (by (with_reducible repeat (fail)); exact HO687.out))) (below_size (by repeat ((with_reducible exact HB.out))))); have n6_ := Aside0.mk (blk_below (g := gb657) (o := .cells #[.int .i64 a0_0, .int .i64 a0_1, .slice A0_2 l0_2.length c0_2] 24 (0, 0)) (by (with_reducible repeat (fail)); exact BK657.out) hb); have n7_ := Aside0.mk (blk_below (g := gb666) (o := .cells #[.int .i64 t660, .int .i64 t661, .slice Ao27 t662.length co27] 24 (0, 0)) (by (with_reducible repeat (fail)); exact BK666.out) hb); have n8_ := Aside0.mk (blk_below (g := gb673) (o := .cells #[.int .i64 t667, .int .i64 t668, .slice Ao33 t669.length co33] 24 (0, 0)) (by (with_reducible repeat (fail)); exact BK673.out) hb); have n9_ := Aside0.mk (blk_below (g := gb680) (o := .cells #[.int .i64 t674, .int .i64 t675, .slice Ao41 t676.length co41] 24 (0, 0)) (by (with_reducible repeat (fail)); exact BK680.out) hb); have n10_ := Aside0.mk (below_step (by repeat ((with_reducible exact HB.out))) hb); clear HO664; clear HO671; clear HO678; clear HO683; clear HO687; clear BK657; clear BK666; clear BK673; clear BK680; clear HB; have HO664 := n0_; have HO671 := n1_; have HO678 := n2_; have HO683 := n3_; have HO687 := n4_; have HO691 := n5_; have BK657 := n6_; have BK666 := n7_; have BK673 := n8_; have BK680 := n9_; have HB := n10_; clear n0_ n1_ n2_ n3_ n4_ n5_ n6_ n7_ n8_ n9_ n10_; (try clear hb); (try clear hb2); (try clear hk); (try clear hi); (try clear ho0); have hcz48_0 : w47.cell? ⟨gb657, 0, none⟩ = some (.int .i64 a0_0) := (blk_cell BK657.out 0).trans rfl; have hcz48_1 : w47.cell? ⟨gb657, 1, none⟩ = some (.int .i64 a0_1) := (blk_cell BK657.out 1).trans rfl; have hcz48_2 : w47.cell? ⟨gb657, 2, none⟩ = some (.slice A0_2 l0_2.length c0_2) := (blk_cell BK657.out 2).trans rfl; have hfz48_0 := blk_frozen BK657.out 0; have hfz48_1 := blk_frozen BK657.out 1; have hfz48_2 := blk_frozen BK657.out 2) | (go_at_call 22; (with_reducible refine (components_Euler.calls kj2 a0_0 a0_1 _ _ l0_2 t693 t694 _ ?side1 ?side2 A19.out).mono ?_); (case side1 => repeat ((exact (Kd.C_below HR0_2.out HB.out)))); (case side2 => exact HC0_2.out); rintro e w49 ⟨rfl, hb⟩; have n0_ := Aside0.mk (Kd.R_below (by (with_reducible repeat (fail)); exact HO664.out) hb); have n1_ := Aside0.mk (Kd.R_below (by (with_reducible repeat (fail)); exact HO671.out) hb); have n2_ := Aside0.mk (Kd.R_below (by (with_reducible repeat (fail)); exact HO678.out) hb); have n3_ := Aside0.mk (Kd.R_below (by (with_reducible repeat (fail)); exact HO683.out) hb); have n4_ := Aside0.mk (Kd.R_below (by (with_reducible repeat (fail)); exact HO687.out) hb); have n5_ := Aside0.mk (Kd.R_below (by (with_reducible repeat (fail)); exact HO691.out) hb); have n6_ := Aside0.mk (blk_below (g := gb657) (o := .cells #[.int .i64 a0_0, .int .i64 a0_1, .slice A0_2 l0_2.length c0_2] 24 (0, 0)) (by (with_reducible repeat (fail)); exact BK657.out) hb); have n7_ := Aside0.mk (blk_below (g := gb666) (o := .cells #[.int .i64 t660, .int .i64 t661, .slice Ao27 t662.length co27] 24 (0, 0)) (by (with_reducible repeat (fail)); exact BK666.out) hb); have n8_ := Aside0.mk (blk_below (g := gb673) (o := .cells #[.int .i64 t667, .int .i64 t668, .slice Ao33 t669.length co33] 24 (0, 0)) (by (with_reducible repeat (fail)); exact BK673.out) hb); have n9_ := Aside0.mk (blk_below (g := gb680) (o := .cells #[.int .i64 t674, .int .i64 t675, .slice Ao41 t676.length co41] 24 (0, 0)) (by (with_reducible repeat (fail)); exact BK680.out) hb); have n10_ := Aside0.mk (below_step (by repeat ((with_reducible exact HB.out))) hb); clear HO664; clear HO671; clear HO678; clear HO683; clear HO687; clear HO691; clear BK657; clear BK666; clear BK673; clear BK680; clear HB; have HO664 := n0_; have HO671 := n1_; have HO678 := n2_; have HO683 := n3_; have HO687 := n4_; have HO691 := n5_; have BK657 := n6_; have BK666 := n7_; have BK673 := n8_; have BK680 := n9_; have HB := n10_; clear n0_ n1_ n2_ n3_ n4_ n5_ n6_ n7_ n8_ n9_ n10_; (try clear hb); (try clear hb2); (try clear hk); (try clear hi); have hcz50_0 : w49.cell? ⟨gb673, 0, none⟩ = some (.int .i64 t667) := (blk_cell BK673.out 0).trans rfl; have hcz50_1 : w49.cell? ⟨gb673, 1, none⟩ = some (.int .i64 t668) := (blk_cell BK673.out 1).trans rfl; have hcz50_2 : w49.cell? ⟨gb673, 2, none⟩ = some (.slice Ao33 t669.length co33) := (blk_cell BK673.out 2).trans rfl; have hfz50_0 := blk_frozen BK673.out 0; have hfz50_1 := blk_frozen BK673.out 1; have hfz50_2 := blk_frozen BK673.out 2) | (go_at_call 22; (with_reducible refine (components_Euler.calls kj2 t667 t668 _ _ t669 t695 t696 _ ?side1 ?side2 A20.out).mono ?_); (case side1 => repeat ((exact (Kd.R_reads' HO671.out).2.2))); (case side2 => exact (Kd.R_reads' HO671.out).2.1); rintro e w51 ⟨rfl, hb⟩; have n0_ := Aside0.mk (Kd.R_below (by (with_reducible repeat (fail)); exact HO664.out) hb); have n1_ := Aside0.mk (Kd.R_below (by (with_reducible repeat (fail)); exact HO671.out) hb); have n2_ := Aside0.mk (Kd.R_below (by (with_reducible repeat (fail)); exact HO678.out) hb); have n3_ := Aside0.mk (Kd.R_below (by (with_reducible repeat (fail)); exact HO683.out) hb); have n4_ := Aside0.mk (Kd.R_below (by (with_reducible repeat (fail)); exact HO687.out) hb); have n5_ := Aside0.mk (Kd.R_below (by (with_reducible repeat (fail)); exact HO691.out) hb); have n6_ := Aside0.mk (blk_below (g := gb657) (o := .cells #[.int .i64 a0_0, .int .i64 a0_1, .slice A0_2 l0_2.length c0_2] 24 (0, 0)) (by (with_reducible repeat (fail)); exact BK657.out) hb); have n7_ := Aside0.mk (blk_below (g := gb666) (o := .cells #[.int .i64 t660, .int .i64 t661, .slice Ao27 t662.length co27] 24 (0, 0)) (by (with_reducible repeat (fail)); exact BK666.out) hb); have n8_ := Aside0.mk (blk_below (g := gb673) (o := .cells #[.int .i64 t667, .int .i64 t668, .slice Ao33 t669.length co33] 24 (0, 0)) (by (with_reducible repeat (fail)); exact BK673.out) hb); have n9_ := Aside0.mk (blk_below (g := gb680) (o := .cells #[.int .i64 t674, .int .i64 t675, .slice Ao41 t676.length co41] 24 (0, 0)) (by (with_reducible repeat (fail)); exact BK680.out) hb); have n10_ := Aside0.mk (below_step (by repeat ((with_reducible exact HB.out))) hb); clear HO664; clear HO671; clear HO678; clear HO683; clear HO687; clear HO691; clear BK657; clear BK666; clear BK673; clear BK680; clear HB; have HO664 := n0_; have HO671 := n1_; have HO678 := n2_; have HO683 := n3_; have HO687 := n4_; have HO691 := n5_; have BK657 := n6_; have BK666 := n7_; have BK673 := n8_; have BK680 := n9_; have HB := n10_; clear n0_ n1_ n2_ n3_ n4_ n5_ n6_ n7_ n8_ n9_ n10_; (try clear hb); (try clear hb2); (try clear hk); (try clear hi)))
        repeat (go_quiet (fail); go_upto_region 11 with (fail))
        (try simp only [Act.put, List.setIfInBounds_toArray, List.set_cons_zero, List.set_cons_succ])
        go_cut [108] (fun v108 wc => ∃ (kq : Nat) (x108_20 : Bool), v108 = .bool x108_20 ∧ Aside0 (barscanlaw38_ComponentsSymmetric.j1 kq t681 t689 x108_20 = some true) ∧ Aside0 (kq ≤ kj2) ∧ Aside0 (Kd.R (Kd.int .i64) 3 wc w.heap.size (fun k_ => some k_ ≠ (v690 : Value).ownBlock) v682 t681) ∧ Aside0 (Kd.R (Kd.int .i64) 3 wc w.heap.size (fun k_ => some k_ ≠ (v682 : Value).ownBlock) v690 t689) ∧ Aside0 (Kd.R Kd.bool 4 wc w.heap.size (fun k_ => some k_ ≠ ((.slice Ao33 t669.length co33) : Value).ownBlock ∧ some k_ ≠ ((.slice Ao41 t676.length co41) : Value).ownBlock) (.slice Ao27 t662.length co27) t662) ∧ Aside0 (Kd.R Kd.bool 4 wc w.heap.size (fun k_ => some k_ ≠ ((.slice Ao27 t662.length co27) : Value).ownBlock ∧ some k_ ≠ ((.slice Ao41 t676.length co41) : Value).ownBlock) (.slice Ao33 t669.length co33) t669) ∧ Aside0 (Kd.R Kd.bool 4 wc w.heap.size (fun k_ => some k_ ≠ ((.slice Ao27 t662.length co27) : Value).ownBlock ∧ some k_ ≠ ((.slice Ao33 t669.length co33) : Value).ownBlock) (.slice Ao41 t676.length co41) t676) ∧ Aside0 (wc.heap[gb657]? = some (.cells #[.int .i64 a0_0, .int .i64 a0_1, (.slice A0_2 l0_2.length c0_2)] 24 (0, 0))) ∧ Aside0 (wc.heap[gb666]? = some (.cells #[.int .i64 t660, .int .i64 t661, (.slice Ao27 t662.length co27)] 24 (0, 0))) ∧ Aside0 (wc.heap[gb673]? = some (.cells #[.int .i64 t667, .int .i64 t668, (.slice Ao33 t669.length co33)] 24 (0, 0))) ∧ Aside0 (wc.heap[gb680]? = some (.cells #[.int .i64 t674, .int .i64 t675, (.slice Ao41 t676.length co41)] 24 (0, 0))) ∧ Aside0 (Below w.heap.size w wc))
        case first =>
          have H := HC21.out
          clear HC21
          by_cases c52 : t684 = true
          · subst c52
            have H1 : (if t688 = true then (if t692 = true then (if t694 = 0 then (if t696 = 0 then (if t693 = t695 then ((barscanlaw38_same.f kj2 t681 t685).bind fun t697 => (if t697 = true then (barscanlaw38_ComponentsSymmetric.j1 kj2 t681 t689 ((t681.length : Int) != (t689.length : Int))) else (barscanlaw38_ComponentsSymmetric.j1 kj2 t681 t689 true))) else (barscanlaw38_ComponentsSymmetric.j1 kj2 t681 t689 true)) else (barscanlaw38_ComponentsSymmetric.j1 kj2 t681 t689 true)) else (barscanlaw38_ComponentsSymmetric.j1 kj2 t681 t689 true)) else (barscanlaw38_ComponentsSymmetric.j1 kj2 t681 t689 true)) else (barscanlaw38_ComponentsSymmetric.j1 kj2 t681 t689 true)) = some true := by rw [if_pos rfl] at H; exact H
            clear H
            have H := H1
            clear H1
            by_cases c53 : t688 = true
            · subst c53
              have H1 : (if t692 = true then (if t694 = 0 then (if t696 = 0 then (if t693 = t695 then ((barscanlaw38_same.f kj2 t681 t685).bind fun t697 => (if t697 = true then (barscanlaw38_ComponentsSymmetric.j1 kj2 t681 t689 ((t681.length : Int) != (t689.length : Int))) else (barscanlaw38_ComponentsSymmetric.j1 kj2 t681 t689 true))) else (barscanlaw38_ComponentsSymmetric.j1 kj2 t681 t689 true)) else (barscanlaw38_ComponentsSymmetric.j1 kj2 t681 t689 true)) else (barscanlaw38_ComponentsSymmetric.j1 kj2 t681 t689 true)) else (barscanlaw38_ComponentsSymmetric.j1 kj2 t681 t689 true)) = some true := by rw [if_pos rfl] at H; exact H
              clear H
              have H := H1
              clear H1
              by_cases c54 : t692 = true
              · subst c54
                have H1 : (if t694 = 0 then (if t696 = 0 then (if t693 = t695 then ((barscanlaw38_same.f kj2 t681 t685).bind fun t697 => (if t697 = true then (barscanlaw38_ComponentsSymmetric.j1 kj2 t681 t689 ((t681.length : Int) != (t689.length : Int))) else (barscanlaw38_ComponentsSymmetric.j1 kj2 t681 t689 true))) else (barscanlaw38_ComponentsSymmetric.j1 kj2 t681 t689 true)) else (barscanlaw38_ComponentsSymmetric.j1 kj2 t681 t689 true)) else (barscanlaw38_ComponentsSymmetric.j1 kj2 t681 t689 true)) = some true := by rw [if_pos rfl] at H; exact H
                clear H
                have H := H1
                clear H1
                by_cases c55 : t694 = 0
                · rw [if_pos c55] at H
                  have c55b0 : (t694 == 0) = true := beq_iff_eq.mpr c55
                  have c55b1 : (t694 != 0) = false := bne_eq_false_iff_eq.mpr c55
                  clear c55
                  (skip)
                  by_cases c56 : t696 = 0
                  · rw [if_pos c56] at H
                    have c56b0 : (t696 == 0) = true := beq_iff_eq.mpr c56
                    have c56b1 : (t696 != 0) = false := bne_eq_false_iff_eq.mpr c56
                    clear c56
                    by_cases c57 : t693 = t695
                    · rw [if_pos c57] at H
                      have c57b0 : (t693 == t695) = true := beq_iff_eq.mpr c57
                      have c57b1 : (t693 != t695) = false := bne_eq_false_iff_eq.mpr c57
                      clear c57
                      replace H := Option.bind_eq_some_iff.mp H
                      obtain ⟨t697, A580, H⟩ := H
                      replace H : (if t697 = true then (barscanlaw38_ComponentsSymmetric.j1 kj2 t681 t689 ((t681.length : Int) != (t689.length : Int))) else (barscanlaw38_ComponentsSymmetric.j1 kj2 t681 t689 true)) = some true := H
                      have A58 := Aside0.mk A580
                      clear A580
                      by_cases c59 : t697 = true
                      · subst c59
                        have H1 : (barscanlaw38_ComponentsSymmetric.j1 kj2 t681 t689 ((t681.length : Int) != (t689.length : Int))) = some true := by rw [if_pos rfl] at H; exact H
                        clear H
                        have H := H1
                        clear H1
                        have H' := Aside0.mk H
                        clear H
                        obtain ⟨Ao60, co60, eo60⟩ := Kd.R_slice HO683.out
                        subst eo60
                        obtain ⟨Ao61, co61, eo61⟩ := Kd.R_slice HO687.out
                        subst eo61
                        go_wp2_with ((go_at_call 16; (with_reducible refine (barscanlaw38_same.calls kj2 _ _ t681 _ _ t685 true _ ?side1 ?side2 ?side3 ?side4 A58.out).mono ?_); (case side1 => repeat ((exact (Kd.R_reads' HO683.out).2.2))); (case side2 => exact (Kd.R_reads' HO683.out).2.1); (case side3 => repeat ((exact (Kd.R_reads' HO687.out).2.2))); (case side4 => exact (Kd.R_reads' HO687.out).2.1); rintro e w' ⟨rfl, ⟨nd, rfl⟩⟩; (try fail); obtain ⟨Ao62, co62, eo62⟩ := Kd.R_slice HO691.out; subst eo62))
                        repeat (go_quiet (fail); try go_wp2_with (fail))
                        go_meet
                        case rel => exact ⟨_, (((t681.length : Int) != (t689.length : Int))), (by rfl), H', ⟨by have := HJ2.out; omega⟩, ⟨by (with_reducible repeat (apply Kd.R_drewN)); exact Kd.R_mono HO683.out (fun _ hk => hk.2)⟩, ⟨by (with_reducible repeat (apply Kd.R_drewN)); exact Kd.R_mono HO691.out (fun _ hk => hk.1.2)⟩, ⟨by (with_reducible repeat (apply Kd.R_drewN)); exact Kd.R_mono HO664.out (fun _ hk => ⟨hk.1.2, hk.2⟩)⟩, ⟨by (with_reducible repeat (apply Kd.R_drewN)); exact Kd.R_mono HO671.out (fun _ hk => ⟨hk.1.2, hk.2⟩)⟩, ⟨by (with_reducible repeat (apply Kd.R_drewN)); exact Kd.R_mono HO678.out (fun _ hk => ⟨hk.1.2, hk.2⟩)⟩, ⟨by (with_reducible repeat (refine blk_drewN ?_ _)); exact BK657.out⟩, ⟨by (with_reducible repeat (refine blk_drewN ?_ _)); exact BK666.out⟩, ⟨by (with_reducible repeat (refine blk_drewN ?_ _)); exact BK673.out⟩, ⟨by (with_reducible repeat (refine blk_drewN ?_ _)); exact BK680.out⟩, ⟨by repeat ((with_reducible first | exact HB.out | apply pw_below_drewN))⟩⟩
                      · replace c59 := Bool.eq_false_iff.mpr c59
                        subst c59
                        have H1 : (barscanlaw38_ComponentsSymmetric.j1 kj2 t681 t689 true) = some true := by rw [if_neg (show ¬ (false = true) by decide)] at H; exact H
                        clear H
                        have H := H1
                        clear H1
                        have H' := Aside0.mk H
                        clear H
                        obtain ⟨Ao63, co63, eo63⟩ := Kd.R_slice HO683.out
                        subst eo63
                        obtain ⟨Ao64, co64, eo64⟩ := Kd.R_slice HO687.out
                        subst eo64
                        go_wp2_with ((go_at_call 16; (with_reducible refine (barscanlaw38_same.calls kj2 _ _ t681 _ _ t685 false _ ?side1 ?side2 ?side3 ?side4 A58.out).mono ?_); (case side1 => repeat ((exact (Kd.R_reads' HO683.out).2.2))); (case side2 => exact (Kd.R_reads' HO683.out).2.1); (case side3 => repeat ((exact (Kd.R_reads' HO687.out).2.2))); (case side4 => exact (Kd.R_reads' HO687.out).2.1); rintro e w' ⟨rfl, ⟨nd, rfl⟩⟩; (try fail)))
                        repeat (go_quiet (fail); try go_wp2_with (fail))
                        go_meet
                        case rel => exact ⟨_, (true), (by rfl), H', ⟨by have := HJ2.out; omega⟩, ⟨by (with_reducible repeat (apply Kd.R_drewN)); exact Kd.R_mono HO683.out (fun _ hk => hk.2)⟩, ⟨by (with_reducible repeat (apply Kd.R_drewN)); exact Kd.R_mono HO691.out (fun _ hk => hk.1.2)⟩, ⟨by (with_reducible repeat (apply Kd.R_drewN)); exact Kd.R_mono HO664.out (fun _ hk => ⟨hk.1.2, hk.2⟩)⟩, ⟨by (with_reducible repeat (apply Kd.R_drewN)); exact Kd.R_mono HO671.out (fun _ hk => ⟨hk.1.2, hk.2⟩)⟩, ⟨by (with_reducible repeat (apply Kd.R_drewN)); exact Kd.R_mono HO678.out (fun _ hk => ⟨hk.1.2, hk.2⟩)⟩, ⟨by (with_reducible repeat (refine blk_drewN ?_ _)); exact BK657.out⟩, ⟨by (with_reducible repeat (refine blk_drewN ?_ _)); exact BK666.out⟩, ⟨by (with_reducible repeat (refine blk_drewN ?_ _)); exact BK673.out⟩, ⟨by (with_reducible repeat (refine blk_drewN ?_ _)); exact BK680.out⟩, ⟨by repeat ((with_reducible first | exact HB.out | apply pw_below_drewN))⟩⟩
                    · rw [if_neg c57] at H
                      have c57b0 : (t693 == t695) = false := beq_eq_false_iff_ne.mpr c57
                      have c57b1 : (t693 != t695) = true := bne_iff_ne.mpr c57
                      have H' := Aside0.mk H
                      clear H
                      go_wp2
                      repeat (go_quiet (fail); try go_wp2)
                      go_meet
                      case rel => exact ⟨_, (true), (by rfl), H', ⟨by have := HJ2.out; omega⟩, ⟨by (with_reducible repeat (fail)); exact Kd.R_mono HO683.out (fun _ hk => hk.2)⟩, ⟨by (with_reducible repeat (fail)); exact Kd.R_mono HO691.out (fun _ hk => hk.1.2)⟩, ⟨by (with_reducible repeat (fail)); exact Kd.R_mono HO664.out (fun _ hk => ⟨hk.1.2, hk.2⟩)⟩, ⟨by (with_reducible repeat (fail)); exact Kd.R_mono HO671.out (fun _ hk => ⟨hk.1.2, hk.2⟩)⟩, ⟨by (with_reducible repeat (fail)); exact Kd.R_mono HO678.out (fun _ hk => ⟨hk.1.2, hk.2⟩)⟩, ⟨by (with_reducible repeat (fail)); exact BK657.out⟩, ⟨by (with_reducible repeat (fail)); exact BK666.out⟩, ⟨by (with_reducible repeat (fail)); exact BK673.out⟩, ⟨by (with_reducible repeat (fail)); exact BK680.out⟩, ⟨by repeat ((with_reducible exact HB.out))⟩⟩
                  · rw [if_neg c56] at H
                    have c56b0 : (t696 == 0) = false := beq_eq_false_iff_ne.mpr c56
                    have c56b1 : (t696 != 0) = true := bne_iff_ne.mpr c56
                    have H' := Aside0.mk H
                    clear H
                    go_wp2
                    repeat (go_quiet (fail); try go_wp2)
                    go_meet
                    case rel => exact ⟨_, (true), (by rfl), H', ⟨by have := HJ2.out; omega⟩, ⟨by (with_reducible repeat (fail)); exact Kd.R_mono HO683.out (fun _ hk => hk.2)⟩, ⟨by (with_reducible repeat (fail)); exact Kd.R_mono HO691.out (fun _ hk => hk.1.2)⟩, ⟨by (with_reducible repeat (fail)); exact Kd.R_mono HO664.out (fun _ hk => ⟨hk.1.2, hk.2⟩)⟩, ⟨by (with_reducible repeat (fail)); exact Kd.R_mono HO671.out (fun _ hk => ⟨hk.1.2, hk.2⟩)⟩, ⟨by (with_reducible repeat (fail)); exact Kd.R_mono HO678.out (fun _ hk => ⟨hk.1.2, hk.2⟩)⟩, ⟨by (with_reducible repeat (fail)); exact BK657.out⟩, ⟨by (with_reducible repeat (fail)); exact BK666.out⟩, ⟨by (with_reducible repeat (fail)); exact BK673.out⟩, ⟨by (with_reducible repeat (fail)); exact BK680.out⟩, ⟨by repeat ((with_reducible exact HB.out))⟩⟩
                · rw [if_neg c55] at H
                  have c55b0 : (t694 == 0) = false := beq_eq_false_iff_ne.mpr c55
                  have c55b1 : (t694 != 0) = true := bne_iff_ne.mpr c55
                  (skip)
                  have H' := Aside0.mk H
                  clear H
                  go_wp2
                  repeat (go_quiet (fail); try go_wp2)
                  go_meet
                  case rel => exact ⟨_, (true), (by rfl), H', ⟨by have := HJ2.out; omega⟩, ⟨by (with_reducible repeat (fail)); exact Kd.R_mono HO683.out (fun _ hk => hk.2)⟩, ⟨by (with_reducible repeat (fail)); exact Kd.R_mono HO691.out (fun _ hk => hk.1.2)⟩, ⟨by (with_reducible repeat (fail)); exact Kd.R_mono HO664.out (fun _ hk => ⟨hk.1.2, hk.2⟩)⟩, ⟨by (with_reducible repeat (fail)); exact Kd.R_mono HO671.out (fun _ hk => ⟨hk.1.2, hk.2⟩)⟩, ⟨by (with_reducible repeat (fail)); exact Kd.R_mono HO678.out (fun _ hk => ⟨hk.1.2, hk.2⟩)⟩, ⟨by (with_reducible repeat (fail)); exact BK657.out⟩, ⟨by (with_reducible repeat (fail)); exact BK666.out⟩, ⟨by (with_reducible repeat (fail)); exact BK673.out⟩, ⟨by (with_reducible repeat (fail)); exact BK680.out⟩, ⟨by repeat ((with_reducible exact HB.out))⟩⟩
              · replace c54 := Bool.eq_false_iff.mpr c54
                subst c54
                have H1 : (barscanlaw38_ComponentsSymmetric.j1 kj2 t681 t689 true) = some true := by rw [if_neg (show ¬ (false = true) by decide)] at H; exact H
                clear H
                have H := H1
                clear H1
                have H' := Aside0.mk H
                clear H
                go_wp2
                repeat (go_quiet (fail); try go_wp2)
                go_meet
                case rel => exact ⟨_, (true), (by rfl), H', ⟨by have := HJ2.out; omega⟩, ⟨by (with_reducible repeat (fail)); exact Kd.R_mono HO683.out (fun _ hk => hk.2)⟩, ⟨by (with_reducible repeat (fail)); exact Kd.R_mono HO691.out (fun _ hk => hk.1.2)⟩, ⟨by (with_reducible repeat (fail)); exact Kd.R_mono HO664.out (fun _ hk => ⟨hk.1.2, hk.2⟩)⟩, ⟨by (with_reducible repeat (fail)); exact Kd.R_mono HO671.out (fun _ hk => ⟨hk.1.2, hk.2⟩)⟩, ⟨by (with_reducible repeat (fail)); exact Kd.R_mono HO678.out (fun _ hk => ⟨hk.1.2, hk.2⟩)⟩, ⟨by (with_reducible repeat (fail)); exact BK657.out⟩, ⟨by (with_reducible repeat (fail)); exact BK666.out⟩, ⟨by (with_reducible repeat (fail)); exact BK673.out⟩, ⟨by (with_reducible repeat (fail)); exact BK680.out⟩, ⟨by repeat ((with_reducible exact HB.out))⟩⟩
            · replace c53 := Bool.eq_false_iff.mpr c53
              subst c53
              have H1 : (barscanlaw38_ComponentsSymmetric.j1 kj2 t681 t689 true) = some true := by rw [if_neg (show ¬ (false = true) by decide)] at H; exact H
              clear H
              have H := H1
              clear H1
              have H' := Aside0.mk H
              clear H
              go_wp2
              repeat (go_quiet (fail); try go_wp2)
              go_meet
              case rel => exact ⟨_, (true), (by rfl), H', ⟨by have := HJ2.out; omega⟩, ⟨by (with_reducible repeat (fail)); exact Kd.R_mono HO683.out (fun _ hk => hk.2)⟩, ⟨by (with_reducible repeat (fail)); exact Kd.R_mono HO691.out (fun _ hk => hk.1.2)⟩, ⟨by (with_reducible repeat (fail)); exact Kd.R_mono HO664.out (fun _ hk => ⟨hk.1.2, hk.2⟩)⟩, ⟨by (with_reducible repeat (fail)); exact Kd.R_mono HO671.out (fun _ hk => ⟨hk.1.2, hk.2⟩)⟩, ⟨by (with_reducible repeat (fail)); exact Kd.R_mono HO678.out (fun _ hk => ⟨hk.1.2, hk.2⟩)⟩, ⟨by (with_reducible repeat (fail)); exact BK657.out⟩, ⟨by (with_reducible repeat (fail)); exact BK666.out⟩, ⟨by (with_reducible repeat (fail)); exact BK673.out⟩, ⟨by (with_reducible repeat (fail)); exact BK680.out⟩, ⟨by repeat ((with_reducible exact HB.out))⟩⟩
          · replace c52 := Bool.eq_false_iff.mpr c52
            subst c52
            have H1 : (barscanlaw38_ComponentsSymmetric.j1 kj2 t681 t689 true) = some true := by rw [if_neg (show ¬ (false = true) by decide)] at H; exact H
            clear H
            have H := H1
            clear H1
            have H' := Aside0.mk H
            clear H
            go_wp2
            repeat (go_quiet (fail); try go_wp2)
            go_meet
            case rel => exact ⟨_, (true), (by rfl), H', ⟨by have := HJ2.out; omega⟩, ⟨by (with_reducible repeat (fail)); exact Kd.R_mono HO683.out (fun _ hk => hk.2)⟩, ⟨by (with_reducible repeat (fail)); exact Kd.R_mono HO691.out (fun _ hk => hk.1.2)⟩, ⟨by (with_reducible repeat (fail)); exact Kd.R_mono HO664.out (fun _ hk => ⟨hk.1.2, hk.2⟩)⟩, ⟨by (with_reducible repeat (fail)); exact Kd.R_mono HO671.out (fun _ hk => ⟨hk.1.2, hk.2⟩)⟩, ⟨by (with_reducible repeat (fail)); exact Kd.R_mono HO678.out (fun _ hk => ⟨hk.1.2, hk.2⟩)⟩, ⟨by (with_reducible repeat (fail)); exact BK657.out⟩, ⟨by (with_reducible repeat (fail)); exact BK666.out⟩, ⟨by (with_reducible repeat (fail)); exact BK673.out⟩, ⟨by (with_reducible repeat (fail)); exact BK680.out⟩, ⟨by repeat ((with_reducible exact HB.out))⟩⟩
        case rest =>
          clear HC21 hcz22_0 hcz22_1 hcz22_2 hcz26_0 hcz26_1 hcz26_2 hcz32_0 hcz32_1 hcz32_2 hcz34_0 hcz34_1 hcz34_2 hcz40_0 hcz40_1 hcz40_2 hcz42_0 hcz42_1 hcz42_2 hcz44_0 hcz44_1 hcz44_2 hcz46_0 hcz46_1 hcz46_2 hcz48_0 hcz48_1 hcz48_2 hcz50_0 hcz50_1 hcz50_2 hfz22_0 hfz22_1 hfz22_2 hfz26_0 hfz26_1 hfz26_2 hfz32_0 hfz32_1 hfz32_2 hfz34_0 hfz34_1 hfz34_2 hfz40_0 hfz40_1 hfz40_2 hfz42_0 hfz42_1 hfz42_2
          clear hfz44_0 hfz44_1 hfz44_2 hfz46_0 hfz46_1 hfz46_2 hfz48_0 hfz48_1 hfz48_2 hfz50_0 hfz50_1 hfz50_2
          obtain ⟨kq, x108_20, rfl, HA, HJ20, HO_11, HO_15, HO_667002, HO_674002, HO_681002, BK657, BK666, BK673, BK680, HB⟩ := hcut
          cases kq with
          | zero => exact absurd HA.out (by simp [barscanlaw38_ComponentsSymmetric.j1])
          | succ kj20 =>
            have H := HA.out
            clear HA
            simp only [barscanlaw38_ComponentsSymmetric.j1] at H
            by_cases c65 : x108_20 = true
            · subst c65
              have H1 : (some false) = some true := by rw [if_pos rfl] at H; exact H
              clear H
              have H := H1
              clear H1
              cases H
            · replace c65 := Bool.eq_false_iff.mpr c65
              subst c65
              have H1 : (barscanlaw38_ComponentsSymmetric.l0 kj20 t681 t689 0) = some true := by rw [if_neg (show ¬ (false = true) by decide)] at H; exact H
              clear H
              have H := H1
              clear H1
              have H' := Aside0.mk H
              clear H
              go_wp2
              repeat (go_quiet (fail); try go_wp2)
              go_loopg [21] kj20 (fun kq v21 w' => ∃ (x21_3 : Int), v21 = .int .i64 x21_3 ∧ Aside0 (barscanlaw38_ComponentsSymmetric.l0 kq t681 t689 x21_3 = some true) ∧ Aside0 (kq ≤ kj20) ∧ Aside0 (Kd.R (Kd.int .i64) 3 w' w.heap.size (fun k_ => some k_ ≠ (v690 : Value).ownBlock) v682 t681) ∧ Aside0 (Kd.R (Kd.int .i64) 3 w' w.heap.size (fun k_ => some k_ ≠ (v682 : Value).ownBlock) v690 t689) ∧ Aside0 (Kd.R Kd.bool 4 w' w.heap.size (fun k_ => some k_ ≠ ((.slice Ao33 t669.length co33) : Value).ownBlock ∧ some k_ ≠ ((.slice Ao41 t676.length co41) : Value).ownBlock) (.slice Ao27 t662.length co27) t662) ∧ Aside0 (Kd.R Kd.bool 4 w' w.heap.size (fun k_ => some k_ ≠ ((.slice Ao27 t662.length co27) : Value).ownBlock ∧ some k_ ≠ ((.slice Ao41 t676.length co41) : Value).ownBlock) (.slice Ao33 t669.length co33) t669) ∧ Aside0 (Kd.R Kd.bool 4 w' w.heap.size (fun k_ => some k_ ≠ ((.slice Ao27 t662.length co27) : Value).ownBlock ∧ some k_ ≠ ((.slice Ao33 t669.length co33) : Value).ownBlock) (.slice Ao41 t676.length co41) t676) ∧ Aside0 (w'.heap[gb657]? = some (.cells #[.int .i64 a0_0, .int .i64 a0_1, (.slice A0_2 l0_2.length c0_2)] 24 (0, 0))) ∧ Aside0 (w'.heap[gb666]? = some (.cells #[.int .i64 t660, .int .i64 t661, (.slice Ao27 t662.length co27)] 24 (0, 0))) ∧ Aside0 (w'.heap[gb673]? = some (.cells #[.int .i64 t667, .int .i64 t668, (.slice Ao33 t669.length co33)] 24 (0, 0))) ∧ Aside0 (w'.heap[gb680]? = some (.cells #[.int .i64 t674, .int .i64 t675, (.slice Ao41 t676.length co41)] 24 (0, 0))) ∧ Aside0 (Below w.heap.size w w'))
              case atStart => exact ⟨(0), (by rfl), H', ⟨Nat.le_refl _⟩, ⟨by (with_reducible repeat (fail)); exact HO_11.out⟩, ⟨by (with_reducible repeat (fail)); exact HO_15.out⟩, ⟨by (with_reducible repeat (fail)); exact HO_667002.out⟩, ⟨by (with_reducible repeat (fail)); exact HO_674002.out⟩, ⟨by (with_reducible repeat (fail)); exact HO_681002.out⟩, ⟨by (with_reducible repeat (fail)); exact BK657.out⟩, ⟨by (with_reducible repeat (fail)); exact BK666.out⟩, ⟨by (with_reducible repeat (fail)); exact BK673.out⟩, ⟨by (with_reducible repeat (fail)); exact BK680.out⟩, ⟨by repeat ((with_reducible exact HB.out))⟩⟩
              case round =>
                clear H'
                obtain ⟨x21_3, rfl, HA, HK3, HO_11, HO_15, HO_667002, HO_674002, HO_681002, BK657, BK666, BK673, BK680, HB⟩ := hrel
                cases gk with
                | zero => exact absurd HA.out (by simp [barscanlaw38_ComponentsSymmetric.l0])
                | succ k3 =>
                  have H := HA.out
                  clear HA
                  simp only [barscanlaw38_ComponentsSymmetric.l0] at H
                  by_cases c66 : x21_3 < (t681.length : Int)
                  · rw [if_pos c66] at H
                    have c66b0 : decide (x21_3 < (t681.length : Int)) = true := decide_eq_true c66
                    clear c66
                    by_cases c67 : 0 ≤ x21_3
                    · rw [if_pos c67] at H
                      have c67b0 : decide (0 ≤ x21_3) = true := decide_eq_true c67
                      clear c67
                      by_cases c68 : x21_3 < (t689.length : Int)
                      · rw [if_pos c68] at H
                        have c68b0 : decide (x21_3 < (t689.length : Int)) = true := decide_eq_true c68
                        clear c68
                        by_cases c69 : (rd t689 x21_3) = (wrap64 (4 * (rd t681 x21_3)))
                        · rw [if_pos c69] at H
                          have c69b0 : ((rd t689 x21_3) == (wrap64 (4 * (rd t681 x21_3)))) = true := beq_iff_eq.mpr c69
                          have c69b1 : ((rd t689 x21_3) != (wrap64 (4 * (rd t681 x21_3)))) = false := bne_eq_false_iff_eq.mpr c69
                          clear c69
                          have H' := Aside0.mk H
                          clear H
                          obtain ⟨Ao70, co70, eo70⟩ := Kd.R_slice HO_11.out
                          subst eo70
                          obtain ⟨Ao71, co71, eo71⟩ := Kd.R_slice HO_15.out
                          subst eo71
                          have p698 : 0 ≤ (x21_3 : Int) := of_decide_eq_true (by (with_reducible assumption))
                          have q698 : x21_3 < (t689.length : Int) := of_decide_eq_true (by (with_reducible assumption))
                          obtain ⟨ad698, e698, hx698_0⟩ := Kd.at_int (Kd.R_reads' HO_15.out).2.2 x21_3 p698 q698
                          cases e698
                          replace p698 := eq_true p698
                          replace q698 := eq_true q698
                          have p699 : 0 ≤ (x21_3 : Int) := of_decide_eq_true (by (with_reducible assumption))
                          have q699 : x21_3 < (t681.length : Int) := of_decide_eq_true (by (with_reducible assumption))
                          obtain ⟨ad699, e699, hx699_0⟩ := Kd.at_int (Kd.R_reads' HO_11.out).2.2 x21_3 p699 q699
                          cases e699
                          replace p699 := eq_true p699
                          replace q699 := eq_true q699
                          go_wp2
                          repeat (go_quiet (fail); try go_wp2)
                          go_roundg k3
                          case measure => have := HJ2.out; have := HJ20.out; have := HK3.out; omega
                          case rel => exact ⟨(wrap64 (x21_3 + 1)), (by rfl), H', ⟨by have := HJ2.out; have := HJ20.out; have := HK3.out; omega⟩, ⟨by (with_reducible repeat (apply Kd.R_drewN)); exact HO_11.out⟩, ⟨by (with_reducible repeat (apply Kd.R_drewN)); exact HO_15.out⟩, ⟨by (with_reducible repeat (apply Kd.R_drewN)); exact HO_667002.out⟩, ⟨by (with_reducible repeat (apply Kd.R_drewN)); exact HO_674002.out⟩, ⟨by (with_reducible repeat (apply Kd.R_drewN)); exact HO_681002.out⟩, ⟨by (with_reducible repeat (refine blk_drewN ?_ _)); exact BK657.out⟩, ⟨by (with_reducible repeat (refine blk_drewN ?_ _)); exact BK666.out⟩, ⟨by (with_reducible repeat (refine blk_drewN ?_ _)); exact BK673.out⟩, ⟨by (with_reducible repeat (refine blk_drewN ?_ _)); exact BK680.out⟩, ⟨by repeat ((with_reducible first | exact HB.out | apply pw_below_drewN))⟩⟩
                        · rw [if_neg c69] at H
                          have c69b0 : ((rd t689 x21_3) == (wrap64 (4 * (rd t681 x21_3)))) = false := beq_eq_false_iff_ne.mpr c69
                          have c69b1 : ((rd t689 x21_3) != (wrap64 (4 * (rd t681 x21_3)))) = true := bne_iff_ne.mpr c69
                          cases H
                      · rw [if_neg c68] at H
                        exact absurd H (by simp)
                    · rw [if_neg c67] at H
                      exact absurd H (by simp)
                  · rw [if_neg c66] at H
                    have c66b0 : decide (x21_3 < (t681.length : Int)) = false := decide_eq_false c66
                    clear c66
                    replace H := Option.bind_eq_some_iff.mp H
                    obtain ⟨t700, A720, H⟩ := H
                    replace H : (some t700) = some true := H
                    have A72 := Aside0.mk A720
                    clear A720
                    (obtain rfl := Option.some.inj H)
                    obtain ⟨Ao73, co73, eo73⟩ := Kd.R_slice HO_11.out
                    subst eo73
                    go_wp2_with ((go_at_call 13; (with_reducible refine (exHolds.calls  _ _ A72.out).mono ?_); rintro e w74 ⟨rfl, hb⟩; have n0_ := Aside0.mk (Kd.R_below (by (with_reducible repeat (fail)); exact HO_11.out) hb); have n1_ := Aside0.mk (Kd.R_below (by (with_reducible repeat (fail)); exact HO_15.out) hb); have n2_ := Aside0.mk (Kd.R_below (by (with_reducible repeat (fail)); exact HO_667002.out) hb); have n3_ := Aside0.mk (Kd.R_below (by (with_reducible repeat (fail)); exact HO_674002.out) hb); have n4_ := Aside0.mk (Kd.R_below (by (with_reducible repeat (fail)); exact HO_681002.out) hb); have n5_ := Aside0.mk (blk_below (g := gb657) (o := .cells #[.int .i64 a0_0, .int .i64 a0_1, .slice A0_2 l0_2.length c0_2] 24 (0, 0)) (by (with_reducible repeat (fail)); exact BK657.out) hb); have n6_ := Aside0.mk (blk_below (g := gb666) (o := .cells #[.int .i64 t660, .int .i64 t661, .slice Ao27 t662.length co27] 24 (0, 0)) (by (with_reducible repeat (fail)); exact BK666.out) hb); have n7_ := Aside0.mk (blk_below (g := gb673) (o := .cells #[.int .i64 t667, .int .i64 t668, .slice Ao33 t669.length co33] 24 (0, 0)) (by (with_reducible repeat (fail)); exact BK673.out) hb); have n8_ := Aside0.mk (blk_below (g := gb680) (o := .cells #[.int .i64 t674, .int .i64 t675, .slice Ao41 t676.length co41] 24 (0, 0)) (by (with_reducible repeat (fail)); exact BK680.out) hb); have n9_ := Aside0.mk (below_step (by repeat ((with_reducible exact HB.out))) hb); clear HO_11; clear HO_15; clear HO_667002; clear HO_674002; clear HO_681002; clear BK657; clear BK666; clear BK673; clear BK680; clear HB; have HO_11 := n0_; have HO_15 := n1_; have HO_667002 := n2_; have HO_674002 := n3_; have HO_681002 := n4_; have BK657 := n5_; have BK666 := n6_; have BK673 := n7_; have BK680 := n8_; have HB := n9_; clear n0_ n1_ n2_ n3_ n4_ n5_ n6_ n7_ n8_ n9_; (try clear hb); (try clear hb2); (try clear hk); (try clear hi)))
                    repeat (go_quiet (fail); try go_wp2_with (fail))
                    go_ret
                    exact ⟨by rfl, by repeat ((with_reducible exact HB.out))⟩

end Go.Proofs.Ytahibhipffojlaa.M
