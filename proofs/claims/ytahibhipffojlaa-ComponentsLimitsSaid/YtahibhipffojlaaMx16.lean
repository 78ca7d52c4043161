-- Machine side, printed by this session's own program over the kit's print (wip/tools/myprint.py). Lean checks it.
import Derived.Test.YtahibhipffojlaaMx0
import Derived.Test.YtahibhipffojlaaMx2
import Derived.Test.YtahibhipffojlaaMx3
import Derived.Test.YtahibhipffojlaaMx6
import Derived.Test.YtahibhipffojlaaEx
namespace Go.Proofs.Ytahibhipffojlaa.M
open Go.RowKit Go.Proofs.YtahibhipffojlaaW.PrintWords Go.Proofs.YtahibhipffojlaaW.PrintLast Go.Proofs.YtahibhipffojlaaW.PrintMore
attribute [local go_sem] max2_int min2_int max_two min_two max_three min_three max_four min_four   -- for this text's walks alone
set_option linter.unusedVariables false
set_option linter.unusedSimpArgs false

/-! ### barscanlaw38_ComponentsLimits: function 6 -/
mutual
def barscanlaw38_ComponentsLimits.l0 : Nat → Int → Bool → Int → Int → Int → Int → List Bool → Option (Bool)
  | 0, _, _, _, _, _, _, _ => none
  | k + 1, x0, x1, x5, x7, x437000, x437001, x437002 => if x7 < x437001 then (barscanlaw38_ComponentsLimits.l1 k x0 x1 x5 x7 0 x437000 x437001 x437002) else (if (((Int.tdiv x0 4) % 256) % 3) = 0 then ((components_Label.f x437000 x437001 x437002 x1).bind fun bt446 => (if x5 > 65536 then (if bt446.2.2 = 4 then (if (bt446.1.length : Int) = 0 then (if (bt446.2.1.length : Int) = 0 then ((exHolds.f).bind fun t453 => (some t453)) else (some false)) else (some false)) else (some false)) else (if bt446.2.2 = 0 then (if (bt446.2.1.length : Int) = x5 then (if 0 ≤ (wrap64 (x5 - 1)) then (if (wrap64 (x5 - 1)) < (bt446.2.1.length : Int) then (if ((rd_T38 bt446.2.1 (wrap64 (x5 - 1))).f1) = 1 then ((exHolds.f).bind fun t455 => (some t455)) else (some false)) else (none)) else (none)) else (some false)) else (some false)))) else (if (((Int.tdiv x0 4) % 256) % 3) = 1 then ((components_Euler.f k x437000 x437001 x437002).bind fun bt456 => (if x5 > 65536 then (if bt456.2 = 4 then (if bt456.1 = 0 then ((exHolds.f).bind fun t458 => (some t458)) else (some false)) else (some false)) else (if bt456.2 = 0 then (if bt456.1 = x5 then ((exHolds.f).bind fun t459 => (some t459)) else (some false)) else (some false)))) else ((components_Despeckle.f k x437000 x437001 x437002 2).bind fun bt460 => (if x5 > 65536 then (if bt460.2.2.2 = 4 then (if (bt460.2.2.1.length : Int) = 0 then ((exHolds.f).bind fun t467 => (some t467)) else (some false)) else (some false)) else (if bt460.2.2.2 = 0 then (if bt460.1 = x437000 then ((exHolds.f).bind fun t468 => (some t468)) else (some false)) else (some false))))))
def barscanlaw38_ComponentsLimits.l1 : Nat → Int → Bool → Int → Int → Int → Int → Int → List Bool → Option (Bool)
  | 0, _, _, _, _, _, _, _, _ => none
  | k + 1, x0, x1, x5, x7, x8, x437000, x437001, x437002 => if x8 < x437000 then (if (Int.tmod x8 2) = 0 then (if (Int.tmod x7 2) = 0 then (if x437002.length < 140737488355328 then (barscanlaw38_ComponentsLimits.l1 k x0 x1 x5 x7 (wrap64 (x8 + 1)) x437000 x437001 (x437002 ++ [decide ((wrap64 ((wrap64 ((wrap64 (Int.tdiv x7 2)) * 256)) + (wrap64 (Int.tdiv x8 2)))) < x5)])) else (none)) else (if x437002.length < 140737488355328 then (barscanlaw38_ComponentsLimits.l1 k x0 x1 x5 x7 (wrap64 (x8 + 1)) x437000 x437001 (x437002 ++ [false])) else (none))) else (if x437002.length < 140737488355328 then (barscanlaw38_ComponentsLimits.l1 k x0 x1 x5 x7 (wrap64 (x8 + 1)) x437000 x437001 (x437002 ++ [false])) else (none))) else (barscanlaw38_ComponentsLimits.l0 k x0 x1 x5 (wrap64 (x7 + 1)) x437000 x437001 x437002)
end
def barscanlaw38_ComponentsLimits.f (k : Nat) (a0 : Int) (a1 : Bool) : Option (Bool) := barscanlaw38_ComponentsLimits.l0 k a0 a1 (wrap64 (65535 + (wrap64 (Int.tmod a0 4)))) 0 512 515 ([] : List Bool)
theorem barscanlaw38_ComponentsLimits.mono_l : ∀ k, (∀ y0 y1 y2 y3 y4 y5 y6, LeO (barscanlaw38_ComponentsLimits.l0 k y0 y1 y2 y3 y4 y5 y6) (barscanlaw38_ComponentsLimits.l0 (k + 1) y0 y1 y2 y3 y4 y5 y6)) ∧ (∀ y0 y1 y2 y3 y4 y5 y6 y7, LeO (barscanlaw38_ComponentsLimits.l1 k y0 y1 y2 y3 y4 y5 y6 y7) (barscanlaw38_ComponentsLimits.l1 (k + 1) y0 y1 y2 y3 y4 y5 y6 y7))
  | 0 => ⟨fun _ _ _ _ _ _ _ r h => by simp [barscanlaw38_ComponentsLimits.l0] at h, fun _ _ _ _ _ _ _ _ r h => by simp [barscanlaw38_ComponentsLimits.l1] at h⟩
  | k + 1 => by
    obtain ⟨ih0, ih1⟩ := barscanlaw38_ComponentsLimits.mono_l k
    refine ⟨?_, ?_⟩
    · intro y0 y1 y2 y3 y4 y5 y6
      unfold barscanlaw38_ComponentsLimits.l0
      repeat' first
      | (with_reducible exact ih1 _ _ _ _ _ _ _ _)
      | (with_reducible exact components_Despeckle.mono _ _ _ _ _)
      | (with_reducible exact components_Euler.mono _ _ _ _)
      | (with_reducible exact LeO.refl _)
      | (with_reducible refine LeO.ite ?_ ?_)
      | (with_reducible refine LeO.bind ?_ (fun _ => ?_))
    · intro y0 y1 y2 y3 y4 y5 y6 y7
      unfold barscanlaw38_ComponentsLimits.l1
      repeat' first
      | (with_reducible exact ih0 _ _ _ _ _ _ _)
      | (with_reducible exact ih1 _ _ _ _ _ _ _ _)
      | (with_reducible exact LeO.refl _)
      | (with_reducible refine LeO.ite ?_ ?_)
theorem barscanlaw38_ComponentsLimits.mono : ∀ a0 a1 k, LeO (barscanlaw38_ComponentsLimits.f k a0 a1) (barscanlaw38_ComponentsLimits.f (k + 1) a0 a1) := by
  intro a0 a1 k
  obtain ⟨ih0, ih1⟩ := barscanlaw38_ComponentsLimits.mono_l k
  unfold barscanlaw38_ComponentsLimits.f
  repeat' first
      | (with_reducible exact ih0 _ _ _ _ _ _ _)
set_option maxHeartbeats 8000000 in
set_option maxRecDepth 100000 in
theorem barscanlaw38_ComponentsLimits.calls (k : Nat) (a0 : Int) (a1 : Bool) (w : World) (h : barscanlaw38_ComponentsLimits.f k a0 a1 = some true) :
    Calls Try.prog 6 #[.int .u8 a0, .bool a1] w fun e w' => e = .returned (.bool true) ∧ Below w.heap.size w w' := by
  have hu24 := Try.underlying24
  have HB := Aside0.mk (Below.refl w.heap.size w)
  have H : (barscanlaw38_ComponentsLimits.l0 k a0 a1 (wrap64 (65535 + (wrap64 (Int.tmod a0 4)))) 0 512 515 ([] : List Bool)) = some true := h
  clear h
  have H' := Aside0.mk H
  clear H
  go_enter Try.func6, Try.ntmps6
  go_wp2_with (((with_reducible refine gate_dst (N := 6) rfl ?_); (try (refine gate_guard (by rfl) ?_; dsimp only)); refine box_event ?hg (N := 6) ?hd (cs := #[.int .i64 0, .int .i64 0, .slice none 0 0]) (t := 24) ?hr ?_; (case hd => rfl); (case hg => rfl); (case hr => (go_simp; done)); intro gb436 hg w3 hbox hb; have n0_ := Aside0.mk (below_step (by repeat ((with_reducible exact HB.out))) hb); have n1_ := Aside0.mk (hbox); have n2_ := Aside0.mk ((by rw [hg]; exact (below_size (by repeat ((with_reducible exact HB.out)))) : w.heap.size ≤ gb436)); have n3_ := Aside0.mk ((by rw [hg]; exact (below_size (by repeat ((with_reducible exact HB.out)))) : w.heap.size ≤ gb436)); clear HB; have HB := n0_; have BK436 := n1_; have GW436 := n2_; have GE436 := n3_; clear n0_ n1_ n2_ n3_; clear hb hbox hg; have hcz4_0 : w3.cell? ⟨gb436, 0, none⟩ = some (.int .i64 0) := (blk_cell BK436.out 0).trans rfl; have hcz4_1 : w3.cell? ⟨gb436, 1, none⟩ = some (.int .i64 0) := (blk_cell BK436.out 1).trans rfl; have hcz4_2 : w3.cell? ⟨gb436, 2, none⟩ = some (.slice none 0 0) := (blk_cell BK436.out 2).trans rfl; have hfz4_0 := blk_frozen BK436.out 0; have hfz4_1 := blk_frozen BK436.out 1; have hfz4_2 := blk_frozen BK436.out 2))
  go_loopg [7] k (fun kq v7 w' => ∃ (x7_1 : Int) (x437002_1 : List Bool) (u437002 : Value), v7 = .int .i64 x7_1 ∧ Aside0 (barscanlaw38_ComponentsLimits.l0 kq a0 a1 (wrap64 (65535 + (wrap64 (Int.tmod a0 4)))) x7_1 512 515 x437002_1 = some true) ∧ Aside0 (kq ≤ k) ∧ Aside0 (Kd.R Kd.bool 4 w' w.heap.size (fun _ => True) u437002 x437002_1) ∧ Aside0 (w'.heap[gb436]? = some (.cells #[.int .i64 512, .int .i64 515, u437002] 24 (0, 0))) ∧ Aside0 (Below w.heap.size w w'))
  case atStart => exact ⟨(0), (([] : List Bool)), (.slice none 0 0), (by rfl), H', ⟨Nat.le_refl _⟩, ⟨by exact Kd.R_nil _ _ _ _ _⟩, ⟨by (with_reducible repeat (fail)); refine blk_put (cs := #[.int .i64 512, .int .i64 515, .slice none 0 0]) ?_ 2 _ rfl; (with_reducible repeat (fail)); refine blk_put (cs := #[.int .i64 512, .int .i64 0, .slice none 0 0]) ?_ 1 _ rfl; (with_reducible repeat (fail)); refine blk_put (cs := #[.int .i64 0, .int .i64 0, .slice none 0 0]) ?_ 0 _ rfl; (with_reducible repeat (fail)); exact BK436.out⟩, ⟨by repeat ((with_reducible first | exact HB.out | refine below_set ?_ GE436.out))⟩⟩
  case round =>
    clear H' hcz4_0 hcz4_1 hcz4_2 hfz4_0 hfz4_1 hfz4_2
    obtain ⟨x7_1, x437002_1, u437002, rfl, HA, HK1, HO_437002, BK436, HB⟩ := hrel
    cases gk with
    | zero => exact absurd HA.out (by simp [barscanlaw38_ComponentsLimits.l0])
    | succ k1 =>
      have H := HA.out
      clear HA
      simp only [barscanlaw38_ComponentsLimits.l0] at H
      by_cases c5 : x7_1 < 515
      · rw [if_pos c5] at H
        have c5b0 : decide (x7_1 < 515) = true := decide_eq_true c5
        clear c5
        have H' := Aside0.mk H
        clear H
        have hcz6_0 : wr.cell? ⟨gb436, 0, none⟩ = some (.int .i64 512) := (blk_cell BK436.out 0).trans rfl
        have hcz6_1 : wr.cell? ⟨gb436, 1, none⟩ = some (.int .i64 515) := (blk_cell BK436.out 1).trans rfl
        have hcz6_2 : wr.cell? ⟨gb436, 2, none⟩ = some (u437002) := (blk_cell BK436.out 2).trans rfl
        have hfz6_0 := blk_frozen BK436.out 0
        have hfz6_1 := blk_frozen BK436.out 1
        have hfz6_2 := blk_frozen BK436.out 2
        go_wp2
        go_loopg [8] k1 (fun kq v8 w' => ∃ (x8_2 : Int) (x437002_2 : List Bool) (u437002 : Value), v8 = .int .i64 x8_2 ∧ Aside0 (barscanlaw38_ComponentsLimits.l1 kq a0 a1 (wrap64 (65535 + (wrap64 (Int.tmod a0 4)))) x7_1 x8_2 512 515 x437002_2 = some true) ∧ Aside0 (kq ≤ k1) ∧ Aside0 (Kd.R Kd.bool 4 w' w.heap.size (fun _ => True) u437002 x437002_2) ∧ Aside0 (w'.heap[gb436]? = some (.cells #[.int .i64 512, .int .i64 515, u437002] 24 (0, 0))) ∧ Aside0 (Below w.heap.size w w'))
        case atStart => exact ⟨(0), (x437002_1), (u437002), (by rfl), H', ⟨Nat.le_refl _⟩, ⟨by (with_reducible repeat (fail)); exact HO_437002.out⟩, ⟨by (with_reducible repeat (fail)); exact BK436.out⟩, ⟨by repeat ((with_reducible exact HB.out))⟩⟩
        case round =>
          clear H' c5b0 hcz6_0 hcz6_1 hcz6_2 hfz6_0 hfz6_1 hfz6_2
          obtain ⟨x8_2, x437002_2, u437002, rfl, HA, HK2, HO_437002, BK436, HB⟩ := hrel
          cases gk with
          | zero => exact absurd HA.out (by simp [barscanlaw38_ComponentsLimits.l1])
          | succ k2 =>
            have H := HA.out
            clear HA
            simp only [barscanlaw38_ComponentsLimits.l1] at H
            by_cases c7 : x8_2 < 512
            · rw [if_pos c7] at H
              have c7b0 : decide (x8_2 < 512) = true := decide_eq_true c7
              clear c7
              by_cases c8 : (Int.tmod x8_2 2) = 0
              · rw [if_pos c8] at H
                have c8b0 : ((Int.tmod x8_2 2) == 0) = true := beq_iff_eq.mpr c8
                have c8b1 : ((Int.tmod x8_2 2) != 0) = false := bne_eq_false_iff_eq.mpr c8
                clear c8
                by_cases c9 : (Int.tmod x7_1 2) = 0
                · rw [if_pos c9] at H
                  have c9b0 : ((Int.tmod x7_1 2) == 0) = true := beq_iff_eq.mpr c9
                  have c9b1 : ((Int.tmod x7_1 2) != 0) = false := bne_eq_false_iff_eq.mpr c9
                  clear c9
                  by_cases c10 : x437002_2.length < 140737488355328
                  · rw [if_pos c10] at H
                    have LMc10 := Aside0.mk c10
                    clear c10
                    obtain ⟨y437, hy437⟩ : ∃ y_ : List Bool, y_ = (x437002_2 ++ [decide ((wrap64 ((wrap64 ((wrap64 (Int.tdiv x7_1 2)) * 256)) + (wrap64 (Int.tdiv x8_2 2)))) < (wrap64 (65535 + (wrap64 (Int.tmod a0 4)))))]) := ⟨_, rfl⟩
                    replace H : (barscanlaw38_ComponentsLimits.l1 k2 a0 a1 (wrap64 (65535 + (wrap64 (Int.tmod a0 4)))) x7_1 (wrap64 (x8_2 + 1)) 512 515 y437) = some true := by (rw [hy437]; with_reducible exact H)
                    have Ny437 := Aside0.mk hy437
                    clear hy437
                    have H' := Aside0.mk H
                    clear H
                    have hcz11_0 : wr.cell? ⟨gb436, 0, none⟩ = some (.int .i64 512) := (blk_cell BK436.out 0).trans rfl
                    have hcz11_1 : wr.cell? ⟨gb436, 1, none⟩ = some (.int .i64 515) := (blk_cell BK436.out 1).trans rfl
                    have hcz11_2 : wr.cell? ⟨gb436, 2, none⟩ = some (u437002) := (blk_cell BK436.out 2).trans rfl
                    have hfz11_0 := blk_frozen BK436.out 0
                    have hfz11_1 := blk_frozen BK436.out 1
                    have hfz11_2 := blk_frozen BK436.out 2
                    go_wp2_with (((with_reducible refine gate_builtin (b := .append) (xs := #[.tmp 34, .tmp 53]) rfl ?_); (try (refine gate_guard (by rfl) ?_; dsimp only)); at_builtin; refine Kd.R_append Kd.bool (w0 := w) w.heap.size rfl (.tmp 34) (.tmp 53) 22 4 (.bool false) 1 rfl Try.underlying22 info4 rfl (by decide) (by omega) u437002 x437002_2 (decide ((wrap64 ((wrap64 ((wrap64 (Int.tdiv x7_1 2)) * 256)) + (wrap64 (Int.tdiv x8_2 2)))) < (wrap64 (65535 + (wrap64 (Int.tmod a0 4)))))) [.bool (decide ((wrap64 ((wrap64 ((wrap64 (Int.tdiv x7_1 2)) * 256)) + (wrap64 (Int.tdiv x8_2 2)))) < (wrap64 (65535 + (wrap64 (Int.tmod a0 4))))))] (fun _ => True) (fun _ => False) rfl rfl ?aP (fun _ hk => hk.elim) ?aF ?aO ?aB ?aS ?aL ?_; (case aP => exact rfl); (case aB => exact (by repeat ((with_reducible exact HB.out)))); (case aF => exact (fun _ _ => trivial)); (case aO => exact (by (with_reducible repeat (fail)); exact HO_437002.out)); (case aS => exact (below_size (by repeat ((with_reducible exact HB.out))))); (case aL => have := LMc10.out; omega); intro v438 w12 ho hb hg hat; rw [← Ny437.out] at ho; have n0_ := Aside0.mk (blk_grown (g := gb436) (o := .cells #[.int .i64 512, .int .i64 515, u437002] 24 (0, 0)) (by (with_reducible repeat (fail)); exact BK436.out) hg (Kd.R_ne HO_437002.out BK436.out (by decide))); have n1_ := Aside0.mk (hb); have n2_ := Aside0.mk (ho); clear BK436; clear HB; clear HO_437002; have BK436 := n0_; have HB := n1_; have HO439 := n2_; clear n0_ n1_ n2_; clear ho hb hg hat; obtain ⟨Ao13, co13, eo13⟩ := Kd.R_slice HO439.out; subst eo13; have hcz14_0 : w12.cell? ⟨gb436, 0, none⟩ = some (.int .i64 512) := (blk_cell BK436.out 0).trans rfl; have hcz14_1 : w12.cell? ⟨gb436, 1, none⟩ = some (.int .i64 515) := (blk_cell BK436.out 1).trans rfl; have hcz14_2 : w12.cell? ⟨gb436, 2, none⟩ = some (u437002) := (blk_cell BK436.out 2).trans rfl; have hfz14_0 := blk_frozen BK436.out 0; have hfz14_1 := blk_frozen BK436.out 1; have hfz14_2 := blk_frozen BK436.out 2))
                    go_roundg k2
                    case measure => have := HK1.out; have := HK2.out; omega
                    case rel => exact ⟨(wrap64 (x8_2 + 1)), (y437), (.slice Ao13 y437.length co13), (by rfl), H', ⟨by have := HK1.out; have := HK2.out; omega⟩, ⟨by (with_reducible repeat (fail)); exact Kd.R_mono (Kd.R_far (p := ⟨gb436, 2, none⟩) (Kd.R_types HO439.out BK436.out (by decide)) (fun _ hk => hk.2) (.slice Ao13 y437.length co13)) (fun _ hk => trivial)⟩, ⟨by (with_reducible repeat (fail)); refine blk_put (cs := #[.int .i64 512, .int .i64 515, u437002]) ?_ 2 _ rfl; (with_reducible repeat (fail)); exact BK436.out⟩, ⟨by repeat ((with_reducible first | exact HB.out | refine below_set ?_ GE436.out))⟩⟩
                  · rw [if_neg c10] at H
                    exact absurd H (by simp)
                · rw [if_neg c9] at H
                  have c9b0 : ((Int.tmod x7_1 2) == 0) = false := beq_eq_false_iff_ne.mpr c9
                  have c9b1 : ((Int.tmod x7_1 2) != 0) = true := bne_iff_ne.mpr c9
                  by_cases c15 : x437002_2.length < 140737488355328
                  · rw [if_pos c15] at H
                    have LMc15 := Aside0.mk c15
                    clear c15
                    obtain ⟨y440, hy440⟩ : ∃ y_ : List Bool, y_ = (x437002_2 ++ [false]) := ⟨_, rfl⟩
                    replace H : (barscanlaw38_ComponentsLimits.l1 k2 a0 a1 (wrap64 (65535 + (wrap64 (Int.tmod a0 4)))) x7_1 (wrap64 (x8_2 + 1)) 512 515 y440) = some true := by (rw [hy440]; with_reducible exact H)
                    have Ny440 := Aside0.mk hy440
                    clear hy440
                    have H' := Aside0.mk H
                    clear H
                    have hcz16_0 : wr.cell? ⟨gb436, 0, none⟩ = some (.int .i64 512) := (blk_cell BK436.out 0).trans rfl
                    have hcz16_1 : wr.cell? ⟨gb436, 1, none⟩ = some (.int .i64 515) := (blk_cell BK436.out 1).trans rfl
                    have hcz16_2 : wr.cell? ⟨gb436, 2, none⟩ = some (u437002) := (blk_cell BK436.out 2).trans rfl
                    have hfz16_0 := blk_frozen BK436.out 0
                    have hfz16_1 := blk_frozen BK436.out 1
                    have hfz16_2 := blk_frozen BK436.out 2
                    go_wp2_with (((with_reducible refine gate_builtin (b := .append) (xs := #[.tmp 34, .tmp 53]) rfl ?_); (try (refine gate_guard (by rfl) ?_; dsimp only)); at_builtin; refine Kd.R_append Kd.bool (w0 := w) w.heap.size rfl (.tmp 34) (.tmp 53) 22 4 (.bool false) 1 rfl Try.underlying22 info4 rfl (by decide) (by omega) u437002 x437002_2 false [.bool false] (fun _ => True) (fun _ => False) rfl rfl ?aP (fun _ hk => hk.elim) ?aF ?aO ?aB ?aS ?aL ?_; (case aP => exact rfl); (case aB => exact (by repeat ((with_reducible exact HB.out)))); (case aF => exact (fun _ _ => trivial)); (case aO => exact (by (with_reducible repeat (fail)); exact HO_437002.out)); (case aS => exact (below_size (by repeat ((with_reducible exact HB.out))))); (case aL => have := LMc15.out; omega); intro v441 w17 ho hb hg hat; rw [← Ny440.out] at ho; have n0_ := Aside0.mk (blk_grown (g := gb436) (o := .cells #[.int .i64 512, .int .i64 515, u437002] 24 (0, 0)) (by (with_reducible repeat (fail)); exact BK436.out) hg (Kd.R_ne HO_437002.out BK436.out (by decide))); have n1_ := Aside0.mk (hb); have n2_ := Aside0.mk (ho); clear BK436; clear HB; clear HO_437002; have BK436 := n0_; have HB := n1_; have HO442 := n2_; clear n0_ n1_ n2_; clear ho hb hg hat; obtain ⟨Ao18, co18, eo18⟩ := Kd.R_slice HO442.out; subst eo18; have hcz19_0 : w17.cell? ⟨gb436, 0, none⟩ = some (.int .i64 512) := (blk_cell BK436.out 0).trans rfl; have hcz19_1 : w17.cell? ⟨gb436, 1, none⟩ = some (.int .i64 515) := (blk_cell BK436.out 1).trans rfl; have hcz19_2 : w17.cell? ⟨gb436, 2, none⟩ = some (u437002) := (blk_cell BK436.out 2).trans rfl; have hfz19_0 := blk_frozen BK436.out 0; have hfz19_1 := blk_frozen BK436.out 1; have hfz19_2 := blk_frozen BK436.out 2))
                    go_roundg k2
                    case measure => have := HK1.out; have := HK2.out; omega
                    case rel => exact ⟨(wrap64 (x8_2 + 1)), (y440), (.slice Ao18 y440.length co18), (by rfl), H', ⟨by have := HK1.out; have := HK2.out; omega⟩, ⟨by (with_reducible repeat (fail)); exact Kd.R_mono (Kd.R_far (p := ⟨gb436, 2, none⟩) (Kd.R_types HO442.out BK436.out (by decide)) (fun _ hk => hk.2) (.slice Ao18 y440.length co18)) (fun _ hk => trivial)⟩, ⟨by (with_reducible repeat (fail)); refine blk_put (cs := #[.int .i64 512, .int .i64 515, u437002]) ?_ 2 _ rfl; (with_reducible repeat (fail)); exact BK436.out⟩, ⟨by repeat ((with_reducible first | exact HB.out | refine below_set ?_ GE436.out))⟩⟩
                  · rw [if_neg c15] at H
                    exact absurd H (by simp)
              · rw [if_neg c8] at H
                have c8b0 : ((Int.tmod x8_2 2) == 0) = false := beq_eq_false_iff_ne.mpr c8
                have c8b1 : ((Int.tmod x8_2 2) != 0) = true := bne_iff_ne.mpr c8
                by_cases c20 : x437002_2.length < 140737488355328
                · rw [if_pos c20] at H
                  have LMc20 := Aside0.mk c20
                  clear c20
                  obtain ⟨y443, hy443⟩ : ∃ y_ : List Bool, y_ = (x437002_2 ++ [false]) := ⟨_, rfl⟩
                  replace H : (barscanlaw38_ComponentsLimits.l1 k2 a0 a1 (wrap64 (65535 + (wrap64 (Int.tmod a0 4)))) x7_1 (wrap64 (x8_2 + 1)) 512 515 y443) = some true := by (rw [hy443]; with_reducible exact H)
                  have Ny443 := Aside0.mk hy443
                  clear hy443
                  have H' := Aside0.mk H
                  clear H
                  have hcz21_0 : wr.cell? ⟨gb436, 0, none⟩ = some (.int .i64 512) := (blk_cell BK436.out 0).trans rfl
                  have hcz21_1 : wr.cell? ⟨gb436, 1, none⟩ = some (.int .i64 515) := (blk_cell BK436.out 1).trans rfl
                  have hcz21_2 : wr.cell? ⟨gb436, 2, none⟩ = some (u437002) := (blk_cell BK436.out 2).trans rfl
                  have hfz21_0 := blk_frozen BK436.out 0
                  have hfz21_1 := blk_frozen BK436.out 1
                  have hfz21_2 := blk_frozen BK436.out 2
                  go_wp2_with (((with_reducible refine gate_builtin (b := .append) (xs := #[.tmp 34, .tmp 53]) rfl ?_); (try (refine gate_guard (by rfl) ?_; dsimp only)); at_builtin; refine Kd.R_append Kd.bool (w0 := w) w.heap.size rfl (.tmp 34) (.tmp 53) 22 4 (.bool false) 1 rfl Try.underlying22 info4 rfl (by decide) (by omega) u437002 x437002_2 false [.bool false] (fun _ => True) (fun _ => False) rfl rfl ?aP (fun _ hk => hk.elim) ?aF ?aO ?aB ?aS ?aL ?_; (case aP => exact rfl); (case aB => exact (by repeat ((with_reducible exact HB.out)))); (case aF => exact (fun _ _ => trivial)); (case aO => exact (by (with_reducible repeat (fail)); exact HO_437002.out)); (case aS => exact (below_size (by repeat ((with_reducible exact HB.out))))); (case aL => have := LMc20.out; omega); intro v444 w22 ho hb hg hat; rw [← Ny443.out] at ho; have n0_ := Aside0.mk (blk_grown (g := gb436) (o := .cells #[.int .i64 512, .int .i64 515, u437002] 24 (0, 0)) (by (with_reducible repeat (fail)); exact BK436.out) hg (Kd.R_ne HO_437002.out BK436.out (by decide))); have n1_ := Aside0.mk (hb); have n2_ := Aside0.mk (ho); clear BK436; clear HB; clear HO_437002; have BK436 := n0_; have HB := n1_; have HO445 := n2_; clear n0_ n1_ n2_; clear ho hb hg hat; obtain ⟨Ao23, co23, eo23⟩ := Kd.R_slice HO445.out; subst eo23; have hcz24_0 : w22.cell? ⟨gb436, 0, none⟩ = some (.int .i64 512) := (blk_cell BK436.out 0).trans rfl; have hcz24_1 : w22.cell? ⟨gb436, 1, none⟩ = some (.int .i64 515) := (blk_cell BK436.out 1).trans rfl; have hcz24_2 : w22.cell? ⟨gb436, 2, none⟩ = some (u437002) := (blk_cell BK436.out 2).trans rfl; have hfz24_0 := blk_frozen BK436.out 0; have hfz24_1 := blk_frozen BK436.out 1; have hfz24_2 := blk_frozen BK436.out 2))
                  go_roundg k2
                  case measure => have := HK1.out; have := HK2.out; omega
                  case rel => exact ⟨(wrap64 (x8_2 + 1)), (y443), (.slice Ao23 y443.length co23), (by rfl), H', ⟨by have := HK1.out; have := HK2.out; omega⟩, ⟨by (with_reducible repeat (fail)); exact Kd.R_mono (Kd.R_far (p := ⟨gb436, 2, none⟩) (Kd.R_types HO445.out BK436.out (by decide)) (fun _ hk => hk.2) (.slice Ao23 y443.length co23)) (fun _ hk => trivial)⟩, ⟨by (with_reducible repeat (fail)); refine blk_put (cs := #[.int .i64 512, .int .i64 515, u437002]) ?_ 2 _ rfl; (with_reducible repeat (fail)); exact BK436.out⟩, ⟨by repeat ((with_reducible first | exact HB.out | refine below_set ?_ GE436.out))⟩⟩
                · rw [if_neg c20] at H
                  exact absurd H (by simp)
            · rw [if_neg c7] at H
              have c7b0 : decide (x8_2 < 512) = false := decide_eq_false c7
              clear c7
              have H' := Aside0.mk H
              clear H
              have hcz25_0 : wr.cell? ⟨gb436, 0, none⟩ = some (.int .i64 512) := (blk_cell BK436.out 0).trans rfl
              have hcz25_1 : wr.cell? ⟨gb436, 1, none⟩ = some (.int .i64 515) := (blk_cell BK436.out 1).trans rfl
              have hcz25_2 : wr.cell? ⟨gb436, 2, none⟩ = some (u437002) := (blk_cell BK436.out 2).trans rfl
              have hfz25_0 := blk_frozen BK436.out 0
              have hfz25_1 := blk_frozen BK436.out 1
              have hfz25_2 := blk_frozen BK436.out 2
              go_wp2
              go_roundg k2
              case measure => have := HK1.out; have := HK2.out; omega
              case rel => exact ⟨(wrap64 (x7_1 + 1)), (x437002_2), (u437002), (by rfl), H', ⟨by have := HK1.out; have := HK2.out; omega⟩, ⟨by (with_reducible repeat (fail)); exact HO_437002.out⟩, ⟨by (with_reducible repeat (fail)); exact BK436.out⟩, ⟨by repeat ((with_reducible exact HB.out))⟩⟩
      · rw [if_neg c5] at H
        have c5b0 : decide (x7_1 < 515) = false := decide_eq_false c5
        clear c5
        by_cases c26 : (((Int.tdiv a0 4) % 256) % 3) = 0
        · rw [if_pos c26] at H
          have c26b0 : ((((Int.tdiv a0 4) % 256) % 3) == 0) = true := beq_iff_eq.mpr c26
          have c26b1 : ((((Int.tdiv a0 4) % 256) % 3) != 0) = false := bne_eq_false_iff_eq.mpr c26
          clear c26
          replace H := Option.bind_eq_some_iff.mp H
          obtain ⟨⟨t446, t449, t452⟩, A270, H⟩ := H
          replace H : (if (wrap64 (65535 + (wrap64 (Int.tmod a0 4)))) > 65536 then (if t452 = 4 then (if (t446.length : Int) = 0 then (if (t449.length : Int) = 0 then ((exHolds.f).bind fun t453 => (some t453)) else (some false)) else (some false)) else (some false)) else (if t452 = 0 then (if (t449.length : Int) = (wrap64 (65535 + (wrap64 (Int.tmod a0 4)))) then (if 0 ≤ (wrap64 ((wrap64 (65535 + (wrap64 (Int.tmod a0 4)))) - 1)) then (if (wrap64 ((wrap64 (65535 + (wrap64 (Int.tmod a0 4)))) - 1)) < (t449.length : Int) then (if ((rd_T38 t449 (wrap64 ((wrap64 (65535 + (wrap64 (Int.tmod a0 4)))) - 1))).f1) = 1 then ((exHolds.f).bind fun t455 => (some t455)) else (some false)) else (none)) else (none)) else (some false)) else (some false))) = some true := H
          have A27 := Aside0.mk A270
          clear A270
          by_cases c28 : (wrap64 (65535 + (wrap64 (Int.tmod a0 4)))) > 65536
          · rw [if_pos c28] at H
            have c28b0 : decide (65536 < (wrap64 (65535 + (wrap64 (Int.tmod a0 4))))) = true := decide_eq_true c28
            clear c28
            by_cases c29 : t452 = 4
            · rw [if_pos c29] at H
              have c29b0 : (t452 == 4) = true := beq_iff_eq.mpr c29
              have c29b1 : (t452 != 4) = false := bne_eq_false_iff_eq.mpr c29
              clear c29
              by_cases c30 : (t446.length : Int) = 0
              · rw [if_pos c30] at H
                have c30b0 : ((t446.length : Int) == 0) = true := beq_iff_eq.mpr c30
                have c30b1 : ((t446.length : Int) != 0) = false := bne_eq_false_iff_eq.mpr c30
                clear c30
                by_cases c31 : (t449.length : Int) = 0
                · rw [if_pos c31] at H
                  have c31b0 : ((t449.length : Int) == 0) = true := beq_iff_eq.mpr c31
                  have c31b1 : ((t449.length : Int) != 0) = false := bne_eq_false_iff_eq.mpr c31
                  clear c31
                  replace H := Option.bind_eq_some_iff.mp H
                  obtain ⟨t453, A320, H⟩ := H
                  replace H : (some t453) = some true := H
                  have A32 := Aside0.mk A320
                  clear A320
                  (obtain rfl := Option.some.inj H)
                  have hcz33_0 : wr.cell? ⟨gb436, 0, none⟩ = some (.int .i64 512) := (blk_cell BK436.out 0).trans rfl
                  have hcz33_1 : wr.cell? ⟨gb436, 1, none⟩ = some (.int .i64 515) := (blk_cell BK436.out 1).trans rfl
                  have hcz33_2 : wr.cell? ⟨gb436, 2, none⟩ = some (u437002) := (blk_cell BK436.out 2).trans rfl
                  have hfz33_0 := blk_frozen BK436.out 0
                  have hfz33_1 := blk_frozen BK436.out 1
                  have hfz33_2 := blk_frozen BK436.out 2
                  obtain ⟨Ao34, co34, eo34⟩ := Kd.R_slice HO_437002.out
                  subst eo34
                  go_wp2_with (first | ((with_reducible refine gate_callee (f := 14) rfl ?_); refine goesL_ (some 64) rfl rfl Try.func14 (by kernel_rfl) rfl #[.agg #[.int .i64 512, .int .i64 515, .slice Ao34 x437002_1.length co34], .bool a1] rfl (by (try simp only [List.map_toArray, List.map_cons, List.map_nil]); rfl) ?_; (with_reducible refine (components_Label.calls 512 515 _ _ x437002_1 a1 t446 t449 t452 _ ?side1 ?side2 A27.out).mono ?_); (case side1 => repeat ((exact (Kd.R_reads' HO_437002.out).2.2))); (case side2 => exact (Kd.R_reads' HO_437002.out).2.1); rintro e w35 ⟨v447, v450, rfl, ho0, ho1, hb⟩; refine ⟨_, rfl, ?_⟩; have n0_ := Aside0.mk (Kd.R_below (by (with_reducible repeat (fail)); exact HO_437002.out) hb); have n1_ := Aside0.mk (Kd.R_lower ho0 (below_size (by repeat ((with_reducible exact HB.out))))); have n2_ := Aside0.mk (Kd.R_lower ho1 (below_size (by repeat ((with_reducible exact HB.out))))); have n3_ := Aside0.mk (blk_below (g := gb436) (o := .cells #[.int .i64 512, .int .i64 515, .slice Ao34 x437002_1.length co34] 24 (0, 0)) (by (with_reducible repeat (fail)); exact BK436.out) hb); have n4_ := Aside0.mk (below_step (by repeat ((with_reducible exact HB.out))) hb); clear HO_437002; clear BK436; clear HB; have HO_437002 := n0_; have HO448 := n1_; have HO451 := n2_; have BK436 := n3_; have HB := n4_; clear n0_ n1_ n2_ n3_ n4_; (try clear hb); (try clear hb2); (try clear hk); (try clear hi); (try clear ho0); (try clear ho1); obtain ⟨Ao36, co36, eo36⟩ := Kd.R_slice HO448.out; subst eo36; obtain ⟨Ao37, co37, eo37⟩ := Kd.R_slice HO451.out; subst eo37) | (go_at_call 13; (with_reducible refine (exHolds.calls  _ _ A32.out).mono ?_); rintro e w38 ⟨rfl, hb⟩; have n0_ := Aside0.mk (Kd.R_below (by (with_reducible repeat (fail)); exact HO_437002.out) hb); have n1_ := Aside0.mk (Kd.R_below (by (with_reducible repeat (fail)); exact HO448.out) hb); have n2_ := Aside0.mk (Kd.R_below (by (with_reducible repeat (fail)); exact HO451.out) hb); have n3_ := Aside0.mk (blk_below (g := gb436) (o := .cells #[.int .i64 512, .int .i64 515, .slice Ao34 x437002_1.length co34] 24 (0, 0)) (by (with_reducible repeat (fail)); exact BK436.out) hb); have n4_ := Aside0.mk (below_step (by repeat ((with_reducible exact HB.out))) hb); clear HO_437002; clear HO448; clear HO451; clear BK436; clear HB; have HO_437002 := n0_; have HO448 := n1_; have HO451 := n2_; have BK436 := n3_; have HB := n4_; clear n0_ n1_ n2_ n3_ n4_; (try clear hb); (try clear hb2); (try clear hk); (try clear hi)))
                  go_ret
                  exact ⟨by rfl, by repeat ((with_reducible exact HB.out))⟩
                · rw [if_neg c31] at H
                  have c31b0 : ((t449.length : Int) == 0) = false := beq_eq_false_iff_ne.mpr c31
                  have c31b1 : ((t449.length : Int) != 0) = true := bne_iff_ne.mpr c31
                  have c31b2 : ¬ (t449 = []) := fun h_ => c31 (by rw [h_]; rfl)
                  cases H
              · rw [if_neg c30] at H
                have c30b0 : ((t446.length : Int) == 0) = false := beq_eq_false_iff_ne.mpr c30
                have c30b1 : ((t446.length : Int) != 0) = true := bne_iff_ne.mpr c30
                have c30b2 : ¬ (t446 = []) := fun h_ => c30 (by rw [h_]; rfl)
                cases H
            · rw [if_neg c29] at H
              have c29b0 : (t452 == 4) = false := beq_eq_false_iff_ne.mpr c29
              have c29b1 : (t452 != 4) = true := bne_iff_ne.mpr c29
              cases H
          · rw [if_neg c28] at H
            have c28b0 : decide (65536 < (wrap64 (65535 + (wrap64 (Int.tmod a0 4))))) = false := decide_eq_false c28
            clear c28
            by_cases c39 : t452 = 0
            · rw [if_pos c39] at H
              have c39b0 : (t452 == 0) = true := beq_iff_eq.mpr c39
              have c39b1 : (t452 != 0) = false := bne_eq_false_iff_eq.mpr c39
              clear c39
              by_cases c40 : (t449.length : Int) = (wrap64 (65535 + (wrap64 (Int.tmod a0 4))))
              · rw [if_pos c40] at H
                have c40b0 : ((t449.length : Int) == (wrap64 (65535 + (wrap64 (Int.tmod a0 4))))) = true := beq_iff_eq.mpr c40
                have c40b1 : ((t449.length : Int) != (wrap64 (65535 + (wrap64 (Int.tmod a0 4))))) = false := bne_eq_false_iff_eq.mpr c40
                clear c40
                obtain ⟨ji41, hji41⟩ : ∃ j_ : Int, (wrap64 ((wrap64 (65535 + (wrap64 (Int.tmod a0 4)))) - 1)) = j_ := ⟨_, rfl⟩
                replace H : (if 0 ≤ (ji41) then (if (ji41) < (t449.length : Int) then (if ((rd_T38 t449 (ji41)).f1) = 1 then ((exHolds.f).bind fun t455 => (some t455)) else (some false)) else (none)) else (none)) = some true := by (rw [hji41] at H; exact H)
                (try rw [hji41] at A27)
                have hji41w : (IntKind.i64.wrap ((wrap64 (65535 + (wrap64 (Int.tmod a0 4)))) - 1)) = ji41 := (i64_w _).trans hji41
                by_cases c42 : 0 ≤ (ji41)
                · rw [if_pos c42] at H
                  have c42b0 : decide (0 ≤ (ji41)) = true := decide_eq_true c42
                  clear c42
                  by_cases c43 : (ji41) < (t449.length : Int)
                  · rw [if_pos c43] at H
                    have c43b0 : decide ((ji41) < (t449.length : Int)) = true := decide_eq_true c43
                    clear c43
                    by_cases c44 : ((rd_T38 t449 (ji41)).f1) = 1
                    · rw [if_pos c44] at H
                      have c44b0 : (((rd_T38 t449 (ji41)).f1) == 1) = true := beq_iff_eq.mpr c44
                      have c44b1 : (((rd_T38 t449 (ji41)).f1) != 1) = false := bne_eq_false_iff_eq.mpr c44
                      clear c44
                      replace H := Option.bind_eq_some_iff.mp H
                      obtain ⟨t455, A450, H⟩ := H
                      replace H : (some t455) = some true := H
                      have A45 := Aside0.mk A450
                      clear A450
                      (obtain rfl := Option.some.inj H)
                      have hcz46_0 : wr.cell? ⟨gb436, 0, none⟩ = some (.int .i64 512) := (blk_cell BK436.out 0).trans rfl
                      have hcz46_1 : wr.cell? ⟨gb436, 1, none⟩ = some (.int .i64 515) := (blk_cell BK436.out 1).trans rfl
                      have hcz46_2 : wr.cell? ⟨gb436, 2, none⟩ = some (u437002) := (blk_cell BK436.out 2).trans rfl
                      have hfz46_0 := blk_frozen BK436.out 0
                      have hfz46_1 := blk_frozen BK436.out 1
                      have hfz46_2 := blk_frozen BK436.out 2
                      obtain ⟨Ao47, co47, eo47⟩ := Kd.R_slice HO_437002.out
                      subst eo47
                      go_wp2_with (first | ((with_reducible refine gate_callee (f := 14) rfl ?_); refine goesL_ (some 64) rfl rfl Try.func14 (by kernel_rfl) rfl #[.agg #[.int .i64 512, .int .i64 515, .slice Ao47 x437002_1.length co47], .bool a1] rfl (by (try simp only [List.map_toArray, List.map_cons, List.map_nil]); rfl) ?_; (with_reducible refine (components_Label.calls 512 515 _ _ x437002_1 a1 t446 t449 t452 _ ?side1 ?side2 A27.out).mono ?_); (case side1 => repeat ((exact (Kd.R_reads' HO_437002.out).2.2))); (case side2 => exact (Kd.R_reads' HO_437002.out).2.1); rintro e w48 ⟨v447, v450, rfl, ho0, ho1, hb⟩; refine ⟨_, rfl, ?_⟩; have n0_ := Aside0.mk (Kd.R_below (by (with_reducible repeat (fail)); exact HO_437002.out) hb); have n1_ := Aside0.mk (Kd.R_lower ho0 (below_size (by repeat ((with_reducible exact HB.out))))); have n2_ := Aside0.mk (Kd.R_lower ho1 (below_size (by repeat ((with_reducible exact HB.out))))); have n3_ := Aside0.mk (blk_below (g := gb436) (o := .cells #[.int .i64 512, .int .i64 515, .slice Ao47 x437002_1.length co47] 24 (0, 0)) (by (with_reducible repeat (fail)); exact BK436.out) hb); have n4_ := Aside0.mk (below_step (by repeat ((with_reducible exact HB.out))) hb); clear HO_437002; clear BK436; clear HB; have HO_437002 := n0_; have HO448 := n1_; have HO451 := n2_; have BK436 := n3_; have HB := n4_; clear n0_ n1_ n2_ n3_ n4_; (try clear hb); (try clear hb2); (try clear hk); (try clear hi); (try clear ho0); (try clear ho1); obtain ⟨Ao49, co49, eo49⟩ := Kd.R_slice HO451.out; subst eo49; have p454 : 0 ≤ ((ji41) : Int) := of_decide_eq_true (by (with_reducible assumption)); have q454 : (ji41) < (t449.length : Int) := of_decide_eq_true (by (with_reducible assumption)); obtain ⟨ad454, e454, hx454_0, hx454_1, hx454_2, hx454_3, hx454_4, hx454_5, hx454_6⟩ := at_T38 (Kd.R_reads' HO451.out).2.2 (ji41) p454 q454; cases e454; replace p454 := eq_true p454; replace q454 := eq_true q454) | (go_at_call 13; (with_reducible refine (exHolds.calls  _ _ A45.out).mono ?_); rintro e w50 ⟨rfl, hb⟩; have n0_ := Aside0.mk (Kd.R_below (by (with_reducible repeat (fail)); exact HO_437002.out) hb); have n1_ := Aside0.mk (Kd.R_below (by (with_reducible repeat (fail)); exact HO448.out) hb); have n2_ := Aside0.mk (Kd.R_below (by (with_reducible repeat (fail)); exact HO451.out) hb); have n3_ := Aside0.mk (blk_below (g := gb436) (o := .cells #[.int .i64 512, .int .i64 515, .slice Ao47 x437002_1.length co47] 24 (0, 0)) (by (with_reducible repeat (fail)); exact BK436.out) hb); have n4_ := Aside0.mk (below_step (by repeat ((with_reducible exact HB.out))) hb); clear HO_437002; clear HO448; clear HO451; clear BK436; clear HB; have HO_437002 := n0_; have HO448 := n1_; have HO451 := n2_; have BK436 := n3_; have HB := n4_; clear n0_ n1_ n2_ n3_ n4_; (try clear hb); (try clear hb2); (try clear hk); (try clear hi)))
                      go_ret
                      exact ⟨by rfl, by repeat ((with_reducible exact HB.out))⟩
                    · rw [if_neg c44] at H
                      have c44b0 : (((rd_T38 t449 (ji41)).f1) == 1) = false := beq_eq_false_iff_ne.mpr c44
                      have c44b1 : (((rd_T38 t449 (ji41)).f1) != 1) = true := bne_iff_ne.mpr c44
                      cases H
                  · rw [if_neg c43] at H
                    exact absurd H (by simp)
                · rw [if_neg c42] at H
                  exact absurd H (by simp)
              · rw [if_neg c40] at H
                have c40b0 : ((t449.length : Int) == (wrap64 (65535 + (wrap64 (Int.tmod a0 4))))) = false := beq_eq_false_iff_ne.mpr c40
                have c40b1 : ((t449.length : Int) != (wrap64 (65535 + (wrap64 (Int.tmod a0 4))))) = true := bne_iff_ne.mpr c40
                cases H
            · rw [if_neg c39] at H
              have c39b0 : (t452 == 0) = false := beq_eq_false_iff_ne.mpr c39
              have c39b1 : (t452 != 0) = true := bne_iff_ne.mpr c39
              cases H
        · rw [if_neg c26] at H
          have c26b0 : ((((Int.tdiv a0 4) % 256) % 3) == 0) = false := beq_eq_false_iff_ne.mpr c26
          have c26b1 : ((((Int.tdiv a0 4) % 256) % 3) != 0) = true := bne_iff_ne.mpr c26
          by_cases c51 : (((Int.tdiv a0 4) % 256) % 3) = 1
          · rw [if_pos c51] at H
            have c51b0 : ((((Int.tdiv a0 4) % 256) % 3) == 1) = true := beq_iff_eq.mpr c51
            have c51b1 : ((((Int.tdiv a0 4) % 256) % 3) != 1) = false := bne_eq_false_iff_eq.mpr c51
            clear c51
            replace H := Option.bind_eq_some_iff.mp H
            obtain ⟨⟨t456, t457⟩, A520, H⟩ := H
            replace H : (if (wrap64 (65535 + (wrap64 (Int.tmod a0 4)))) > 65536 then (if t457 = 4 then (if t456 = 0 then ((exHolds.f).bind fun t458 => (some t458)) else (some false)) else (some false)) else (if t457 = 0 then (if t456 = (wrap64 (65535 + (wrap64 (Int.tmod a0 4)))) then ((exHolds.f).bind fun t459 => (some t459)) else (some false)) else (some false))) = some true := H
            have A52 := Aside0.mk A520
            clear A520
            by_cases c53 : (wrap64 (65535 + (wrap64 (Int.tmod a0 4)))) > 65536
            · rw [if_pos c53] at H
              have c53b0 : decide (65536 < (wrap64 (65535 + (wrap64 (Int.tmod a0 4))))) = true := decide_eq_true c53
              clear c53
              by_cases c54 : t457 = 4
              · rw [if_pos c54] at H
                have c54b0 : (t457 == 4) = true := beq_iff_eq.mpr c54
                have c54b1 : (t457 != 4) = false := bne_eq_false_iff_eq.mpr c54
                clear c54
                by_cases c55 : t456 = 0
                · rw [if_pos c55] at H
                  have c55b0 : (t456 == 0) = true := beq_iff_eq.mpr c55
                  have c55b1 : (t456 != 0) = false := bne_eq_false_iff_eq.mpr c55
                  clear c55
                  replace H := Option.bind_eq_some_iff.mp H
                  obtain ⟨t458, A560, H⟩ := H
                  replace H : (some t458) = some true := H
                  have A56 := Aside0.mk A560
                  clear A560
                  (obtain rfl := Option.some.inj H)
                  have hcz57_0 : wr.cell? ⟨gb436, 0, none⟩ = some (.int .i64 512) := (blk_cell BK436.out 0).trans rfl
                  have hcz57_1 : wr.cell? ⟨gb436, 1, none⟩ = some (.int .i64 515) := (blk_cell BK436.out 1).trans rfl
                  have hcz57_2 : wr.cell? ⟨gb436, 2, none⟩ = some (u437002) := (blk_cell BK436.out 2).trans rfl
                  have hfz57_0 := blk_frozen BK436.out 0
                  have hfz57_1 := blk_frozen BK436.out 1
                  have hfz57_2 := blk_frozen BK436.out 2
                  obtain ⟨Ao58, co58, eo58⟩ := Kd.R_slice HO_437002.out
                  subst eo58
                  go_wp2_with (first | ((with_reducible refine gate_callee (f := 22) rfl ?_); refine goesL_ (some 109) rfl rfl Try.func22 (by kernel_rfl) rfl #[.agg #[.int .i64 512, .int .i64 515, .slice Ao58 x437002_1.length co58]] rfl (by (try simp only [List.map_toArray, List.map_cons, List.map_nil]); rfl) ?_; (with_reducible refine (components_Euler.calls k1 512 515 _ _ x437002_1 t456 t457 _ ?side1 ?side2 A52.out).mono ?_); (case side1 => repeat ((exact (Kd.R_reads' HO_437002.out).2.2))); (case side2 => exact (Kd.R_reads' HO_437002.out).2.1); rintro e w59 ⟨rfl, hb⟩; refine ⟨_, rfl, ?_⟩; have n0_ := Aside0.mk (Kd.R_below (by (with_reducible repeat (fail)); exact HO_437002.out) hb); have n1_ := Aside0.mk (blk_below (g := gb436) (o := .cells #[.int .i64 512, .int .i64 515, .slice Ao58 x437002_1.length co58] 24 (0, 0)) (by (with_reducible repeat (fail)); exact BK436.out) hb); have n2_ := Aside0.mk (below_step (by repeat ((with_reducible exact HB.out))) hb); clear HO_437002; clear BK436; clear HB; have HO_437002 := n0_; have BK436 := n1_; have HB := n2_; clear n0_ n1_ n2_; (try clear hb); (try clear hb2); (try clear hk); (try clear hi)) | (go_at_call 13; (with_reducible refine (exHolds.calls  _ _ A56.out).mono ?_); rintro e w60 ⟨rfl, hb⟩; have n0_ := Aside0.mk (Kd.R_below (by (with_reducible repeat (fail)); exact HO_437002.out) hb); have n1_ := Aside0.mk (blk_below (g := gb436) (o := .cells #[.int .i64 512, .int .i64 515, .slice Ao58 x437002_1.length co58] 24 (0, 0)) (by (with_reducible repeat (fail)); exact BK436.out) hb); have n2_ := Aside0.mk (below_step (by repeat ((with_reducible exact HB.out))) hb); clear HO_437002; clear BK436; clear HB; have HO_437002 := n0_; have BK436 := n1_; have HB := n2_; clear n0_ n1_ n2_; (try clear hb); (try clear hb2); (try clear hk); (try clear hi)))
                  go_ret
                  exact ⟨by rfl, by repeat ((with_reducible exact HB.out))⟩
                · rw [if_neg c55] at H
                  have c55b0 : (t456 == 0) = false := beq_eq_false_iff_ne.mpr c55
                  have c55b1 : (t456 != 0) = true := bne_iff_ne.mpr c55
                  cases H
              · rw [if_neg c54] at H
                have c54b0 : (t457 == 4) = false := beq_eq_false_iff_ne.mpr c54
                have c54b1 : (t457 != 4) = true := bne_iff_ne.mpr c54
                cases H
            · rw [if_neg c53] at H
              have c53b0 : decide (65536 < (wrap64 (65535 + (wrap64 (Int.tmod a0 4))))) = false := decide_eq_false c53
              clear c53
              by_cases c61 : t457 = 0
              · rw [if_pos c61] at H
                have c61b0 : (t457 == 0) = true := beq_iff_eq.mpr c61
                have c61b1 : (t457 != 0) = false := bne_eq_false_iff_eq.mpr c61
                clear c61
                by_cases c62 : t456 = (wrap64 (65535 + (wrap64 (Int.tmod a0 4))))
                · rw [if_pos c62] at H
                  have c62b0 : (t456 == (wrap64 (65535 + (wrap64 (Int.tmod a0 4))))) = true := beq_iff_eq.mpr c62
                  have c62b1 : (t456 != (wrap64 (65535 + (wrap64 (Int.tmod a0 4))))) = false := bne_eq_false_iff_eq.mpr c62
                  clear c62
                  replace H := Option.bind_eq_some_iff.mp H
                  obtain ⟨t459, A630, H⟩ := H
                  replace H : (some t459) = some true := H
                  have A63 := Aside0.mk A630
                  clear A630
                  (obtain rfl := Option.some.inj H)
                  have hcz64_0 : wr.cell? ⟨gb436, 0, none⟩ = some (.int .i64 512) := (blk_cell BK436.out 0).trans rfl
                  have hcz64_1 : wr.cell? ⟨gb436, 1, none⟩ = some (.int .i64 515) := (blk_cell BK436.out 1).trans rfl
                  have hcz64_2 : wr.cell? ⟨gb436, 2, none⟩ = some (u437002) := (blk_cell BK436.out 2).trans rfl
                  have hfz64_0 := blk_frozen BK436.out 0
                  have hfz64_1 := blk_frozen BK436.out 1
                  have hfz64_2 := blk_frozen BK436.out 2
                  obtain ⟨Ao65, co65, eo65⟩ := Kd.R_slice HO_437002.out
                  subst eo65
                  go_wp2_with (first | ((with_reducible refine gate_callee (f := 22) rfl ?_); refine goesL_ (some 109) rfl rfl Try.func22 (by kernel_rfl) rfl #[.agg #[.int .i64 512, .int .i64 515, .slice Ao65 x437002_1.length co65]] rfl (by (try simp only [List.map_toArray, List.map_cons, List.map_nil]); rfl) ?_; (with_reducible refine (components_Euler.calls k1 512 515 _ _ x437002_1 t456 t457 _ ?side1 ?side2 A52.out).mono ?_); (case side1 => repeat ((exact (Kd.R_reads' HO_437002.out).2.2))); (case side2 => exact (Kd.R_reads' HO_437002.out).2.1); rintro e w66 ⟨rfl, hb⟩; refine ⟨_, rfl, ?_⟩; have n0_ := Aside0.mk (Kd.R_below (by (with_reducible repeat (fail)); exact HO_437002.out) hb); have n1_ := Aside0.mk (blk_below (g := gb436) (o := .cells #[.int .i64 512, .int .i64 515, .slice Ao65 x437002_1.length co65] 24 (0, 0)) (by (with_reducible repeat (fail)); exact BK436.out) hb); have n2_ := Aside0.mk (below_step (by repeat ((with_reducible exact HB.out))) hb); clear HO_437002; clear BK436; clear HB; have HO_437002 := n0_; have BK436 := n1_; have HB := n2_; clear n0_ n1_ n2_; (try clear hb); (try clear hb2); (try clear hk); (try clear hi)) | (go_at_call 13; (with_reducible refine (exHolds.calls  _ _ A63.out).mono ?_); rintro e w67 ⟨rfl, hb⟩; have n0_ := Aside0.mk (Kd.R_below (by (with_reducible repeat (fail)); exact HO_437002.out) hb); have n1_ := Aside0.mk (blk_below (g := gb436) (o := .cells #[.int .i64 512, .int .i64 515, .slice Ao65 x437002_1.length co65] 24 (0, 0)) (by (with_reducible repeat (fail)); exact BK436.out) hb); have n2_ := Aside0.mk (below_step (by repeat ((with_reducible exact HB.out))) hb); clear HO_437002; clear BK436; clear HB; have HO_437002 := n0_; have BK436 := n1_; have HB := n2_; clear n0_ n1_ n2_; (try clear hb); (try clear hb2); (try clear hk); (try clear hi)))
                  go_ret
                  exact ⟨by rfl, by repeat ((with_reducible exact HB.out))⟩
                · rw [if_neg c62] at H
                  have c62b0 : (t456 == (wrap64 (65535 + (wrap64 (Int.tmod a0 4))))) = false := beq_eq_false_iff_ne.mpr c62
                  have c62b1 : (t456 != (wrap64 (65535 + (wrap64 (Int.tmod a0 4))))) = true := bne_iff_ne.mpr c62
                  cases H
              · rw [if_neg c61] at H
                have c61b0 : (t457 == 0) = false := beq_eq_false_iff_ne.mpr c61
                have c61b1 : (t457 != 0) = true := bne_iff_ne.mpr c61
                cases H
          · rw [if_neg c51] at H
            have c51b0 : ((((Int.tdiv a0 4) % 256) % 3) == 1) = false := beq_eq_false_iff_ne.mpr c51
            have c51b1 : ((((Int.tdiv a0 4) % 256) % 3) != 1) = true := bne_iff_ne.mpr c51
            replace H := Option.bind_eq_some_iff.mp H
            obtain ⟨⟨t460, t461, t462, t465⟩, A680, H⟩ := H
            replace H : (if (wrap64 (65535 + (wrap64 (Int.tmod a0 4)))) > 65536 then (if t465 = 4 then (if (t462.length : Int) = 0 then ((exHolds.f).bind fun t467 => (some t467)) else (some false)) else (some false)) else (if t465 = 0 then (if t460 = 512 then ((exHolds.f).bind fun t468 => (some t468)) else (some false)) else (some false))) = some true := H
            have A68 := Aside0.mk A680
            clear A680
            by_cases c69 : (wrap64 (65535 + (wrap64 (Int.tmod a0 4)))) > 65536
            · rw [if_pos c69] at H
              have c69b0 : decide (65536 < (wrap64 (65535 + (wrap64 (Int.tmod a0 4))))) = true := decide_eq_true c69
              clear c69
              by_cases c70 : t465 = 4
              · rw [if_pos c70] at H
                have c70b0 : (t465 == 4) = true := beq_iff_eq.mpr c70
                have c70b1 : (t465 != 4) = false := bne_eq_false_iff_eq.mpr c70
                clear c70
                by_cases c71 : (t462.length : Int) = 0
                · rw [if_pos c71] at H
                  have c71b0 : ((t462.length : Int) == 0) = true := beq_iff_eq.mpr c71
                  have c71b1 : ((t462.length : Int) != 0) = false := bne_eq_false_iff_eq.mpr c71
                  clear c71
                  replace H := Option.bind_eq_some_iff.mp H
                  obtain ⟨t467, A720, H⟩ := H
                  replace H : (some t467) = some true := H
                  have A72 := Aside0.mk A720
                  clear A720
                  (obtain rfl := Option.some.inj H)
                  have hcz73_0 : wr.cell? ⟨gb436, 0, none⟩ = some (.int .i64 512) := (blk_cell BK436.out 0).trans rfl
                  have hcz73_1 : wr.cell? ⟨gb436, 1, none⟩ = some (.int .i64 515) := (blk_cell BK436.out 1).trans rfl
                  have hcz73_2 : wr.cell? ⟨gb436, 2, none⟩ = some (u437002) := (blk_cell BK436.out 2).trans rfl
                  have hfz73_0 := blk_frozen BK436.out 0
                  have hfz73_1 := blk_frozen BK436.out 1
                  have hfz73_2 := blk_frozen BK436.out 2
                  obtain ⟨Ao74, co74, eo74⟩ := Kd.R_slice HO_437002.out
                  subst eo74
                  go_wp2_with (first | ((with_reducible refine gate_callee (f := 17) rfl ?_); refine goesL_ (some 135) rfl rfl Try.func17 (by kernel_rfl) rfl #[.agg #[.int .i64 512, .int .i64 515, .slice Ao74 x437002_1.length co74], .int .i64 2] rfl (by (try simp only [List.map_toArray, List.map_cons, List.map_nil]); rfl) ?_; (with_reducible refine (components_Despeckle.calls k1 512 515 _ _ x437002_1 2 t460 t461 t462 t465 _ ?side1 ?side2 A68.out).mono ?_); (case side1 => repeat ((exact (Kd.R_reads' HO_437002.out).2.2))); (case side2 => exact (Kd.R_reads' HO_437002.out).2.1); rintro e w75 ⟨v463, rfl, ho0, hb⟩; refine ⟨_, rfl, ?_⟩; have n0_ := Aside0.mk (Kd.R_elder' (by (with_reducible repeat (fail)); exact HO_437002.out) (Kd.R_base ho0) hb); have n1_ := Aside0.mk (Kd.R_lower (Kd.R_new' ho0 (Kd.R_lt (by (with_reducible repeat (fail)); exact HO_437002.out))) (below_size (by repeat ((with_reducible exact HB.out))))); have n2_ := Aside0.mk (blk_below (g := gb436) (o := .cells #[.int .i64 512, .int .i64 515, .slice Ao74 x437002_1.length co74] 24 (0, 0)) (by (with_reducible repeat (fail)); exact BK436.out) hb); have n3_ := Aside0.mk (below_step (by repeat ((with_reducible exact HB.out))) hb); clear HO_437002; clear BK436; clear HB; have HO_437002 := n0_; have HO464 := n1_; have BK436 := n2_; have HB := n3_; clear n0_ n1_ n2_ n3_; (try clear hb); (try clear hb2); (try clear hk); (try clear hi); (try clear ho0)) | ((with_reducible refine gate_dst (N := 14) rfl ?_); (try (refine gate_guard (by rfl) ?_; dsimp only)); refine box_event ?hg (N := 14) ?hd (cs := #[.int .i64 0, .int .i64 0, .slice none 0 0]) (t := 24) ?hr ?_; (case hd => rfl); (case hg => rfl); (case hr => (go_simp; done)); intro gb466 hg w76 hbox hb; have n0_ := Aside0.mk (Kd.R_below (by (with_reducible repeat (fail)); exact HO_437002.out) hb); have n1_ := Aside0.mk (Kd.R_below (by (with_reducible repeat (fail)); exact HO464.out) hb); have n2_ := Aside0.mk (blk_below (g := gb436) (o := .cells #[.int .i64 512, .int .i64 515, .slice Ao74 x437002_1.length co74] 24 (0, 0)) (by (with_reducible repeat (fail)); exact BK436.out) hb); have n3_ := Aside0.mk (below_step (by repeat ((with_reducible exact HB.out))) hb); have n4_ := Aside0.mk (hbox); have n5_ := Aside0.mk ((by rw [hg]; exact (below_size (by repeat ((with_reducible exact HB.out)))) : w.heap.size ≤ gb466)); have n6_ := Aside0.mk ((by rw [hg]; exact (below_size (by repeat ((with_reducible exact HB.out)))) : w.heap.size ≤ gb466)); have n7_ := Aside0.mk ((by rw [hg]; exact Nat.ne_of_lt (blk_lt (g := gb436) (o := .cells #[.int .i64 512, .int .i64 515, .slice Ao74 x437002_1.length co74] 24 (0, 0)) (by (with_reducible repeat (fail)); exact BK436.out)) : gb436 ≠ gb466)); have n8_ := Aside0.mk ((by rw [hg]; exact Nat.ne_of_gt (blk_lt (g := gb436) (o := .cells #[.int .i64 512, .int .i64 515, .slice Ao74 x437002_1.length co74] 24 (0, 0)) (by (with_reducible repeat (fail)); exact BK436.out)) : gb466 ≠ gb436)); clear HO_437002; clear HO464; clear BK436; clear HB; have HO_437002 := n0_; have HO464 := n1_; have BK436 := n2_; have HB := n3_; have BK466 := n4_; have GW466 := n5_; have GE466 := n6_; have NB436_466 := n7_; have NB466_436 := n8_; clear n0_ n1_ n2_ n3_ n4_ n5_ n6_ n7_ n8_; clear hb hbox hg; have hnb77 := NB466_436.out; have hnc77 := NB436_466.out; have hcz78_0 : w76.cell? ⟨gb466, 0, none⟩ = some (.int .i64 0) := (blk_cell BK466.out 0).trans rfl; have hcz78_1 : w76.cell? ⟨gb466, 1, none⟩ = some (.int .i64 0) := (blk_cell BK466.out 1).trans rfl; have hcz78_2 : w76.cell? ⟨gb466, 2, none⟩ = some (.slice none 0 0) := (blk_cell BK466.out 2).trans rfl; have hfz78_0 := blk_frozen BK466.out 0; have hfz78_1 := blk_frozen BK466.out 1; have hfz78_2 := blk_frozen BK466.out 2; obtain ⟨Ao79, co79, eo79⟩ := Kd.R_slice HO464.out; subst eo79) | (go_at_call 13; (with_reducible refine (exHolds.calls  _ _ A72.out).mono ?_); rintro e w80 ⟨rfl, hb⟩; have n0_ := Aside0.mk (Kd.R_below (by (with_reducible repeat (fail)); exact (Kd.R_mono (Kd.R_far (p := ⟨gb466, 2, none⟩) (Kd.R_far (p := ⟨gb466, 1, none⟩) (Kd.R_far (p := ⟨gb466, 0, none⟩) (Kd.R_types HO_437002.out BK466.out (by decide)) (fun _ hk => hk.2) (.int .i64 t460)) (fun _ hk => hk.2) (.int .i64 t461)) (fun _ hk => hk.2) (.slice Ao79 t462.length co79)) (fun _ h_ => h_.1))) hb); have n1_ := Aside0.mk (Kd.R_below (by (with_reducible repeat (fail)); exact (Kd.R_mono (Kd.R_far (p := ⟨gb466, 2, none⟩) (Kd.R_far (p := ⟨gb466, 1, none⟩) (Kd.R_far (p := ⟨gb466, 0, none⟩) (Kd.R_types HO464.out BK466.out (by decide)) (fun _ hk => hk.2) (.int .i64 t460)) (fun _ hk => hk.2) (.int .i64 t461)) (fun _ hk => hk.2) (.slice Ao79 t462.length co79)) (fun _ h_ => h_.1))) hb); have n2_ := Aside0.mk (blk_below (g := gb436) (o := .cells #[.int .i64 512, .int .i64 515, .slice Ao74 x437002_1.length co74] 24 (0, 0)) (by (with_reducible repeat (fail)); refine blk_far ?_ NB436_466.out _; (with_reducible repeat (fail)); refine blk_far ?_ NB436_466.out _; (with_reducible repeat (fail)); refine blk_far ?_ NB436_466.out _; (with_reducible repeat (fail)); exact BK436.out) hb); have n3_ := Aside0.mk (blk_below (g := gb466) (o := .cells #[.int .i64 t460, .int .i64 t461, .slice Ao79 t462.length co79] 24 (0, 0)) (by (with_reducible repeat (fail)); refine blk_put (cs := #[.int .i64 t460, .int .i64 t461, .slice none 0 0]) ?_ 2 _ rfl; (with_reducible repeat (fail)); refine blk_put (cs := #[.int .i64 t460, .int .i64 0, .slice none 0 0]) ?_ 1 _ rfl; (with_reducible repeat (fail)); refine blk_put (cs := #[.int .i64 0, .int .i64 0, .slice none 0 0]) ?_ 0 _ rfl; (with_reducible repeat (fail)); exact BK466.out) hb); have n4_ := Aside0.mk (below_step (by repeat ((with_reducible first | exact HB.out | refine below_set ?_ GE466.out))) hb); clear HO_437002; clear HO464; clear BK436; clear BK466; clear HB; have HO_437002 := n0_; have HO464 := n1_; have BK436 := n2_; have BK466 := n3_; have HB := n4_; clear n0_ n1_ n2_ n3_ n4_; (try clear hb); (try clear hb2); (try clear hk); (try clear hi)))
                  go_ret
                  exact ⟨by rfl, by repeat ((with_reducible exact HB.out))⟩
                · rw [if_neg c71] at H
                  have c71b0 : ((t462.length : Int) == 0) = false := beq_eq_false_iff_ne.mpr c71
                  have c71b1 : ((t462.length : Int) != 0) = true := bne_iff_ne.mpr c71
                  have c71b2 : ¬ (t462 = []) := fun h_ => c71 (by rw [h_]; rfl)
                  cases H
              · rw [if_neg c70] at H
                have c70b0 : (t465 == 4) = false := beq_eq_false_iff_ne.mpr c70
                have c70b1 : (t465 != 4) = true := bne_iff_ne.mpr c70
                cases H
            · rw [if_neg c69] at H
              have c69b0 : decide (65536 < (wrap64 (65535 + (wrap64 (Int.tmod a0 4))))) = false := decide_eq_false c69
              clear c69
              by_cases c81 : t465 = 0
              · rw [if_pos c81] at H
                have c81b0 : (t465 == 0) = true := beq_iff_eq.mpr c81
                have c81b1 : (t465 != 0) = false := bne_eq_false_iff_eq.mpr c81
                clear c81
                by_cases c82 : t460 = 512
                · rw [if_pos c82] at H
                  have c82b0 : (t460 == 512) = true := beq_iff_eq.mpr c82
                  have c82b1 : (t460 != 512) = false := bne_eq_false_iff_eq.mpr c82
                  clear c82
                  replace H := Option.bind_eq_some_iff.mp H
                  obtain ⟨t468, A830, H⟩ := H
                  replace H : (some t468) = some true := H
                  have A83 := Aside0.mk A830
                  clear A830
                  (obtain rfl := Option.some.inj H)
                  have hcz84_0 : wr.cell? ⟨gb436, 0, none⟩ = some (.int .i64 512) := (blk_cell BK436.out 0).trans rfl
                  have hcz84_1 : wr.cell? ⟨gb436, 1, none⟩ = some (.int .i64 515) := (blk_cell BK436.out 1).trans rfl
                  have hcz84_2 : wr.cell? ⟨gb436, 2, none⟩ = some (u437002) := (blk_cell BK436.out 2).trans rfl
                  have hfz84_0 := blk_frozen BK436.out 0
                  have hfz84_1 := blk_frozen BK436.out 1
                  have hfz84_2 := blk_frozen BK436.out 2
                  obtain ⟨Ao85, co85, eo85⟩ := Kd.R_slice HO_437002.out
                  subst eo85
                  go_wp2_with (first | ((with_reducible refine gate_callee (f := 17) rfl ?_); refine goesL_ (some 135) rfl rfl Try.func17 (by kernel_rfl) rfl #[.agg #[.int .i64 512, .int .i64 515, .slice Ao85 x437002_1.length co85], .int .i64 2] rfl (by (try simp only [List.map_toArray, List.map_cons, List.map_nil]); rfl) ?_; (with_reducible refine (components_Despeckle.calls k1 512 515 _ _ x437002_1 2 t460 t461 t462 t465 _ ?side1 ?side2 A68.out).mono ?_); (case side1 => repeat ((exact (Kd.R_reads' HO_437002.out).2.2))); (case side2 => exact (Kd.R_reads' HO_437002.out).2.1); rintro e w86 ⟨v463, rfl, ho0, hb⟩; refine ⟨_, rfl, ?_⟩; have n0_ := Aside0.mk (Kd.R_elder' (by (with_reducible repeat (fail)); exact HO_437002.out) (Kd.R_base ho0) hb); have n1_ := Aside0.mk (Kd.R_lower (Kd.R_new' ho0 (Kd.R_lt (by (with_reducible repeat (fail)); exact HO_437002.out))) (below_size (by repeat ((with_reducible exact HB.out))))); have n2_ := Aside0.mk (blk_below (g := gb436) (o := .cells #[.int .i64 512, .int .i64 515, .slice Ao85 x437002_1.length co85] 24 (0, 0)) (by (with_reducible repeat (fail)); exact BK436.out) hb); have n3_ := Aside0.mk (below_step (by repeat ((with_reducible exact HB.out))) hb); clear HO_437002; clear BK436; clear HB; have HO_437002 := n0_; have HO464 := n1_; have BK436 := n2_; have HB := n3_; clear n0_ n1_ n2_ n3_; (try clear hb); (try clear hb2); (try clear hk); (try clear hi); (try clear ho0)) | ((with_reducible refine gate_dst (N := 14) rfl ?_); (try (refine gate_guard (by rfl) ?_; dsimp only)); refine box_event ?hg (N := 14) ?hd (cs := #[.int .i64 0, .int .i64 0, .slice none 0 0]) (t := 24) ?hr ?_; (case hd => rfl); (case hg => rfl); (case hr => (go_simp; done)); intro gb466 hg w87 hbox hb; have n0_ := Aside0.mk (Kd.R_below (by (with_reducible repeat (fail)); exact HO_437002.out) hb); have n1_ := Aside0.mk (Kd.R_below (by (with_reducible repeat (fail)); exact HO464.out) hb); have n2_ := Aside0.mk (blk_below (g := gb436) (o := .cells #[.int .i64 512, .int .i64 515, .slice Ao85 x437002_1.length co85] 24 (0, 0)) (by (with_reducible repeat (fail)); exact BK436.out) hb); have n3_ := Aside0.mk (below_step (by repeat ((with_reducible exact HB.out))) hb); have n4_ := Aside0.mk (hbox); have n5_ := Aside0.mk ((by rw [hg]; exact (below_size (by repeat ((with_reducible exact HB.out)))) : w.heap.size ≤ gb466)); have n6_ := Aside0.mk ((by rw [hg]; exact (below_size (by repeat ((with_reducible exact HB.out)))) : w.heap.size ≤ gb466)); have n7_ := Aside0.mk ((by rw [hg]; exact Nat.ne_of_lt (blk_lt (g := gb436) (o := .cells #[.int .i64 512, .int .i64 515, .slice Ao85 x437002_1.length co85] 24 (0, 0)) (by (with_reducible repeat (fail)); exact BK436.out)) : gb436 ≠ gb466)); have n8_ := Aside0.mk ((by rw [hg]; exact Nat.ne_of_gt (blk_lt (g := gb436) (o := .cells #[.int .i64 512, .int .i64 515, .slice Ao85 x437002_1.length co85] 24 (0, 0)) (by (with_reducible repeat (fail)); exact BK436.out)) : gb466 ≠ gb436)); clear HO_437002; clear HO464; clear BK436; clear HB; have HO_437002 := n0_; have HO464 := n1_; have BK436 := n2_; have HB := n3_; have BK466 := n4_; have GW466 := n5_; have GE466 := n6_; have NB436_466 := n7_; have NB466_436 := n8_; clear n0_ n1_ n2_ n3_ n4_ n5_ n6_ n7_ n8_; clear hb hbox hg; have hnb88 := NB466_436.out; have hnc88 := NB436_466.out; have hcz89_0 : w87.cell? ⟨gb466, 0, none⟩ = some (.int .i64 0) := (blk_cell BK466.out 0).trans rfl; have hcz89_1 : w87.cell? ⟨gb466, 1, none⟩ = some (.int .i64 0) := (blk_cell BK466.out 1).trans rfl; have hcz89_2 : w87.cell? ⟨gb466, 2, none⟩ = some (.slice none 0 0) := (blk_cell BK466.out 2).trans rfl; have hfz89_0 := blk_frozen BK466.out 0; have hfz89_1 := blk_frozen BK466.out 1; have hfz89_2 := blk_frozen BK466.out 2; obtain ⟨Ao90, co90, eo90⟩ := Kd.R_slice HO464.out; subst eo90; have hcz91_0 : w87.cell? ⟨gb436, 0, none⟩ = some (.int .i64 512) := (blk_cell BK436.out 0).trans rfl; have hcz91_1 : w87.cell? ⟨gb436, 1, none⟩ = some (.int .i64 515) := (blk_cell BK436.out 1).trans rfl; have hcz91_2 : w87.cell? ⟨gb436, 2, none⟩ = some (.slice Ao85 x437002_1.length co85) := (blk_cell BK436.out 2).trans rfl; have hfz91_0 := blk_frozen BK436.out 0; have hfz91_1 := blk_frozen BK436.out 1; have hfz91_2 := blk_frozen BK436.out 2) | (go_at_call 13; (with_reducible refine (exHolds.calls  _ _ A83.out).mono ?_); rintro e w92 ⟨rfl, hb⟩; have n0_ := Aside0.mk (Kd.R_below (by (with_reducible repeat (fail)); exact (Kd.R_mono (Kd.R_far (p := ⟨gb466, 2, none⟩) (Kd.R_far (p := ⟨gb466, 1, none⟩) (Kd.R_far (p := ⟨gb466, 0, none⟩) (Kd.R_types HO_437002.out BK466.out (by decide)) (fun _ hk => hk.2) (.int .i64 t460)) (fun _ hk => hk.2) (.int .i64 t461)) (fun _ hk => hk.2) (.slice Ao90 t462.length co90)) (fun _ h_ => h_.1))) hb); have n1_ := Aside0.mk (Kd.R_below (by (with_reducible repeat (fail)); exact (Kd.R_mono (Kd.R_far (p := ⟨gb466, 2, none⟩) (Kd.R_far (p := ⟨gb466, 1, none⟩) (Kd.R_far (p := ⟨gb466, 0, none⟩) (Kd.R_types HO464.out BK466.out (by decide)) (fun _ hk => hk.2) (.int .i64 t460)) (fun _ hk => hk.2) (.int .i64 t461)) (fun _ hk => hk.2) (.slice Ao90 t462.length co90)) (fun _ h_ => h_.1))) hb); have n2_ := Aside0.mk (blk_below (g := gb436) (o := .cells #[.int .i64 512, .int .i64 515, .slice Ao85 x437002_1.length co85] 24 (0, 0)) (by (with_reducible repeat (fail)); refine blk_far ?_ NB436_466.out _; (with_reducible repeat (fail)); refine blk_far ?_ NB436_466.out _; (with_reducible repeat (fail)); refine blk_far ?_ NB436_466.out _; (with_reducible repeat (fail)); exact BK436.out) hb); have n3_ := Aside0.mk (blk_below (g := gb466) (o := .cells #[.int .i64 t460, .int .i64 t461, .slice Ao90 t462.length co90] 24 (0, 0)) (by (with_reducible repeat (fail)); refine blk_put (cs := #[.int .i64 t460, .int .i64 t461, .slice none 0 0]) ?_ 2 _ rfl; (with_reducible repeat (fail)); refine blk_put (cs := #[.int .i64 t460, .int .i64 0, .slice none 0 0]) ?_ 1 _ rfl; (with_reducible repeat (fail)); refine blk_put (cs := #[.int .i64 0, .int .i64 0, .slice none 0 0]) ?_ 0 _ rfl; (with_reducible repeat (fail)); exact BK466.out) hb); have n4_ := Aside0.mk (below_step (by repeat ((with_reducible first | exact HB.out | refine below_set ?_ GE466.out))) hb); clear HO_437002; clear HO464; clear BK436; clear BK466; clear HB; have HO_437002 := n0_; have HO464 := n1_; have BK436 := n2_; have BK466 := n3_; have HB := n4_; clear n0_ n1_ n2_ n3_ n4_; (try clear hb); (try clear hb2); (try clear hk); (try clear hi)))
                  go_ret
                  exact ⟨by rfl, by repeat ((with_reducible exact HB.out))⟩
                · rw [if_neg c82] at H
                  have c82b0 : (t460 == 512) = false := beq_eq_false_iff_ne.mpr c82
                  have c82b1 : (t460 != 512) = true := bne_iff_ne.mpr c82
                  cases H
              · rw [if_neg c81] at H
                have c81b0 : (t465 == 0) = false := beq_eq_false_iff_ne.mpr c81
                have c81b1 : (t465 != 0) = true := bne_iff_ne.mpr c81
                cases H

/-- THE ONE PURE STATEMENT of barscanlaw38_ComponentsLimits: yours. -/
def barscanlaw38_ComponentsLimits.Pure : Prop := ∀ (a0 : Int) (a1 : Bool), (Lit.int .u8 a0).wf = true → ∃ k, barscanlaw38_ComponentsLimits.f k a0 a1 = some true
theorem barscanlaw38_ComponentsLimits.walk (P : barscanlaw38_ComponentsLimits.Pure) (a0 : Int) (a1 : Bool) (w : World) (w0 : (Lit.int .u8 a0).wf = true) :
    Calls Try.prog 6 #[.int .u8 a0, .bool a1] w fun e w' => e = .returned (.bool true) ∧ Below w.heap.size w w' := by
  obtain ⟨k, h⟩ := P a0 a1 w0
  refine (barscanlaw38_ComponentsLimits.calls k a0 a1 w h).mono ?_
  rintro e w' ⟨rfl, hd⟩
  exact ⟨rfl, hd⟩

end Go.Proofs.Ytahibhipffojlaa.M
