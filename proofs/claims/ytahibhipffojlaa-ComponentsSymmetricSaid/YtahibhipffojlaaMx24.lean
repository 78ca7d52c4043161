-- Machine side, printed by this session's own program over the kit's print (wip/tools/myprint.py). Lean checks it.
import Derived.Test.YtahibhipffojlaaMx0
import Derived.Test.YtahibhipffojlaaMx2
namespace Go.Proofs.Ytahibhipffojlaa.M
open Go.RowKit Go.Proofs.YtahibhipffojlaaW.PrintWords Go.Proofs.YtahibhipffojlaaW.PrintLast Go.Proofs.YtahibhipffojlaaW.PrintMore
attribute [local go_sem] max2_int min2_int max_two min_two max_three min_three max_four min_four   -- for this text's walks alone
set_option linter.unusedVariables false
set_option linter.unusedSimpArgs false

/-! ### barscanlaw38_areas: function 31 -/
mutual
def barscanlaw38_areas.l0 : Nat → List (S38) → Int → List Int → Int → Option (List Int × Bool)
  | 0, _, _, _, _ => none
  | k + 1, x5, x6, x7, x8 => if x8 < (x5.length : Int) then (barscanlaw38_areas.l1 k x5 x6 x7 x8 ([] : List Int) 0) else (some (x7, (x6 == 0)))
def barscanlaw38_areas.l1 : Nat → List (S38) → Int → List Int → Int → List Int → Int → Option (List Int × Bool)
  | 0, _, _, _, _, _, _ => none
  | k + 1, x5, x6, x7, x8, x9, x10 => if x10 < (x7.length : Int) then (if 0 ≤ x10 then (if 0 ≤ x8 then (if x8 < (x5.length : Int) then (if (rd x7 x10) ≤ ((rd_T38 x5 x8).f1) then (if x9.length < 17592186044416 then (barscanlaw38_areas.l1 k x5 x6 x7 x8 (x9 ++ [rd x7 x10]) (wrap64 (x10 + 1))) else (none)) else (if x9.length < 17592186044416 then ((some (x9 ++ [(rd_T38 x5 x8).f1] : List Int)).bind fun y636 => (if x10 ≤ (x7.length : Int) then ((some (x7.drop (x10 : Int).toNat : List Int)).bind fun y639 => (if y636.length + y639.length < 17592186044416 then (barscanlaw38_areas.l0 k x5 x6 (y636 ++ y639) (wrap64 (x8 + 1))) else (none))) else (none))) else (none))) else (none)) else (none)) else (none)) else (if 0 ≤ x8 then (if x8 < (x5.length : Int) then (if x9.length < 17592186044416 then ((some (x9 ++ [(rd_T38 x5 x8).f1] : List Int)).bind fun y647 => (if 0 ≤ x10 then (if x10 ≤ (x7.length : Int) then ((some (x7.drop (x10 : Int).toNat : List Int)).bind fun y650 => (if y647.length + y650.length < 17592186044416 then (barscanlaw38_areas.l0 k x5 x6 (y647 ++ y650) (wrap64 (x8 + 1))) else (none))) else (none)) else (none))) else (none)) else (none)) else (none))
end
def barscanlaw38_areas.f (k : Nat) (a0_0 : Int) (a0_1 : Int) (l0_2 : List Bool) : Option (List Int × Bool) := (components_Label.f a0_0 a0_1 l0_2 true).bind fun bt622 => (barscanlaw38_areas.l0 k bt622.2.1 bt622.2.2 ([] : List Int) 0)
theorem barscanlaw38_areas.mono_l : ∀ k, (∀ y0 y1 y2 y3, LeO (barscanlaw38_areas.l0 k y0 y1 y2 y3) (barscanlaw38_areas.l0 (k + 1) y0 y1 y2 y3)) ∧ (∀ y0 y1 y2 y3 y4 y5, LeO (barscanlaw38_areas.l1 k y0 y1 y2 y3 y4 y5) (barscanlaw38_areas.l1 (k + 1) y0 y1 y2 y3 y4 y5))
  | 0 => ⟨fun _ _ _ _ r h => by simp [barscanlaw38_areas.l0] at h, fun _ _ _ _ _ _ r h => by simp [barscanlaw38_areas.l1] at h⟩
  | k + 1 => by
    obtain ⟨ih0, ih1⟩ := barscanlaw38_areas.mono_l k
    refine ⟨?_, ?_⟩
    · intro y0 y1 y2 y3
      unfold barscanlaw38_areas.l0
      repeat' first
      | (with_reducible exact ih1 _ _ _ _ _ _)
      | (with_reducible exact LeO.refl _)
      | (with_reducible refine LeO.ite ?_ ?_)
    · intro y0 y1 y2 y3 y4 y5
      unfold barscanlaw38_areas.l1
      repeat' first
      | (with_reducible exact ih0 _ _ _ _)
      | (with_reducible exact ih1 _ _ _ _ _ _)
      | (with_reducible exact LeO.refl _)
      | (with_reducible refine LeO.ite ?_ ?_)
      | (with_reducible refine LeO.bind ?_ (fun _ => ?_))
theorem barscanlaw38_areas.mono : ∀ a0 a1 a2 k, LeO (barscanlaw38_areas.f k a0 a1 a2) (barscanlaw38_areas.f (k + 1) a0 a1 a2) := by
  intro a0 a1 a2 k
  obtain ⟨ih0, ih1⟩ := barscanlaw38_areas.mono_l k
  unfold barscanlaw38_areas.f
  repeat' first
      | (with_reducible exact ih0 _ _ _ _)
      | (with_reducible exact LeO.refl _)
      | (with_reducible refine LeO.bind ?_ (fun _ => ?_))
set_option maxHeartbeats 8000000 in
set_option maxRecDepth 100000 in
theorem barscanlaw38_areas.calls (k : Nat) (a0_0 : Int) (a0_1 : Int) (A0_2 : Option Addr) (c0_2 : Nat) (l0_2 : List Bool) (r1 : List Int) (r2 : Bool) (w : World) (hr0_2 : Kd.C Kd.bool w A0_2 l0_2.length l0_2) (hc0_2 : l0_2.length ≤ c0_2) (h : barscanlaw38_areas.f k a0_0 a0_1 l0_2 = some (r1, r2)) :
    Calls Try.prog 31 #[.agg #[.int .i64 a0_0, .int .i64 a0_1, .slice A0_2 l0_2.length c0_2]] w fun e w' => ∃ v0_ : Value, e = .returned (.tuple #[v0_, .bool r2]) ∧ Kd.R (Kd.int .i64) 3 w' w.heap.size (fun _ => True) v0_ r1 ∧ Below w.heap.size w w' := by
  have hu24 := Try.underlying24
  have HR0_2 := Aside0.mk hr0_2
  have HC0_2 := Aside0.mk hc0_2
  clear hr0_2 hc0_2
  have HB := Aside0.mk (Below.refl w.heap.size w)
  have H : ((components_Label.f a0_0 a0_1 l0_2 true).bind fun bt622 => (barscanlaw38_areas.l0 k bt622.2.1 bt622.2.2 ([] : List Int) 0)) = some (r1, r2) := h
  clear h
  replace H := Option.bind_eq_some_iff.mp H
  obtain ⟨⟨t622, t625, t628⟩, A20, H⟩ := H
  replace H : (barscanlaw38_areas.l0 k t625 t628 ([] : List Int) 0) = some (r1, r2) := H
  have A2 := Aside0.mk A20
  clear A20
  have H' := Aside0.mk H
  clear H
  go_enter Try.func31, Try.ntmps31
  go_wp2_with (first | ((with_reducible refine gate_dst (N := 1) rfl ?_); refine box_event ?hg (N := 1) ?hd (cs := #[.int .i64 a0_0, .int .i64 a0_1, .slice A0_2 l0_2.length c0_2]) (t := 24) ?hr ?_; (case hd => rfl); (case hg => rfl); (case hr => (go_simp; done)); intro gb621 hg w3 hbox hb; have n0_ := Aside0.mk (below_step (by repeat ((with_reducible exact HB.out))) hb); have n1_ := Aside0.mk (hbox); have n2_ := Aside0.mk ((by rw [hg]; exact (below_size (by repeat ((with_reducible exact HB.out)))) : w.heap.size ≤ gb621)); have n3_ := Aside0.mk ((by rw [hg]; exact (below_size (by repeat ((with_reducible exact HB.out)))) : w.heap.size ≤ gb621)); clear HB; have HB := n0_; have BK621 := n1_; have GW621 := n2_; have GE621 := n3_; clear n0_ n1_ n2_ n3_; clear hb hbox hg; have hcz4_0 : w3.cell? ⟨gb621, 0, none⟩ = some (.int .i64 a0_0) := (blk_cell BK621.out 0).trans rfl; have hcz4_1 : w3.cell? ⟨gb621, 1, none⟩ = some (.int .i64 a0_1) := (blk_cell BK621.out 1).trans rfl; have hcz4_2 : w3.cell? ⟨gb621, 2, none⟩ = some (.slice A0_2 l0_2.length c0_2) := (blk_cell BK621.out 2).trans rfl; have hfz4_0 := blk_frozen BK621.out 0; have hfz4_1 := blk_frozen BK621.out 1; have hfz4_2 := blk_frozen BK621.out 2) | (go_at_call 14; (with_reducible refine (components_Label.calls a0_0 a0_1 _ _ l0_2 true t622 t625 t628 _ ?side1 ?side2 A2.out).mono ?_); (case side1 => repeat ((exact (Kd.C_below HR0_2.out HB.out)))); (case side2 => exact HC0_2.out); rintro e w5 ⟨v623, v626, rfl, ho0, ho1, hb⟩; have n0_ := Aside0.mk (Kd.R_lower ho0 (below_size (by repeat ((with_reducible exact HB.out))))); have n1_ := Aside0.mk (Kd.R_lower ho1 (below_size (by repeat ((with_reducible exact HB.out))))); have n2_ := Aside0.mk (blk_below (g := gb621) (o := .cells #[.int .i64 a0_0, .int .i64 a0_1, .slice A0_2 l0_2.length c0_2] 24 (0, 0)) (by (with_reducible repeat (fail)); exact BK621.out) hb); have n3_ := Aside0.mk (below_step (by repeat ((with_reducible exact HB.out))) hb); clear BK621; clear HB; have HO624 := n0_; have HO627 := n1_; have BK621 := n2_; have HB := n3_; clear n0_ n1_ n2_ n3_; (try clear hb); (try clear hb2); (try clear hk); (try clear hi); (try clear ho0); (try clear ho1)))
  repeat (go_quiet (fail); try go_wp2_with (fail))
  go_loopg [7, 8] k (fun kq v7 v8 w' => ∃ (x7_1 : List Int) (x8_1 : Int), v8 = .int .i64 x8_1 ∧ Aside0 (barscanlaw38_areas.l0 kq t625 t628 x7_1 x8_1 = some (r1, r2)) ∧ Aside0 (kq ≤ k) ∧ Aside0 (Kd.R k38 38 w' w.heap.size (fun _ => True) v626 t625) ∧ Aside0 (Kd.R (Kd.int .i64) 3 w' w.heap.size (fun _ => True) v7 x7_1) ∧ Aside0 (w'.heap[gb621]? = some (.cells #[.int .i64 a0_0, .int .i64 a0_1, (.slice A0_2 l0_2.length c0_2)] 24 (0, 0))) ∧ Aside0 (Below w.heap.size w w'))
  case atStart => exact ⟨(([] : List Int)), (0), (by rfl), H', ⟨Nat.le_refl _⟩, ⟨by (with_reducible repeat (fail)); exact HO627.out⟩, ⟨by exact Kd.R_nil _ _ _ _ _⟩, ⟨by (with_reducible repeat (fail)); exact BK621.out⟩, ⟨by repeat ((with_reducible exact HB.out))⟩⟩
  case round =>
    clear H' hcz4_0 hcz4_1 hcz4_2 hfz4_0 hfz4_1 hfz4_2
    obtain ⟨x7_1, x8_1, rfl, HA, HK1, HO_5, HO_7, BK621, HB⟩ := hrel
    cases gk with
    | zero => exact absurd HA.out (by simp [barscanlaw38_areas.l0])
    | succ k1 =>
      have H := HA.out
      clear HA
      simp only [barscanlaw38_areas.l0] at H
      by_cases c6 : x8_1 < (t625.length : Int)
      · rw [if_pos c6] at H
        have c6b0 : decide (x8_1 < (t625.length : Int)) = true := decide_eq_true c6
        clear c6
        have H' := Aside0.mk H
        clear H
        obtain ⟨Ao7, co7, eo7⟩ := Kd.R_slice HO_5.out
        subst eo7
        go_wp2
        repeat (go_quiet (fail); try go_wp2)
        go_loopg [9, 10] k1 (fun kq v9 v10 w' => ∃ (x9_2 : List Int) (x10_2 : Int), v10 = .int .i64 x10_2 ∧ Aside0 (barscanlaw38_areas.l1 kq t625 t628 x7_1 x8_1 x9_2 x10_2 = some (r1, r2)) ∧ Aside0 (kq ≤ k1) ∧ Aside0 (Kd.R k38 38 w' w.heap.size (fun _ => True) (.slice Ao7 t625.length co7) t625) ∧ Aside0 (Kd.R (Kd.int .i64) 3 w' w.heap.size (fun k_ => some k_ ≠ (v9 : Value).ownBlock) u7 x7_1) ∧ Aside0 (Kd.R (Kd.int .i64) 3 w' w.heap.size (fun k_ => some k_ ≠ (u7 : Value).ownBlock) v9 x9_2) ∧ Aside0 (w'.heap[gb621]? = some (.cells #[.int .i64 a0_0, .int .i64 a0_1, (.slice A0_2 l0_2.length c0_2)] 24 (0, 0))) ∧ Aside0 (Below w.heap.size w w'))
        case atStart => exact ⟨(([] : List Int)), (0), (by rfl), H', ⟨Nat.le_refl _⟩, ⟨by (with_reducible repeat (fail)); exact HO_5.out⟩, ⟨by (with_reducible repeat (fail)); exact Kd.R_mono HO_7.out (fun _ hk => (by simp [Value.ownBlock]))⟩, ⟨by exact Kd.R_nil _ _ _ _ _⟩, ⟨by (with_reducible repeat (fail)); exact BK621.out⟩, ⟨by repeat ((with_reducible exact HB.out))⟩⟩
        case round =>
          clear H' c6b0
          obtain ⟨x9_2, x10_2, rfl, HA, HK2, HO_5, HO_7, HO_9, BK621, HB⟩ := hrel
          cases gk with
          | zero => exact absurd HA.out (by simp [barscanlaw38_areas.l1])
          | succ k2 =>
            have H := HA.out
            clear HA
            simp only [barscanlaw38_areas.l1] at H
            by_cases c8 : x10_2 < (x7_1.length : Int)
            · rw [if_pos c8] at H
              have c8b0 : decide (x10_2 < (x7_1.length : Int)) = true := decide_eq_true c8
              clear c8
              by_cases c9 : 0 ≤ x10_2
              · rw [if_pos c9] at H
                have c9b0 : decide (0 ≤ x10_2) = true := decide_eq_true c9
                clear c9
                by_cases c10 : 0 ≤ x8_1
                · rw [if_pos c10] at H
                  have c10b0 : decide (0 ≤ x8_1) = true := decide_eq_true c10
                  clear c10
                  by_cases c11 : x8_1 < (t625.length : Int)
                  · rw [if_pos c11] at H
                    have c11b0 : decide (x8_1 < (t625.length : Int)) = true := decide_eq_true c11
                    clear c11
                    by_cases c12 : (rd x7_1 x10_2) ≤ ((rd_T38 t625 x8_1).f1)
                    · rw [if_pos c12] at H
                      have c12b0 : decide ((rd x7_1 x10_2) ≤ ((rd_T38 t625 x8_1).f1)) = true := decide_eq_true c12
                      clear c12
                      by_cases c13 : x9_2.length < 17592186044416
                      · rw [if_pos c13] at H
                        have LMc13 := Aside0.mk c13
                        clear c13
                        obtain ⟨y632, hy632⟩ : ∃ y_ : List Int, y_ = (x9_2 ++ [rd x7_1 x10_2]) := ⟨_, rfl⟩
                        replace H : (barscanlaw38_areas.l1 k2 t625 t628 x7_1 x8_1 y632 (wrap64 (x10_2 + 1))) = some (r1, r2) := by (rw [hy632]; with_reducible exact H)
                        have Ny632 := Aside0.mk hy632
                        clear hy632
                        have H' := Aside0.mk H
                        clear H
                        obtain ⟨Ao14, co14, eo14⟩ := Kd.R_slice HO_7.out
                        subst eo14
                        have p629 : 0 ≤ (x10_2 : Int) := of_decide_eq_true (by (with_reducible assumption))
                        have q629 : x10_2 < (x7_1.length : Int) := of_decide_eq_true (by (with_reducible assumption))
                        obtain ⟨ad629, e629, hx629_0⟩ := Kd.at_int (Kd.R_reads' HO_7.out).2.2 x10_2 p629 q629
                        cases e629
                        replace p629 := eq_true p629
                        replace q629 := eq_true q629
                        have p630 : 0 ≤ (x8_1 : Int) := of_decide_eq_true (by (with_reducible assumption))
                        have q630 : x8_1 < (t625.length : Int) := of_decide_eq_true (by (with_reducible assumption))
                        obtain ⟨ad630, e630, hx630_0, hx630_1, hx630_2, hx630_3, hx630_4, hx630_5, hx630_6⟩ := at_T38 (Kd.R_reads' HO_5.out).2.2 x8_1 p630 q630
                        cases e630
                        replace p630 := eq_true p630
                        replace q630 := eq_true q630
                        have p631 : 0 ≤ (x10_2 : Int) := of_decide_eq_true (by (with_reducible assumption))
                        have q631 : x10_2 < (x7_1.length : Int) := of_decide_eq_true (by (with_reducible assumption))
                        obtain ⟨ad631, e631, hx631_0⟩ := Kd.at_int (Kd.R_reads' HO_7.out).2.2 x10_2 p631 q631
                        obtain rfl : ad629 = ad631 := (by injection e631)
                        replace p631 := eq_true p631
                        replace q631 := eq_true q631
                        go_wp2_with (fail)
                        repeat (go_quiet (fail); try go_wp2_with (((with_reducible refine gate_builtin (b := .append) (xs := #[.tmp 39, .tmp 44]) rfl ?_); at_builtin; refine Kd.R_append (Kd.int .i64) (w0 := w) w.heap.size rfl (.tmp 39) (.tmp 44) 27 3 (.int .i64 0) 8 rfl Try.underlying27 info3 rfl (by decide) (by omega) u9 x9_2 (rd x7_1 x10_2) [.int .i64 (rd x7_1 x10_2)] (fun k_ => some k_ ≠ (.slice (some ad629) x7_1.length co14 : Value).ownBlock) (fun _ => False) rfl rfl ?aP (fun _ hk => hk.elim) ?aF ?aO ?aB ?aS ?aL ?_; (case aP => exact rfl); (case aB => exact (by repeat ((with_reducible first | exact HB.out | apply pw_below_drewN)))); (case aF => exact (fun k_ hk => Kd.fresh' (Kd.R_lt (by (with_reducible repeat (apply Kd.R_drewN)); exact HO_7.out)) k_ hk)); (case aO => exact (by (with_reducible repeat (apply Kd.R_drewN)); exact HO_9.out)); (case aS => exact (below_size (by repeat ((with_reducible first | exact HB.out | apply pw_below_drewN))))); (case aL => have := LMc13.out; omega); intro v633 w15 ho hb hg hat; rw [← Ny632.out] at ho; have n0_ := Aside0.mk (Kd.R_over' (by (with_reducible repeat (apply Kd.R_drewN)); exact HO_5.out) (Kd.R_typed (by (with_reducible repeat (apply Kd.R_drewN)); exact HO_9.out)) (by decide) hg); have n1_ := Aside0.mk (Kd.R_after (ok := (fun _ => True)) (by (with_reducible repeat (apply Kd.R_drewN)); exact Kd.R_mono HO_7.out (fun _ hk => ⟨trivial, hk⟩)) hg hat); have n2_ := Aside0.mk (blk_grown (g := gb621) (o := .cells #[.int .i64 a0_0, .int .i64 a0_1, .slice A0_2 l0_2.length c0_2] 24 (0, 0)) (by (with_reducible repeat (refine blk_drewN ?_ _)); exact BK621.out) hg (Kd.R_ne HO_9.out BK621.out (by decide))); have n3_ := Aside0.mk (hb); have n4_ := Aside0.mk (ho); clear HO_5; clear HO_7; clear BK621; clear HB; clear HO_9; have HO_5 := n0_; have HO_7 := n1_; have BK621 := n2_; have HB := n3_; have HO634 := n4_; clear n0_ n1_ n2_ n3_ n4_; clear ho hb hg hat)))
                        go_roundg k2
                        case measure => have := HK1.out; have := HK2.out; omega
                        case rel => exact ⟨(y632), (wrap64 (x10_2 + 1)), (by rfl), H', ⟨by have := HK1.out; have := HK2.out; omega⟩, ⟨by (with_reducible repeat (fail)); exact HO_5.out⟩, ⟨by (with_reducible repeat (fail)); exact Kd.R_mono HO_7.out (fun _ hk => hk.2)⟩, ⟨by (with_reducible repeat (fail)); exact HO634.out⟩, ⟨by (with_reducible repeat (fail)); exact BK621.out⟩, ⟨by repeat ((with_reducible exact HB.out))⟩⟩
                      · rw [if_neg c13] at H
                        exact absurd H (by simp)
                    · rw [if_neg c12] at H
                      have c12b0 : decide ((rd x7_1 x10_2) ≤ ((rd_T38 t625 x8_1).f1)) = false := decide_eq_false c12
                      clear c12
                      by_cases c16 : x9_2.length < 17592186044416
                      · rw [if_pos c16] at H
                        have LMc16 := Aside0.mk c16
                        clear c16
                        obtain ⟨y636, hy636⟩ : ∃ y_ : List Int, y_ = (x9_2 ++ [(rd_T38 t625 x8_1).f1]) := ⟨_, rfl⟩
                        replace H : (if x10_2 ≤ (x7_1.length : Int) then ((some (x7_1.drop (x10_2 : Int).toNat : List Int)).bind fun y639 => (if y636.length + y639.length < 17592186044416 then (barscanlaw38_areas.l0 k2 t625 t628 (y636 ++ y639) (wrap64 (x8_1 + 1))) else (none))) else (none)) = some (r1, r2) := by (have H2_ := (Option.bind_some _ _).symm.trans H; rw [hy636]; with_reducible exact H2_)
                        have Ny636 := Aside0.mk hy636
                        clear hy636
                        have c17b0 := eq_true (of_decide_eq_true (by (with_reducible assumption)) : 0 ≤ x10_2)
                        by_cases c18 : x10_2 ≤ (x7_1.length : Int)
                        · rw [if_pos c18] at H
                          have c18b0 := eq_true c18
                          have c18b1 : decide (x10_2 ≤ (x7_1.length : Int)) = true := decide_eq_true c18
                          clear c18
                          obtain ⟨y639, hy639⟩ : ∃ y_ : List Int, y_ = (x7_1.drop (x10_2 : Int).toNat) := ⟨_, rfl⟩
                          replace H : (if y636.length + y639.length < 17592186044416 then (barscanlaw38_areas.l0 k2 t625 t628 (y636 ++ y639) (wrap64 (x8_1 + 1))) else (none)) = some (r1, r2) := by (have H2_ := (Option.bind_some _ _).symm.trans H; rw [hy639]; with_reducible exact H2_)
                          have Ny639 := Aside0.mk hy639
                          clear hy639
                          by_cases c19 : y636.length + y639.length < 17592186044416
                          · rw [if_pos c19] at H
                            have LMc19 := Aside0.mk c19
                            clear c19
                            obtain ⟨y643, hy643⟩ : ∃ y_ : List Int, y_ = (y636 ++ y639) := ⟨_, rfl⟩
                            replace H : (barscanlaw38_areas.l0 k2 t625 t628 y643 (wrap64 (x8_1 + 1))) = some (r1, r2) := by (rw [hy643]; with_reducible exact H)
                            have Ny643 := Aside0.mk hy643
                            clear hy643
                            have H' := Aside0.mk H
                            clear H
                            obtain ⟨Ao20, co20, eo20⟩ := Kd.R_slice HO_7.out
                            subst eo20
                            have p629 : 0 ≤ (x10_2 : Int) := of_decide_eq_true (by (with_reducible assumption))
                            have q629 : x10_2 < (x7_1.length : Int) := of_decide_eq_true (by (with_reducible assumption))
                            obtain ⟨ad629, e629, hx629_0⟩ := Kd.at_int (Kd.R_reads' HO_7.out).2.2 x10_2 p629 q629
                            cases e629
                            replace p629 := eq_true p629
                            replace q629 := eq_true q629
                            have p630 : 0 ≤ (x8_1 : Int) := of_decide_eq_true (by (with_reducible assumption))
                            have q630 : x8_1 < (t625.length : Int) := of_decide_eq_true (by (with_reducible assumption))
                            obtain ⟨ad630, e630, hx630_0, hx630_1, hx630_2, hx630_3, hx630_4, hx630_5, hx630_6⟩ := at_T38 (Kd.R_reads' HO_5.out).2.2 x8_1 p630 q630
                            cases e630
                            replace p630 := eq_true p630
                            replace q630 := eq_true q630
                            have p635 : 0 ≤ (x8_1 : Int) := of_decide_eq_true (by (with_reducible assumption))
                            have q635 : x8_1 < (t625.length : Int) := of_decide_eq_true (by (with_reducible assumption))
                            obtain ⟨ad635, e635, hx635_0, hx635_1, hx635_2, hx635_3, hx635_4, hx635_5, hx635_6⟩ := at_T38 (Kd.R_reads' HO_5.out).2.2 x8_1 p635 q635
                            obtain rfl : ad630 = ad635 := (by injection e635)
                            replace p635 := eq_true p635
                            replace q635 := eq_true q635
                            go_wp2_with (fail)
                            repeat (go_quiet (fail); try go_wp2_with (first | ((with_reducible refine gate_builtin (b := .append) (xs := #[.tmp 48, .tmp 54]) rfl ?_); at_builtin; refine Kd.R_append (Kd.int .i64) (w0 := w) w.heap.size rfl (.tmp 48) (.tmp 54) 27 3 (.int .i64 0) 8 rfl Try.underlying27 info3 rfl (by decide) (by omega) u9 x9_2 ((rd_T38 t625 x8_1).f1) [.int .i64 ((rd_T38 t625 x8_1).f1)] (fun k_ => some k_ ≠ (.slice (some ad629) x7_1.length co20 : Value).ownBlock) (fun _ => False) rfl rfl ?aP (fun _ hk => hk.elim) ?aF ?aO ?aB ?aS ?aL ?_; (case aP => exact rfl); (case aB => exact (by repeat ((with_reducible first | exact HB.out | apply pw_below_drewN)))); (case aF => exact (fun k_ hk => Kd.fresh' (Kd.R_lt (by (with_reducible repeat (apply Kd.R_drewN)); exact HO_7.out)) k_ hk)); (case aO => exact (by (with_reducible repeat (apply Kd.R_drewN)); exact HO_9.out)); (case aS => exact (below_size (by repeat ((with_reducible first | exact HB.out | apply pw_below_drewN))))); (case aL => have := LMc16.out; omega); intro v637 w21 ho hb hg hat; rw [← Ny636.out] at ho; have n0_ := Aside0.mk (Kd.R_over' (by (with_reducible repeat (apply Kd.R_drewN)); exact HO_5.out) (Kd.R_typed (by (with_reducible repeat (apply Kd.R_drewN)); exact HO_9.out)) (by decide) hg); have n1_ := Aside0.mk (Kd.R_after (ok := (fun _ => True)) (by (with_reducible repeat (apply Kd.R_drewN)); exact Kd.R_mono HO_7.out (fun _ hk => ⟨trivial, hk⟩)) hg hat); have n2_ := Aside0.mk (blk_grown (g := gb621) (o := .cells #[.int .i64 a0_0, .int .i64 a0_1, .slice A0_2 l0_2.length c0_2] 24 (0, 0)) (by (with_reducible repeat (refine blk_drewN ?_ _)); exact BK621.out) hg (Kd.R_ne HO_9.out BK621.out (by decide))); have n3_ := Aside0.mk (hb); have n4_ := Aside0.mk (ho); clear HO_5; clear HO_7; clear BK621; clear HB; clear HO_9; have HO_5 := n0_; have HO_7 := n1_; have BK621 := n2_; have HB := n3_; have HO638 := n4_; clear n0_ n1_ n2_ n3_ n4_; clear ho hb hg hat; have q22 : (x10_2 : Int) ≤ ((x7_1.length : Int) : Int) := of_decide_eq_true (by (with_reducible assumption)); obtain ⟨i022, hi022, _, hsz22, _⟩ := info_parts info3; have hroom22 : x7_1.length ≤ co20 := (Kd.R_reads' HO_7.out).2.1; have hC22 : Kd.C (Kd.int .i64) _ (some ad629) x7_1.length x7_1 := (Kd.R_reads' HO_7.out).2.2; have q022 : (0 : Int) ≤ (x10_2 : Int) := of_decide_eq_true (by (with_reducible assumption)); have hcut22 := cut_from (P := Try.prog) 27 3 .i64 Try.underlying27 hi022 1 hsz22 (some ad629) x7_1.length co20 x10_2 q022 q22; have hr22 := Kd.C_drop (m := (x10_2 : Int).toNat) (c := co20) hC22 (by omega) hroom22; obtain ⟨A22, hA22⟩ : ∃ A1, A1 = (if co20 = (x10_2 : Int).toNat then (some ad629) else ((some ad629) : Option Addr).map (·.add ((x10_2 : Int).toNat * 1))) := ⟨_, rfl⟩; obtain ⟨c22, hc22⟩ : ∃ c1, c1 = co20 - (x10_2 : Int).toNat := ⟨_, rfl⟩; have hy22 : y639.length = x7_1.length - (x10_2 : Int).toNat := (by rw [Ny639.out, List.length_drop] <;> omega); rw [show (x7_1).drop (x10_2 : Int).toNat = y639 from Ny639.out.symm] at hr22; replace hr22 : Kd.C (Kd.int .i64) _ A22 y639.length y639 := (by rw [hA22]; exact hr22); rw [← hy22, ← hA22, ← hc22] at hcut22; have HR642 := Aside0.mk hr22; have HC642 := Aside0.mk (show y639.length ≤ c22 from by rw [hy22, hc22]; exact Nat.sub_le_sub_right hroom22 _); clear hr22 hC22 hroom22 hi022 hsz22 hc22; have KY22 := Aside0.mk hy22; have KA22 := Aside0.mk hA22; clear hy22 hA22; have KL22 := Aside0.mk (show (x10_2 : Int).toNat ≤ x7_1.length from by omega); replace q22 := eq_true q22) | ((with_reducible refine gate_builtin (b := .append) (xs := #[.tmp 56, .tmp 59]) rfl ?_); at_builtin; refine Kd.R_append_rows (Kd.int .i64) (w0 := w) w.heap.size rfl (.tmp 56) (.tmp 59) 27 3 (.int .i64 0) 8 rfl Try.underlying27 info3 rfl (by decide) (by omega) v637 y636 y639 _ _ _ (fun k_ => some k_ ≠ (.slice (some ad629) x7_1.length co20 : Value).ownBlock) (fun _ => False) rfl rfl ?aO ?aR (fun _ _ h => h) (fun _ h => h.elim) ?aF ?aB ?aS ?aL ?_; (case aR => repeat ((exact (by repeat (exact HR642.out))))); (case aB => exact (by repeat ((with_reducible exact HB.out)))); (case aF => exact (fun k_ hk => Kd.fresh' (Kd.R_lt (by (with_reducible repeat (fail)); exact HO_7.out)) k_ hk)); (case aO => exact (by (with_reducible repeat (fail)); exact HO638.out)); (case aS => exact (below_size (by repeat ((with_reducible exact HB.out))))); (case aL => have := LMc19.out; omega); intro v644 w23 ho hb hg hat; rw [← Ny643.out] at ho; have n0_ := Aside0.mk (Kd.R_over' (by (with_reducible repeat (fail)); exact HO_5.out) (Kd.R_typed (by (with_reducible repeat (fail)); exact HO638.out)) (by decide) hg); have n1_ := Aside0.mk (Kd.R_after (ok := (fun _ => True)) (by (with_reducible repeat (fail)); exact HO_7.out) hg hat); have n2_ := Aside0.mk (blk_grown (g := gb621) (o := .cells #[.int .i64 a0_0, .int .i64 a0_1, .slice A0_2 l0_2.length c0_2] 24 (0, 0)) (by (with_reducible repeat (fail)); exact BK621.out) hg (Kd.R_ne HO638.out BK621.out (by decide))); have n3_ := Aside0.mk (hb); have n4_ := Aside0.mk ((show Kd.C (Kd.int .i64) w23 A22 y639.length y639 from by rw [Ny639.out, KA22.out]; exact Kd.C_drop (m := (x10_2 : Int).toNat) (c := co20) ((Kd.R_reads' (Kd.R_after (ok := (fun _ => True)) (by (with_reducible repeat (fail)); exact HO_7.out) hg hat)).2.2) KL22.out ((Kd.R_reads' (Kd.R_after (ok := (fun _ => True)) (by (with_reducible repeat (fail)); exact HO_7.out) hg hat)).2.1))); have n5_ := Aside0.mk (ho); clear HO_5; clear HO_7; clear BK621; clear HB; clear HR642; clear HO638; have HO_5 := n0_; have HO_7 := n1_; have BK621 := n2_; have HB := n3_; have HR642 := n4_; have HO645 := n5_; clear n0_ n1_ n2_ n3_ n4_ n5_; clear ho hb hg hat)))
                            go_roundg k2
                            case measure => have := HK1.out; have := HK2.out; omega
                            case rel => exact ⟨(y643), (wrap64 (x8_1 + 1)), (by rfl), H', ⟨by have := HK1.out; have := HK2.out; omega⟩, ⟨by (with_reducible repeat (fail)); exact HO_5.out⟩, ⟨by (with_reducible repeat (fail)); exact Kd.R_mono HO645.out (fun _ hk => trivial)⟩, ⟨by (with_reducible repeat (fail)); exact BK621.out⟩, ⟨by repeat ((with_reducible exact HB.out))⟩⟩
                          · rw [if_neg c19] at H
                            exact absurd H (by simp)
                        · rw [if_neg c18] at H
                          exact absurd H (by simp)
                      · rw [if_neg c16] at H
                        exact absurd H (by simp)
                  · rw [if_neg c11] at H
                    exact absurd H (by simp)
                · rw [if_neg c10] at H
                  exact absurd H (by simp)
              · rw [if_neg c9] at H
                exact absurd H (by simp)
            · rw [if_neg c8] at H
              have c8b0 : decide (x10_2 < (x7_1.length : Int)) = false := decide_eq_false c8
              clear c8
              by_cases c24 : 0 ≤ x8_1
              · rw [if_pos c24] at H
                have c24b0 : decide (0 ≤ x8_1) = true := decide_eq_true c24
                clear c24
                by_cases c25 : x8_1 < (t625.length : Int)
                · rw [if_pos c25] at H
                  have c25b0 : decide (x8_1 < (t625.length : Int)) = true := decide_eq_true c25
                  clear c25
                  by_cases c26 : x9_2.length < 17592186044416
                  · rw [if_pos c26] at H
                    have LMc26 := Aside0.mk c26
                    clear c26
                    obtain ⟨y647, hy647⟩ : ∃ y_ : List Int, y_ = (x9_2 ++ [(rd_T38 t625 x8_1).f1]) := ⟨_, rfl⟩
                    replace H : (if 0 ≤ x10_2 then (if x10_2 ≤ (x7_1.length : Int) then ((some (x7_1.drop (x10_2 : Int).toNat : List Int)).bind fun y650 => (if y647.length + y650.length < 17592186044416 then (barscanlaw38_areas.l0 k2 t625 t628 (y647 ++ y650) (wrap64 (x8_1 + 1))) else (none))) else (none)) else (none)) = some (r1, r2) := by (have H2_ := (Option.bind_some _ _).symm.trans H; rw [hy647]; with_reducible exact H2_)
                    have Ny647 := Aside0.mk hy647
                    clear hy647
                    by_cases c27 : 0 ≤ x10_2
                    · rw [if_pos c27] at H
                      have c27b0 := eq_true c27
                      have c27b1 : decide (0 ≤ x10_2) = true := decide_eq_true c27
                      clear c27
                      by_cases c28 : x10_2 ≤ (x7_1.length : Int)
                      · rw [if_pos c28] at H
                        have c28b0 := eq_true c28
                        have c28b1 : decide (x10_2 ≤ (x7_1.length : Int)) = true := decide_eq_true c28
                        clear c28
                        obtain ⟨y650, hy650⟩ : ∃ y_ : List Int, y_ = (x7_1.drop (x10_2 : Int).toNat) := ⟨_, rfl⟩
                        replace H : (if y647.length + y650.length < 17592186044416 then (barscanlaw38_areas.l0 k2 t625 t628 (y647 ++ y650) (wrap64 (x8_1 + 1))) else (none)) = some (r1, r2) := by (have H2_ := (Option.bind_some _ _).symm.trans H; rw [hy650]; with_reducible exact H2_)
                        have Ny650 := Aside0.mk hy650
                        clear hy650
                        by_cases c29 : y647.length + y650.length < 17592186044416
                        · rw [if_pos c29] at H
                          have LMc29 := Aside0.mk c29
                          clear c29
                          obtain ⟨y654, hy654⟩ : ∃ y_ : List Int, y_ = (y647 ++ y650) := ⟨_, rfl⟩
                          replace H : (barscanlaw38_areas.l0 k2 t625 t628 y654 (wrap64 (x8_1 + 1))) = some (r1, r2) := by (rw [hy654]; with_reducible exact H)
                          have Ny654 := Aside0.mk hy654
                          clear hy654
                          have H' := Aside0.mk H
                          clear H
                          obtain ⟨Ao30, co30, eo30⟩ := Kd.R_slice HO_7.out
                          subst eo30
                          have p646 : 0 ≤ (x8_1 : Int) := of_decide_eq_true (by (with_reducible assumption))
                          have q646 : x8_1 < (t625.length : Int) := of_decide_eq_true (by (with_reducible assumption))
                          obtain ⟨ad646, e646, hx646_0, hx646_1, hx646_2, hx646_3, hx646_4, hx646_5, hx646_6⟩ := at_T38 (Kd.R_reads' HO_5.out).2.2 x8_1 p646 q646
                          cases e646
                          replace p646 := eq_true p646
                          replace q646 := eq_true q646
                          go_wp2_with (fail)
                          repeat (go_quiet (fail); try go_wp2_with (first | ((with_reducible refine gate_builtin (b := .append) (xs := #[.tmp 48, .tmp 54]) rfl ?_); at_builtin; refine Kd.R_append (Kd.int .i64) (w0 := w) w.heap.size rfl (.tmp 48) (.tmp 54) 27 3 (.int .i64 0) 8 rfl Try.underlying27 info3 rfl (by decide) (by omega) u9 x9_2 ((rd_T38 t625 x8_1).f1) [.int .i64 ((rd_T38 t625 x8_1).f1)] (fun k_ => some k_ ≠ (.slice Ao30 x7_1.length co30 : Value).ownBlock) (fun _ => False) rfl rfl ?aP (fun _ hk => hk.elim) ?aF ?aO ?aB ?aS ?aL ?_; (case aP => exact rfl); (case aB => exact (by repeat ((with_reducible first | exact HB.out | apply pw_below_drewN)))); (case aF => exact (fun k_ hk => Kd.fresh' (Kd.R_lt (by (with_reducible repeat (apply Kd.R_drewN)); exact HO_7.out)) k_ hk)); (case aO => exact (by (with_reducible repeat (apply Kd.R_drewN)); exact HO_9.out)); (case aS => exact (below_size (by repeat ((with_reducible first | exact HB.out | apply pw_below_drewN))))); (case aL => have := LMc26.out; omega); intro v648 w31 ho hb hg hat; rw [← Ny647.out] at ho; have n0_ := Aside0.mk (Kd.R_over' (by (with_reducible repeat (apply Kd.R_drewN)); exact HO_5.out) (Kd.R_typed (by (with_reducible repeat (apply Kd.R_drewN)); exact HO_9.out)) (by decide) hg); have n1_ := Aside0.mk (Kd.R_after (ok := (fun _ => True)) (by (with_reducible repeat (apply Kd.R_drewN)); exact Kd.R_mono HO_7.out (fun _ hk => ⟨trivial, hk⟩)) hg hat); have n2_ := Aside0.mk (blk_grown (g := gb621) (o := .cells #[.int .i64 a0_0, .int .i64 a0_1, .slice A0_2 l0_2.length c0_2] 24 (0, 0)) (by (with_reducible repeat (refine blk_drewN ?_ _)); exact BK621.out) hg (Kd.R_ne HO_9.out BK621.out (by decide))); have n3_ := Aside0.mk (hb); have n4_ := Aside0.mk (ho); clear HO_5; clear HO_7; clear BK621; clear HB; clear HO_9; have HO_5 := n0_; have HO_7 := n1_; have BK621 := n2_; have HB := n3_; have HO649 := n4_; clear n0_ n1_ n2_ n3_ n4_; clear ho hb hg hat; have q32 : (x10_2 : Int) ≤ ((x7_1.length : Int) : Int) := of_decide_eq_true (by (with_reducible assumption)); obtain ⟨i032, hi032, _, hsz32, _⟩ := info_parts info3; have hroom32 : x7_1.length ≤ co30 := (Kd.R_reads' HO_7.out).2.1; have hC32 : Kd.C (Kd.int .i64) _ Ao30 x7_1.length x7_1 := (Kd.R_reads' HO_7.out).2.2; have q032 : (0 : Int) ≤ (x10_2 : Int) := of_decide_eq_true (by (with_reducible assumption)); have hcut32 := cut_from (P := Try.prog) 27 3 .i64 Try.underlying27 hi032 1 hsz32 Ao30 x7_1.length co30 x10_2 q032 q32; have hr32 := Kd.C_drop (m := (x10_2 : Int).toNat) (c := co30) hC32 (by omega) hroom32; obtain ⟨A32, hA32⟩ : ∃ A1, A1 = (if co30 = (x10_2 : Int).toNat then Ao30 else (Ao30 : Option Addr).map (·.add ((x10_2 : Int).toNat * 1))) := ⟨_, rfl⟩; obtain ⟨c32, hc32⟩ : ∃ c1, c1 = co30 - (x10_2 : Int).toNat := ⟨_, rfl⟩; have hy32 : y650.length = x7_1.length - (x10_2 : Int).toNat := (by rw [Ny650.out, List.length_drop] <;> omega); rw [show (x7_1).drop (x10_2 : Int).toNat = y650 from Ny650.out.symm] at hr32; replace hr32 : Kd.C (Kd.int .i64) _ A32 y650.length y650 := (by rw [hA32]; exact hr32); rw [← hy32, ← hA32, ← hc32] at hcut32; have HR653 := Aside0.mk hr32; have HC653 := Aside0.mk (show y650.length ≤ c32 from by rw [hy32, hc32]; exact Nat.sub_le_sub_right hroom32 _); clear hr32 hC32 hroom32 hi032 hsz32 hc32; have KY32 := Aside0.mk hy32; have KA32 := Aside0.mk hA32; clear hy32 hA32; have KL32 := Aside0.mk (show (x10_2 : Int).toNat ≤ x7_1.length from by omega); replace q32 := eq_true q32) | ((with_reducible refine gate_builtin (b := .append) (xs := #[.tmp 56, .tmp 59]) rfl ?_); at_builtin; refine Kd.R_append_rows (Kd.int .i64) (w0 := w) w.heap.size rfl (.tmp 56) (.tmp 59) 27 3 (.int .i64 0) 8 rfl Try.underlying27 info3 rfl (by decide) (by omega) v648 y647 y650 _ _ _ (fun k_ => some k_ ≠ (.slice Ao30 x7_1.length co30 : Value).ownBlock) (fun _ => False) rfl rfl ?aO ?aR (fun _ _ h => h) (fun _ h => h.elim) ?aF ?aB ?aS ?aL ?_; (case aR => repeat ((exact (by repeat (exact HR653.out))))); (case aB => exact (by repeat ((with_reducible exact HB.out)))); (case aF => exact (fun k_ hk => Kd.fresh' (Kd.R_lt (by (with_reducible repeat (fail)); exact HO_7.out)) k_ hk)); (case aO => exact (by (with_reducible repeat (fail)); exact HO649.out)); (case aS => exact (below_size (by repeat ((with_reducible exact HB.out))))); (case aL => have := LMc29.out; omega); intro v655 w33 ho hb hg hat; rw [← Ny654.out] at ho; have n0_ := Aside0.mk (Kd.R_over' (by (with_reducible repeat (fail)); exact HO_5.out) (Kd.R_typed (by (with_reducible repeat (fail)); exact HO649.out)) (by decide) hg); have n1_ := Aside0.mk (Kd.R_after (ok := (fun _ => True)) (by (with_reducible repeat (fail)); exact HO_7.out) hg hat); have n2_ := Aside0.mk (blk_grown (g := gb621) (o := .cells #[.int .i64 a0_0, .int .i64 a0_1, .slice A0_2 l0_2.length c0_2] 24 (0, 0)) (by (with_reducible repeat (fail)); exact BK621.out) hg (Kd.R_ne HO649.out BK621.out (by decide))); have n3_ := Aside0.mk (hb); have n4_ := Aside0.mk ((show Kd.C (Kd.int .i64) w33 A32 y650.length y650 from by rw [Ny650.out, KA32.out]; exact Kd.C_drop (m := (x10_2 : Int).toNat) (c := co30) ((Kd.R_reads' (Kd.R_after (ok := (fun _ => True)) (by (with_reducible repeat (fail)); exact HO_7.out) hg hat)).2.2) KL32.out ((Kd.R_reads' (Kd.R_after (ok := (fun _ => True)) (by (with_reducible repeat (fail)); exact HO_7.out) hg hat)).2.1))); have n5_ := Aside0.mk (ho); clear HO_5; clear HO_7; clear BK621; clear HB; clear HR653; clear HO649; have HO_5 := n0_; have HO_7 := n1_; have BK621 := n2_; have HB := n3_; have HR653 := n4_; have HO656 := n5_; clear n0_ n1_ n2_ n3_ n4_ n5_; clear ho hb hg hat)))
                          go_roundg k2
                          case measure => have := HK1.out; have := HK2.out; omega
                          case rel => exact ⟨(y654), (wrap64 (x8_1 + 1)), (by rfl), H', ⟨by have := HK1.out; have := HK2.out; omega⟩, ⟨by (with_reducible repeat (fail)); exact HO_5.out⟩, ⟨by (with_reducible repeat (fail)); exact Kd.R_mono HO656.out (fun _ hk => trivial)⟩, ⟨by (with_reducible repeat (fail)); exact BK621.out⟩, ⟨by repeat ((with_reducible exact HB.out))⟩⟩
                        · rw [if_neg c29] at H
                          exact absurd H (by simp)
                      · rw [if_neg c28] at H
                        exact absurd H (by simp)
                    · rw [if_neg c27] at H
                      exact absurd H (by simp)
                  · rw [if_neg c26] at H
                    exact absurd H (by simp)
                · rw [if_neg c25] at H
                  exact absurd H (by simp)
              · rw [if_neg c24] at H
                exact absurd H (by simp)
      · rw [if_neg c6] at H
        have c6b0 : decide (x8_1 < (t625.length : Int)) = false := decide_eq_false c6
        clear c6
        simp only [Option.some.injEq, Prod.mk.injEq] at H
        obtain ⟨rfl, rfl⟩ := H
        obtain ⟨Ao34, co34, eo34⟩ := Kd.R_slice HO_5.out
        subst eo34
        go_wp2
        repeat (go_quiet (fail); try go_wp2)
        go_ret2
        exact ⟨_, by rfl, by (with_reducible repeat (fail)); exact HO_7.out, by repeat ((with_reducible exact HB.out))⟩

end Go.Proofs.Ytahibhipffojlaa.M
