-- Machine side, printed by this session's own program over the kit's print (wip/tools/myprint.py). Lean checks it.
import Derived.Test.YtahibhipffojlaaMx0
import Derived.Test.YtahibhipffojlaaMx1
import Derived.Test.YtahibhipffojlaaMx2
import Derived.Test.YtahibhipffojlaaMx11
import Derived.Test.YtahibhipffojlaaEx
namespace Go.Proofs.Ytahibhipffojlaa.M
open Go.RowKit Go.Proofs.YtahibhipffojlaaW.PrintWords Go.Proofs.YtahibhipffojlaaW.PrintLast Go.Proofs.YtahibhipffojlaaW.PrintMore
attribute [local go_sem] max2_int min2_int max_two min_two max_three min_three max_four min_four   -- for this text's walks alone
set_option linter.unusedVariables false
set_option linter.unusedSimpArgs false

attribute [local go_sem high] eqA38
/-! ### barscanlaw38_ComponentsLabels: function 3 -/
mutual
def barscanlaw38_ComponentsLabels.j0 : Nat → List (S38) → List (S38) → Bool → Option (Bool)
  | 0, _, _, _ => none
  | k + 1, x6, x9, x45 => if x45 = true then (some false) else (barscanlaw38_ComponentsLabels.l0 k x6 x9 0)
def barscanlaw38_ComponentsLabels.l0 : Nat → List (S38) → List (S38) → Int → Option (Bool)
  | 0, _, _, _ => none
  | k + 1, x6, x9, x11 => if x11 < (x6.length : Int) then (if 0 ≤ x11 then (if x11 < (x9.length : Int) then (if ((!(((rd_T38 x6 x11).f0.f0) == ((rd_T38 x9 x11).f0.f0)) || (!(((rd_T38 x6 x11).f0.f1) == ((rd_T38 x9 x11).f0.f1)) || (!(((rd_T38 x6 x11).f0.f2) == ((rd_T38 x9 x11).f0.f2)) || (!(((rd_T38 x6 x11).f0.f3) == ((rd_T38 x9 x11).f0.f3)))))) || (!(((rd_T38 x6 x11).f1) == ((rd_T38 x9 x11).f1)) || ((!(((rd_T38 x6 x11).f2.f0) == ((rd_T38 x9 x11).f2.f0)) || (!(((rd_T38 x6 x11).f2.f1) == ((rd_T38 x9 x11).f2.f1))))))) = true then (some false) else (barscanlaw38_ComponentsLabels.l0 k x6 x9 (wrap64 (x11 + 1)))) else (none)) else (none)) else ((exHolds.f).bind fun t335 => (some t335))
end
def barscanlaw38_ComponentsLabels.f (k : Nat) (a0_0 : Int) (a0_1 : Int) (l0_2 : List Bool) (a1 : Bool) : Option (Bool) := (barscanlaw38_few.f a0_0 a0_1 l0_2).bind fun t316 => (if t316 = true then ((components_Label.f a0_0 a0_1 l0_2 a1).bind fun bt318 => ((barscanref38_Label.f k a0_0 a0_1 l0_2 a1).bind fun bt325 => (if bt318.2.2 = bt325.2.2 then ((barscanlaw38_same.f k bt318.1 bt325.1).bind fun t332 => (if t332 = true then (barscanlaw38_ComponentsLabels.j0 k bt318.2.1 bt325.2.1 ((bt318.2.1.length : Int) != (bt325.2.1.length : Int))) else (barscanlaw38_ComponentsLabels.j0 k bt318.2.1 bt325.2.1 true))) else (barscanlaw38_ComponentsLabels.j0 k bt318.2.1 bt325.2.1 true)))) else ((exHolds.f).bind fun t317 => (some t317)))
theorem barscanlaw38_ComponentsLabels.mono_l : ∀ k, (∀ y0 y1 y2, LeO (barscanlaw38_ComponentsLabels.j0 k y0 y1 y2) (barscanlaw38_ComponentsLabels.j0 (k + 1) y0 y1 y2)) ∧ (∀ y0 y1 y2, LeO (barscanlaw38_ComponentsLabels.l0 k y0 y1 y2) (barscanlaw38_ComponentsLabels.l0 (k + 1) y0 y1 y2))
  | 0 => ⟨fun _ _ _ r h => by simp [barscanlaw38_ComponentsLabels.j0] at h, fun _ _ _ r h => by simp [barscanlaw38_ComponentsLabels.l0] at h⟩
  | k + 1 => by
    obtain ⟨ih0, ih1⟩ := barscanlaw38_ComponentsLabels.mono_l k
    refine ⟨?_, ?_⟩
    · intro y0 y1 y2
      unfold barscanlaw38_ComponentsLabels.j0
      repeat' first
      | (with_reducible exact ih1 _ _ _)
      | (with_reducible exact LeO.refl _)
      | (with_reducible refine LeO.ite ?_ ?_)
    · intro y0 y1 y2
      unfold barscanlaw38_ComponentsLabels.l0
      repeat' first
      | (with_reducible exact ih1 _ _ _)
      | (with_reducible exact LeO.refl _)
      | (with_reducible refine LeO.ite ?_ ?_)
theorem barscanlaw38_ComponentsLabels.mono : ∀ a0 a1 a2 a3 k, LeO (barscanlaw38_ComponentsLabels.f k a0 a1 a2 a3) (barscanlaw38_ComponentsLabels.f (k + 1) a0 a1 a2 a3) := by
  intro a0 a1 a2 a3 k
  obtain ⟨ih0, ih1⟩ := barscanlaw38_ComponentsLabels.mono_l k
  unfold barscanlaw38_ComponentsLabels.f
  repeat' first
      | (with_reducible exact ih0 _ _ _)
      | (with_reducible exact barscanlaw38_same.mono _ _ _)
      | (with_reducible exact barscanref38_Label.mono _ _ _ _ _)
      | (with_reducible exact LeO.refl _)
      | (with_reducible refine LeO.ite ?_ ?_)
      | (with_reducible refine LeO.bind ?_ (fun _ => ?_))
set_option maxHeartbeats 8000000 in
set_option maxRecDepth 100000 in
theorem barscanlaw38_ComponentsLabels.calls (k : Nat) (a0_0 : Int) (a0_1 : Int) (A0_2 : Option Addr) (c0_2 : Nat) (l0_2 : List Bool) (a1 : Bool) (w : World) (hr0_2 : Kd.C Kd.bool w A0_2 l0_2.length l0_2) (hc0_2 : l0_2.length ≤ c0_2) (h : barscanlaw38_ComponentsLabels.f k a0_0 a0_1 l0_2 a1 = some true) :
    Calls Try.prog 3 #[.agg #[.int .i64 a0_0, .int .i64 a0_1, .slice A0_2 l0_2.length c0_2], .bool a1] w fun e w' => e = .returned (.bool true) ∧ Below w.heap.size w w' := by
  have hu24 := Try.underlying24
  have hu38 := Try.underlying38
  have HR0_2 := Aside0.mk hr0_2
  have HC0_2 := Aside0.mk hc0_2
  clear hr0_2 hc0_2
  have HB := Aside0.mk (Below.refl w.heap.size w)
  have H : ((barscanlaw38_few.f a0_0 a0_1 l0_2).bind fun t316 => (if t316 = true then ((components_Label.f a0_0 a0_1 l0_2 a1).bind fun bt318 => ((barscanref38_Label.f k a0_0 a0_1 l0_2 a1).bind fun bt325 => (if bt318.2.2 = bt325.2.2 then ((barscanlaw38_same.f k bt318.1 bt325.1).bind fun t332 => (if t332 = true then (barscanlaw38_ComponentsLabels.j0 k bt318.2.1 bt325.2.1 ((bt318.2.1.length : Int) != (bt325.2.1.length : Int))) else (barscanlaw38_ComponentsLabels.j0 k bt318.2.1 bt325.2.1 true))) else (barscanlaw38_ComponentsLabels.j0 k bt318.2.1 bt325.2.1 true)))) else ((exHolds.f).bind fun t317 => (some t317)))) = some true := h
  clear h
  replace H := Option.bind_eq_some_iff.mp H
  obtain ⟨t316, A30, H⟩ := H
  replace H : (if t316 = true then ((components_Label.f a0_0 a0_1 l0_2 a1).bind fun bt318 => ((barscanref38_Label.f k a0_0 a0_1 l0_2 a1).bind fun bt325 => (if bt318.2.2 = bt325.2.2 then ((barscanlaw38_same.f k bt318.1 bt325.1).bind fun t332 => (if t332 = true then (barscanlaw38_ComponentsLabels.j0 k bt318.2.1 bt325.2.1 ((bt318.2.1.length : Int) != (bt325.2.1.length : Int))) else (barscanlaw38_ComponentsLabels.j0 k bt318.2.1 bt325.2.1 true))) else (barscanlaw38_ComponentsLabels.j0 k bt318.2.1 bt325.2.1 true)))) else ((exHolds.f).bind fun t317 => (some t317))) = some true := H
  have A3 := Aside0.mk A30
  clear A30
  by_cases c4 : t316 = true
  · subst c4
    have H1 : ((components_Label.f a0_0 a0_1 l0_2 a1).bind fun bt318 => ((barscanref38_Label.f k a0_0 a0_1 l0_2 a1).bind fun bt325 => (if bt318.2.2 = bt325.2.2 then ((barscanlaw38_same.f k bt318.1 bt325.1).bind fun t332 => (if t332 = true then (barscanlaw38_ComponentsLabels.j0 k bt318.2.1 bt325.2.1 ((bt318.2.1.length : Int) != (bt325.2.1.length : Int))) else (barscanlaw38_ComponentsLabels.j0 k bt318.2.1 bt325.2.1 true))) else (barscanlaw38_ComponentsLabels.j0 k bt318.2.1 bt325.2.1 true)))) = some true := by rw [if_pos rfl] at H; exact H
    clear H
    have H := H1
    clear H1
    replace H := Option.bind_eq_some_iff.mp H
    obtain ⟨⟨t318, t321, t324⟩, A50, H⟩ := H
    replace H : ((barscanref38_Label.f k a0_0 a0_1 l0_2 a1).bind fun bt325 => (if t324 = bt325.2.2 then ((barscanlaw38_same.f k t318 bt325.1).bind fun t332 => (if t332 = true then (barscanlaw38_ComponentsLabels.j0 k t321 bt325.2.1 ((t321.length : Int) != (bt325.2.1.length : Int))) else (barscanlaw38_ComponentsLabels.j0 k t321 bt325.2.1 true))) else (barscanlaw38_ComponentsLabels.j0 k t321 bt325.2.1 true))) = some true := H
    have A5 := Aside0.mk A50
    clear A50
    replace H := Option.bind_eq_some_iff.mp H
    obtain ⟨⟨t325, t328, t331⟩, A60, H⟩ := H
    replace H : (if t324 = t331 then ((barscanlaw38_same.f k t318 t325).bind fun t332 => (if t332 = true then (barscanlaw38_ComponentsLabels.j0 k t321 t328 ((t321.length : Int) != (t328.length : Int))) else (barscanlaw38_ComponentsLabels.j0 k t321 t328 true))) else (barscanlaw38_ComponentsLabels.j0 k t321 t328 true)) = some true := H
    have A6 := Aside0.mk A60
    clear A60
    have HC7 := Aside0.mk H
    clear H
    go_enter Try.func3, Try.ntmps3
    go_upto_region 5 with (first | ((with_reducible refine gate_dst (N := 2) rfl ?_); (try (refine gate_guard (by rfl) ?_; dsimp only)); refine box_event ?hg (N := 2) ?hd (cs := #[.int .i64 a0_0, .int .i64 a0_1, .slice A0_2 l0_2.length c0_2]) (t := 24) ?hr ?_; (case hd => rfl); (case hg => rfl); (case hr => (go_simp; done)); intro gb315 hg w8 hbox hb; have n0_ := Aside0.mk (below_step (by repeat ((with_reducible exact HB.out))) hb); have n1_ := Aside0.mk (hbox); have n2_ := Aside0.mk ((by rw [hg]; exact (below_size (by repeat ((with_reducible exact HB.out)))) : w.heap.size ≤ gb315)); have n3_ := Aside0.mk ((by rw [hg]; exact (below_size (by repeat ((with_reducible exact HB.out)))) : w.heap.size ≤ gb315)); clear HB; have HB := n0_; have BK315 := n1_; have GW315 := n2_; have GE315 := n3_; clear n0_ n1_ n2_ n3_; clear hb hbox hg; have hcz9_0 : w8.cell? ⟨gb315, 0, none⟩ = some (.int .i64 a0_0) := (blk_cell BK315.out 0).trans rfl; have hcz9_1 : w8.cell? ⟨gb315, 1, none⟩ = some (.int .i64 a0_1) := (blk_cell BK315.out 1).trans rfl; have hcz9_2 : w8.cell? ⟨gb315, 2, none⟩ = some (.slice A0_2 l0_2.length c0_2) := (blk_cell BK315.out 2).trans rfl; have hfz9_0 := blk_frozen BK315.out 0; have hfz9_1 := blk_frozen BK315.out 1; have hfz9_2 := blk_frozen BK315.out 2) | (go_at_call 12; (with_reducible refine (barscanlaw38_few.calls a0_0 a0_1 _ _ l0_2 true _ ?side1 ?side2 A3.out).mono ?_); (case side1 => repeat ((exact (Kd.C_below HR0_2.out HB.out)))); (case side2 => exact HC0_2.out); rintro e w10 ⟨rfl, hb⟩; have n0_ := Aside0.mk (blk_below (g := gb315) (o := .cells #[.int .i64 a0_0, .int .i64 a0_1, .slice A0_2 l0_2.length c0_2] 24 (0, 0)) (by (with_reducible repeat (fail)); exact BK315.out) hb); have n1_ := Aside0.mk (below_step (by repeat ((with_reducible exact HB.out))) hb); clear BK315; clear HB; have BK315 := n0_; have HB := n1_; clear n0_ n1_; (try clear hb); (try clear hb2); (try clear hk); (try clear hi); have hcz11_0 : w10.cell? ⟨gb315, 0, none⟩ = some (.int .i64 a0_0) := (blk_cell BK315.out 0).trans rfl; have hcz11_1 : w10.cell? ⟨gb315, 1, none⟩ = some (.int .i64 a0_1) := (blk_cell BK315.out 1).trans rfl; have hcz11_2 : w10.cell? ⟨gb315, 2, none⟩ = some (.slice A0_2 l0_2.length c0_2) := (blk_cell BK315.out 2).trans rfl; have hfz11_0 := blk_frozen BK315.out 0; have hfz11_1 := blk_frozen BK315.out 1; have hfz11_2 := blk_frozen BK315.out 2) | (go_at_call 14; (with_reducible refine (components_Label.calls a0_0 a0_1 _ _ l0_2 a1 t318 t321 t324 _ ?side1 ?side2 A5.out).mono ?_); (case side1 => repeat ((exact (Kd.C_below HR0_2.out HB.out)))); (case side2 => exact HC0_2.out); rintro e w12 ⟨v319, v322, rfl, ho0, ho1, hb⟩; have n0_ := Aside0.mk (Kd.R_lower ho0 (below_size (by repeat ((with_reducible exact HB.out))))); have n1_ := Aside0.mk (Kd.R_lower ho1 (below_size (by repeat ((with_reducible exact HB.out))))); have n2_ := Aside0.mk (blk_below (g := gb315) (o := .cells #[.int .i64 a0_0, .int .i64 a0_1, .slice A0_2 l0_2.length c0_2] 24 (0, 0)) (by (with_reducible repeat (fail)); exact BK315.out) hb); have n3_ := Aside0.mk (below_step (by repeat ((with_reducible exact HB.out))) hb); clear BK315; clear HB; have HO320 := n0_; have HO323 := n1_; have BK315 := n2_; have HB := n3_; clear n0_ n1_ n2_ n3_; (try clear hb); (try clear hb2); (try clear hk); (try clear hi); (try clear ho0); (try clear ho1); have hcz13_0 : w12.cell? ⟨gb315, 0, none⟩ = some (.int .i64 a0_0) := (blk_cell BK315.out 0).trans rfl; have hcz13_1 : w12.cell? ⟨gb315, 1, none⟩ = some (.int .i64 a0_1) := (blk_cell BK315.out 1).trans rfl; have hcz13_2 : w12.cell? ⟨gb315, 2, none⟩ = some (.slice A0_2 l0_2.length c0_2) := (blk_cell BK315.out 2).trans rfl; have hfz13_0 := blk_frozen BK315.out 0; have hfz13_1 := blk_frozen BK315.out 1; have hfz13_2 := blk_frozen BK315.out 2) | (go_at_call 15; (with_reducible refine (barscanref38_Label.calls k a0_0 a0_1 _ _ l0_2 a1 t325 t328 t331 _ ?side1 ?side2 A6.out).mono ?_); (case side1 => repeat ((exact (Kd.C_below HR0_2.out HB.out)))); (case side2 => exact HC0_2.out); rintro e w14 ⟨v326, v329, rfl, ho0, ho1, hb⟩; have n0_ := Aside0.mk (Kd.R_elder' (by (with_reducible repeat (fail)); exact HO320.out) (Kd.R_base ho0) hb); have n1_ := Aside0.mk (Kd.R_elder' (by (with_reducible repeat (fail)); exact HO323.out) (Kd.R_base ho1) hb); have n2_ := Aside0.mk (Kd.R_lower (Kd.R_new' ho0 (Kd.R_lt (by (with_reducible repeat (fail)); exact HO320.out))) (below_size (by repeat ((with_reducible exact HB.out))))); have n3_ := Aside0.mk (Kd.R_lower (Kd.R_new' ho1 (Kd.R_lt (by (with_reducible repeat (fail)); exact HO323.out))) (below_size (by repeat ((with_reducible exact HB.out))))); have n4_ := Aside0.mk (blk_below (g := gb315) (o := .cells #[.int .i64 a0_0, .int .i64 a0_1, .slice A0_2 l0_2.length c0_2] 24 (0, 0)) (by (with_reducible repeat (fail)); exact BK315.out) hb); have n5_ := Aside0.mk (below_step (by repeat ((with_reducible exact HB.out))) hb); clear HO320; clear HO323; clear BK315; clear HB; have HO320 := n0_; have HO323 := n1_; have HO327 := n2_; have HO330 := n3_; have BK315 := n4_; have HB := n5_; clear n0_ n1_ n2_ n3_ n4_ n5_; (try clear hb); (try clear hb2); (try clear hk); (try clear hi); (try clear ho0); (try clear ho1)))
    repeat (go_quiet (fail); go_upto_region 5 with (fail))
    (try simp only [Act.put, List.setIfInBounds_toArray, List.set_cons_zero, List.set_cons_succ])
    go_cut [45] (fun v45 wc => ∃ (kq : Nat) (x45_6 : Bool), v45 = .bool x45_6 ∧ Aside0 (barscanlaw38_ComponentsLabels.j0 kq t321 t328 x45_6 = some true) ∧ Aside0 (kq ≤ k) ∧ Aside0 (Kd.R k38 38 wc w.heap.size (fun k_ => some k_ ≠ (v329 : Value).ownBlock) v322 t321) ∧ Aside0 (Kd.R k38 38 wc w.heap.size (fun k_ => some k_ ≠ (v322 : Value).ownBlock) v329 t328) ∧ Aside0 (wc.heap[gb315]? = some (.cells #[.int .i64 a0_0, .int .i64 a0_1, (.slice A0_2 l0_2.length c0_2)] 24 (0, 0))) ∧ Aside0 (Below w.heap.size w wc))
    case first =>
      have H := HC7.out
      clear HC7
      by_cases c15 : t324 = t331
      · rw [if_pos c15] at H
        have c15b0 : (t324 == t331) = true := beq_iff_eq.mpr c15
        have c15b1 : (t324 != t331) = false := bne_eq_false_iff_eq.mpr c15
        clear c15
        (skip)
        replace H := Option.bind_eq_some_iff.mp H
        obtain ⟨t332, A160, H⟩ := H
        replace H : (if t332 = true then (barscanlaw38_ComponentsLabels.j0 k t321 t328 ((t321.length : Int) != (t328.length : Int))) else (barscanlaw38_ComponentsLabels.j0 k t321 t328 true)) = some true := H
        have A16 := Aside0.mk A160
        clear A160
        by_cases c17 : t332 = true
        · subst c17
          have H1 : (barscanlaw38_ComponentsLabels.j0 k t321 t328 ((t321.length : Int) != (t328.length : Int))) = some true := by rw [if_pos rfl] at H; exact H
          clear H
          have H := H1
          clear H1
          have H' := Aside0.mk H
          clear H
          obtain ⟨Ao18, co18, eo18⟩ := Kd.R_slice HO320.out
          subst eo18
          obtain ⟨Ao19, co19, eo19⟩ := Kd.R_slice HO327.out
          subst eo19
          go_wp2_with ((go_at_call 16; (with_reducible refine (barscanlaw38_same.calls k _ _ t318 _ _ t325 true _ ?side1 ?side2 ?side3 ?side4 A16.out).mono ?_); (case side1 => repeat ((exact (Kd.R_reads' HO320.out).2.2))); (case side2 => exact (Kd.R_reads' HO320.out).2.1); (case side3 => repeat ((exact (Kd.R_reads' HO327.out).2.2))); (case side4 => exact (Kd.R_reads' HO327.out).2.1); rintro e w' ⟨rfl, ⟨nd, rfl⟩⟩; (try fail); obtain ⟨Ao20, co20, eo20⟩ := Kd.R_slice HO323.out; subst eo20; obtain ⟨Ao21, co21, eo21⟩ := Kd.R_slice HO330.out; subst eo21))
          repeat (go_quiet (fail); try go_wp2_with (fail))
          go_meet
          case rel => exact ⟨_, (((t321.length : Int) != (t328.length : Int))), (by rfl), H', ⟨by omega⟩, ⟨by (with_reducible repeat (apply Kd.R_drewN)); exact Kd.R_mono HO323.out (fun _ hk => hk.2)⟩, ⟨by (with_reducible repeat (apply Kd.R_drewN)); exact Kd.R_mono HO330.out (fun _ hk => hk.2)⟩, ⟨by (with_reducible repeat (refine blk_drewN ?_ _)); exact BK315.out⟩, ⟨by repeat ((with_reducible first | exact HB.out | apply pw_below_drewN))⟩⟩
        · replace c17 := Bool.eq_false_iff.mpr c17
          subst c17
          have H1 : (barscanlaw38_ComponentsLabels.j0 k t321 t328 true) = some true := by rw [if_neg (show ¬ (false = true) by decide)] at H; exact H
          clear H
          have H := H1
          clear H1
          have H' := Aside0.mk H
          clear H
          obtain ⟨Ao22, co22, eo22⟩ := Kd.R_slice HO320.out
          subst eo22
          obtain ⟨Ao23, co23, eo23⟩ := Kd.R_slice HO327.out
          subst eo23
          go_wp2_with ((go_at_call 16; (with_reducible refine (barscanlaw38_same.calls k _ _ t318 _ _ t325 false _ ?side1 ?side2 ?side3 ?side4 A16.out).mono ?_); (case side1 => repeat ((exact (Kd.R_reads' HO320.out).2.2))); (case side2 => exact (Kd.R_reads' HO320.out).2.1); (case side3 => repeat ((exact (Kd.R_reads' HO327.out).2.2))); (case side4 => exact (Kd.R_reads' HO327.out).2.1); rintro e w' ⟨rfl, ⟨nd, rfl⟩⟩; (try fail)))
          repeat (go_quiet (fail); try go_wp2_with (fail))
          go_meet
          case rel => exact ⟨_, (true), (by rfl), H', ⟨by omega⟩, ⟨by (with_reducible repeat (apply Kd.R_drewN)); exact Kd.R_mono HO323.out (fun _ hk => hk.2)⟩, ⟨by (with_reducible repeat (apply Kd.R_drewN)); exact Kd.R_mono HO330.out (fun _ hk => hk.2)⟩, ⟨by (with_reducible repeat (refine blk_drewN ?_ _)); exact BK315.out⟩, ⟨by repeat ((with_reducible first | exact HB.out | apply pw_below_drewN))⟩⟩
      · rw [if_neg c15] at H
        have c15b0 : (t324 == t331) = false := beq_eq_false_iff_ne.mpr c15
        have c15b1 : (t324 != t331) = true := bne_iff_ne.mpr c15
        (skip)
        have H' := Aside0.mk H
        clear H
        go_wp2
        repeat (go_quiet (fail); try go_wp2)
        go_meet
        case rel => exact ⟨_, (true), (by rfl), H', ⟨by omega⟩, ⟨by (with_reducible repeat (fail)); exact Kd.R_mono HO323.out (fun _ hk => hk.2)⟩, ⟨by (with_reducible repeat (fail)); exact Kd.R_mono HO330.out (fun _ hk => hk.2)⟩, ⟨by (with_reducible repeat (fail)); exact BK315.out⟩, ⟨by repeat ((with_reducible exact HB.out))⟩⟩
    case rest =>
      clear HC7 hcz11_0 hcz11_1 hcz11_2 hcz13_0 hcz13_1 hcz13_2 hcz9_0 hcz9_1 hcz9_2 hfz11_0 hfz11_1 hfz11_2 hfz13_0 hfz13_1 hfz13_2 hfz9_0 hfz9_1 hfz9_2
      obtain ⟨kq, x45_6, rfl, HA, HJ6, HO_6, HO_9, BK315, HB⟩ := hcut
      cases kq with
      | zero => exact absurd HA.out (by simp [barscanlaw38_ComponentsLabels.j0])
      | succ kj6 =>
        have H := HA.out
        clear HA
        simp only [barscanlaw38_ComponentsLabels.j0] at H
        by_cases c24 : x45_6 = true
        · subst c24
          have H1 : (some false) = some true := by rw [if_pos rfl] at H; exact H
          clear H
          have H := H1
          clear H1
          cases H
        · replace c24 := Bool.eq_false_iff.mpr c24
          subst c24
          have H1 : (barscanlaw38_ComponentsLabels.l0 kj6 t321 t328 0) = some true := by rw [if_neg (show ¬ (false = true) by decide)] at H; exact H
          clear H
          have H := H1
          clear H1
          have H' := Aside0.mk H
          clear H
          go_wp2
          repeat (go_quiet (fail); try go_wp2)
          go_loopg [11] kj6 (fun kq v11 w' => ∃ (x11_2 : Int), v11 = .int .i64 x11_2 ∧ Aside0 (barscanlaw38_ComponentsLabels.l0 kq t321 t328 x11_2 = some true) ∧ Aside0 (kq ≤ kj6) ∧ Aside0 (Kd.R k38 38 w' w.heap.size (fun k_ => some k_ ≠ (v329 : Value).ownBlock) v322 t321) ∧ Aside0 (Kd.R k38 38 w' w.heap.size (fun k_ => some k_ ≠ (v322 : Value).ownBlock) v329 t328) ∧ Aside0 (w'.heap[gb315]? = some (.cells #[.int .i64 a0_0, .int .i64 a0_1, (.slice A0_2 l0_2.length c0_2)] 24 (0, 0))) ∧ Aside0 (Below w.heap.size w w'))
          case atStart => exact ⟨(0), (by rfl), H', ⟨Nat.le_refl _⟩, ⟨by (with_reducible repeat (fail)); exact HO_6.out⟩, ⟨by (with_reducible repeat (fail)); exact HO_9.out⟩, ⟨by (with_reducible repeat (fail)); exact BK315.out⟩, ⟨by repeat ((with_reducible exact HB.out))⟩⟩
          case round =>
            clear H'
            obtain ⟨x11_2, rfl, HA, HK2, HO_6, HO_9, BK315, HB⟩ := hrel
            cases gk with
            | zero => exact absurd HA.out (by simp [barscanlaw38_ComponentsLabels.l0])
            | succ k2 =>
              have H := HA.out
              clear HA
              simp only [barscanlaw38_ComponentsLabels.l0] at H
              by_cases c25 : x11_2 < (t321.length : Int)
              · rw [if_pos c25] at H
                have c25b0 : decide (x11_2 < (t321.length : Int)) = true := decide_eq_true c25
                clear c25
                by_cases c26 : 0 ≤ x11_2
                · rw [if_pos c26] at H
                  have c26b0 : decide (0 ≤ x11_2) = true := decide_eq_true c26
                  clear c26
                  by_cases c27 : x11_2 < (t328.length : Int)
                  · rw [if_pos c27] at H
                    have c27b0 : decide (x11_2 < (t328.length : Int)) = true := decide_eq_true c27
                    clear c27
                    by_cases c28 : ((!(((rd_T38 t321 x11_2).f0.f0) == ((rd_T38 t328 x11_2).f0.f0)) || (!(((rd_T38 t321 x11_2).f0.f1) == ((rd_T38 t328 x11_2).f0.f1)) || (!(((rd_T38 t321 x11_2).f0.f2) == ((rd_T38 t328 x11_2).f0.f2)) || (!(((rd_T38 t321 x11_2).f0.f3) == ((rd_T38 t328 x11_2).f0.f3)))))) || (!(((rd_T38 t321 x11_2).f1) == ((rd_T38 t328 x11_2).f1)) || ((!(((rd_T38 t321 x11_2).f2.f0) == ((rd_T38 t328 x11_2).f2.f0)) || (!(((rd_T38 t321 x11_2).f2.f1) == ((rd_T38 t328 x11_2).f2.f1))))))) = true
                    · rw [if_pos c28] at H
                      have c28b0 : ((!(((rd_T38 t321 x11_2).f0.f0) == ((rd_T38 t328 x11_2).f0.f0)) || (!(((rd_T38 t321 x11_2).f0.f1) == ((rd_T38 t328 x11_2).f0.f1)) || (!(((rd_T38 t321 x11_2).f0.f2) == ((rd_T38 t328 x11_2).f0.f2)) || (!(((rd_T38 t321 x11_2).f0.f3) == ((rd_T38 t328 x11_2).f0.f3)))))) || (!(((rd_T38 t321 x11_2).f1) == ((rd_T38 t328 x11_2).f1)) || ((!(((rd_T38 t321 x11_2).f2.f0) == ((rd_T38 t328 x11_2).f2.f0)) || (!(((rd_T38 t321 x11_2).f2.f1) == ((rd_T38 t328 x11_2).f2.f1))))))) = true := c28
                      clear c28
                      cases H
                    · rw [if_neg c28] at H
                      have c28b0 : ((!(((rd_T38 t321 x11_2).f0.f0) == ((rd_T38 t328 x11_2).f0.f0)) || (!(((rd_T38 t321 x11_2).f0.f1) == ((rd_T38 t328 x11_2).f0.f1)) || (!(((rd_T38 t321 x11_2).f0.f2) == ((rd_T38 t328 x11_2).f0.f2)) || (!(((rd_T38 t321 x11_2).f0.f3) == ((rd_T38 t328 x11_2).f0.f3)))))) || (!(((rd_T38 t321 x11_2).f1) == ((rd_T38 t328 x11_2).f1)) || ((!(((rd_T38 t321 x11_2).f2.f0) == ((rd_T38 t328 x11_2).f2.f0)) || (!(((rd_T38 t321 x11_2).f2.f1) == ((rd_T38 t328 x11_2).f2.f1))))))) = false := by simpa using c28
                      clear c28
                      have H' := Aside0.mk H
                      clear H
                      obtain ⟨Ao29, co29, eo29⟩ := Kd.R_slice HO_6.out
                      subst eo29
                      have p333 : 0 ≤ (x11_2 : Int) := of_decide_eq_true (by (with_reducible assumption))
                      have q333 : x11_2 < (t321.length : Int) := of_decide_eq_true (by (with_reducible assumption))
                      obtain ⟨ad333, e333, hx333_0, hx333_1, hx333_2, hx333_3, hx333_4, hx333_5, hx333_6⟩ := at_T38 (Kd.R_reads' HO_6.out).2.2 x11_2 p333 q333
                      cases e333
                      replace p333 := eq_true p333
                      replace q333 := eq_true q333
                      obtain ⟨Ao30, co30, eo30⟩ := Kd.R_slice HO_9.out
                      subst eo30
                      have p334 : 0 ≤ (x11_2 : Int) := of_decide_eq_true (by (with_reducible assumption))
                      have q334 : x11_2 < (t328.length : Int) := of_decide_eq_true (by (with_reducible assumption))
                      obtain ⟨ad334, e334, hx334_0, hx334_1, hx334_2, hx334_3, hx334_4, hx334_5, hx334_6⟩ := at_T38 (Kd.R_reads' HO_9.out).2.2 x11_2 p334 q334
                      cases e334
                      replace p334 := eq_true p334
                      replace q334 := eq_true q334
                      go_wp2
                      repeat (go_quiet (fail); try go_wp2)
                      go_roundg k2
                      case measure => have := HJ6.out; have := HK2.out; omega
                      case rel => exact ⟨(wrap64 (x11_2 + 1)), (by rfl), H', ⟨by have := HJ6.out; have := HK2.out; omega⟩, ⟨by (with_reducible repeat (apply Kd.R_drewN)); exact HO_6.out⟩, ⟨by (with_reducible repeat (apply Kd.R_drewN)); exact HO_9.out⟩, ⟨by (with_reducible repeat (refine blk_drewN ?_ _)); exact BK315.out⟩, ⟨by repeat ((with_reducible first | exact HB.out | apply pw_below_drewN))⟩⟩
                  · rw [if_neg c27] at H
                    exact absurd H (by simp)
                · rw [if_neg c26] at H
                  exact absurd H (by simp)
              · rw [if_neg c25] at H
                have c25b0 : decide (x11_2 < (t321.length : Int)) = false := decide_eq_false c25
                clear c25
                replace H := Option.bind_eq_some_iff.mp H
                obtain ⟨t335, A310, H⟩ := H
                replace H : (some t335) = some true := H
                have A31 := Aside0.mk A310
                clear A310
                (obtain rfl := Option.some.inj H)
                obtain ⟨Ao32, co32, eo32⟩ := Kd.R_slice HO_6.out
                subst eo32
                go_wp2_with ((go_at_call 13; (with_reducible refine (exHolds.calls  _ _ A31.out).mono ?_); rintro e w33 ⟨rfl, hb⟩; have n0_ := Aside0.mk (Kd.R_below (by (with_reducible repeat (fail)); exact HO_6.out) hb); have n1_ := Aside0.mk (Kd.R_below (by (with_reducible repeat (fail)); exact HO_9.out) hb); have n2_ := Aside0.mk (blk_below (g := gb315) (o := .cells #[.int .i64 a0_0, .int .i64 a0_1, .slice A0_2 l0_2.length c0_2] 24 (0, 0)) (by (with_reducible repeat (fail)); exact BK315.out) hb); have n3_ := Aside0.mk (below_step (by repeat ((with_reducible exact HB.out))) hb); clear HO_6; clear HO_9; clear BK315; clear HB; have HO_6 := n0_; have HO_9 := n1_; have BK315 := n2_; have HB := n3_; clear n0_ n1_ n2_ n3_; (try clear hb); (try clear hb2); (try clear hk); (try clear hi)))
                repeat (go_quiet (fail); try go_wp2_with (fail))
                go_ret
                exact ⟨by rfl, by repeat ((with_reducible exact HB.out))⟩
  · replace c4 := Bool.eq_false_iff.mpr c4
    subst c4
    have H1 : ((exHolds.f).bind fun t317 => (some t317)) = some true := by rw [if_neg (show ¬ (false = true) by decide)] at H; exact H
    clear H
    have H := H1
    clear H1
    replace H := Option.bind_eq_some_iff.mp H
    obtain ⟨t317, A340, H⟩ := H
    replace H : (some t317) = some true := H
    have A34 := Aside0.mk A340
    clear A340
    (obtain rfl := Option.some.inj H)
    go_enter Try.func3, Try.ntmps3
    go_wp2_with (first | ((with_reducible refine gate_dst (N := 2) rfl ?_); (try (refine gate_guard (by rfl) ?_; dsimp only)); refine box_event ?hg (N := 2) ?hd (cs := #[.int .i64 a0_0, .int .i64 a0_1, .slice A0_2 l0_2.length c0_2]) (t := 24) ?hr ?_; (case hd => rfl); (case hg => rfl); (case hr => (go_simp; done)); intro gb315 hg w35 hbox hb; have n0_ := Aside0.mk (below_step (by repeat ((with_reducible exact HB.out))) hb); have n1_ := Aside0.mk (hbox); have n2_ := Aside0.mk ((by rw [hg]; exact (below_size (by repeat ((with_reducible exact HB.out)))) : w.heap.size ≤ gb315)); have n3_ := Aside0.mk ((by rw [hg]; exact (below_size (by repeat ((with_reducible exact HB.out)))) : w.heap.size ≤ gb315)); clear HB; have HB := n0_; have BK315 := n1_; have GW315 := n2_; have GE315 := n3_; clear n0_ n1_ n2_ n3_; clear hb hbox hg; have hcz36_0 : w35.cell? ⟨gb315, 0, none⟩ = some (.int .i64 a0_0) := (blk_cell BK315.out 0).trans rfl; have hcz36_1 : w35.cell? ⟨gb315, 1, none⟩ = some (.int .i64 a0_1) := (blk_cell BK315.out 1).trans rfl; have hcz36_2 : w35.cell? ⟨gb315, 2, none⟩ = some (.slice A0_2 l0_2.length c0_2) := (blk_cell BK315.out 2).trans rfl; have hfz36_0 := blk_frozen BK315.out 0; have hfz36_1 := blk_frozen BK315.out 1; have hfz36_2 := blk_frozen BK315.out 2) | (go_at_call 12; (with_reducible refine (barscanlaw38_few.calls a0_0 a0_1 _ _ l0_2 false _ ?side1 ?side2 A3.out).mono ?_); (case side1 => repeat ((exact (Kd.C_below HR0_2.out HB.out)))); (case side2 => exact HC0_2.out); rintro e w37 ⟨rfl, hb⟩; have n0_ := Aside0.mk (blk_below (g := gb315) (o := .cells #[.int .i64 a0_0, .int .i64 a0_1, .slice A0_2 l0_2.length c0_2] 24 (0, 0)) (by (with_reducible repeat (fail)); exact BK315.out) hb); have n1_ := Aside0.mk (below_step (by repeat ((with_reducible exact HB.out))) hb); clear BK315; clear HB; have BK315 := n0_; have HB := n1_; clear n0_ n1_; (try clear hb); (try clear hb2); (try clear hk); (try clear hi)) | (go_at_call 13; (with_reducible refine (exHolds.calls  _ _ A34.out).mono ?_); rintro e w38 ⟨rfl, hb⟩; have n0_ := Aside0.mk (blk_below (g := gb315) (o := .cells #[.int .i64 a0_0, .int .i64 a0_1, .slice A0_2 l0_2.length c0_2] 24 (0, 0)) (by (with_reducible repeat (fail)); exact BK315.out) hb); have n1_ := Aside0.mk (below_step (by repeat ((with_reducible exact HB.out))) hb); clear BK315; clear HB; have BK315 := n0_; have HB := n1_; clear n0_ n1_; (try clear hb); (try clear hb2); (try clear hk); (try clear hi)))
    repeat (go_quiet (fail); try go_wp2_with (fail))
    go_ret
    exact ⟨by rfl, by repeat ((with_reducible exact HB.out))⟩

end Go.Proofs.Ytahibhipffojlaa.M
