-- Machine side, printed by this session's own program over the kit's print (wip/tools/myprint.py). Lean checks it.
import Derived.Test.YtahibhipffojlaaMx0
import Derived.Test.YtahibhipffojlaaMx2
import Derived.Test.YtahibhipffojlaaMx6
import Derived.Test.YtahibhipffojlaaMx8
import Derived.Test.YtahibhipffojlaaMx17
import Derived.Test.YtahibhipffojlaaEx
namespace Go.Proofs.Ytahibhipffojlaa.M
open Go.RowKit Go.Proofs.YtahibhipffojlaaW.PrintWords Go.Proofs.YtahibhipffojlaaW.PrintLast Go.Proofs.YtahibhipffojlaaW.PrintMore
attribute [local go_sem] max2_int min2_int max_two min_two max_three min_three max_four min_four   -- for this text's walks alone
set_option linter.unusedVariables false
set_option linter.unusedSimpArgs false

/-! ### barscanlaw38_ComponentsLocal: function 8 -/
mutual
def barscanlaw38_ComponentsLocal.j0 : Nat → Int → Int → Bool → Int → Int → List Bool → Option (Bool)
  | 0, _, _, _, _, _, _ => none
  | k + 1, x3, x4, x25, x527000, x527001, x527002 => if x25 = true then ((exHolds.f).bind fun t531 => (some t531)) else (if x4 = 0 then (barscanlaw38_ComponentsLocal.l0 k x3 0 (-1) x527000 x527001 x527002) else (some false))
def barscanlaw38_ComponentsLocal.l0 : Nat → Int → Int → Int → Int → Int → List Bool → Option (Bool)
  | 0, _, _, _, _, _, _ => none
  | k + 1, x3, x5, x6, x527000, x527001, x527002 => if x6 < x527001 then (barscanlaw38_ComponentsLocal.l1 k x3 x5 x6 (-1) x527000 x527001 x527002) else (if (wrap64 (4 * x3)) = x5 then ((exHolds.f).bind fun t532 => (some t532)) else (some false))
def barscanlaw38_ComponentsLocal.l1 : Nat → Int → Int → Int → Int → Int → Int → List Bool → Option (Bool)
  | 0, _, _, _, _, _, _, _ => none
  | k + 1, x3, x5, x6, x7, x527000, x527001, x527002 => if x7 < x527000 then ((barscanref31_At.f x527000 x527001 x527002 x7 x6).bind fun t533 => ((barscanref31_At.f x527000 x527001 x527002 (wrap64 (x7 + 1)) x6).bind fun t534 => ((barscanref31_At.f x527000 x527001 x527002 x7 (wrap64 (x6 + 1))).bind fun t535 => ((barscanref31_At.f x527000 x527001 x527002 (wrap64 (x7 + 1)) (wrap64 (x6 + 1))).bind fun t536 => (if t533 = true then (barscanlaw38_ComponentsLocal.j3 k x3 x5 x6 x7 t533 t534 t535 t536 (0 + 1) x527000 x527001 x527002) else (barscanlaw38_ComponentsLocal.j3 k x3 x5 x6 x7 t533 t534 t535 t536 0 x527000 x527001 x527002)))))) else (barscanlaw38_ComponentsLocal.l0 k x3 x5 (wrap64 (x6 + 1)) x527000 x527001 x527002)
def barscanlaw38_ComponentsLocal.j3 : Nat → Int → Int → Int → Int → Bool → Bool → Bool → Bool → Int → Int → Int → List Bool → Option (Bool)
  | 0, _, _, _, _, _, _, _, _, _, _, _, _ => none
  | k + 1, x3, x5, x6, x7, x8, x9, x10, x11, x12, x527000, x527001, x527002 => if x9 = true then (barscanlaw38_ComponentsLocal.j4 k x3 x5 x6 x7 x8 x10 x11 (wrap64 (x12 + 1)) x527000 x527001 x527002) else (barscanlaw38_ComponentsLocal.j4 k x3 x5 x6 x7 x8 x10 x11 x12 x527000 x527001 x527002)
def barscanlaw38_ComponentsLocal.j4 : Nat → Int → Int → Int → Int → Bool → Bool → Bool → Int → Int → Int → List Bool → Option (Bool)
  | 0, _, _, _, _, _, _, _, _, _, _, _ => none
  | k + 1, x3, x5, x6, x7, x8, x10, x11, x12, x527000, x527001, x527002 => if x10 = true then (barscanlaw38_ComponentsLocal.j5 k x3 x5 x6 x7 x8 x11 (wrap64 (x12 + 1)) x527000 x527001 x527002) else (barscanlaw38_ComponentsLocal.j5 k x3 x5 x6 x7 x8 x11 x12 x527000 x527001 x527002)
def barscanlaw38_ComponentsLocal.j5 : Nat → Int → Int → Int → Int → Bool → Bool → Int → Int → Int → List Bool → Option (Bool)
  | 0, _, _, _, _, _, _, _, _, _, _ => none
  | k + 1, x3, x5, x6, x7, x8, x11, x12, x527000, x527001, x527002 => if x11 = true then (barscanlaw38_ComponentsLocal.j6 k x3 x5 x6 x7 x8 x11 (wrap64 (x12 + 1)) x527000 x527001 x527002) else (barscanlaw38_ComponentsLocal.j6 k x3 x5 x6 x7 x8 x11 x12 x527000 x527001 x527002)
def barscanlaw38_ComponentsLocal.j6 : Nat → Int → Int → Int → Int → Bool → Bool → Int → Int → Int → List Bool → Option (Bool)
  | 0, _, _, _, _, _, _, _, _, _, _ => none
  | k + 1, x3, x5, x6, x7, x8, x11, x12, x527000, x527001, x527002 => if x12 = 1 then (barscanlaw38_ComponentsLocal.j7 k x3 (wrap64 (x5 + 1)) x6 x7 x8 x11 x12 x527000 x527001 x527002) else (barscanlaw38_ComponentsLocal.j7 k x3 x5 x6 x7 x8 x11 x12 x527000 x527001 x527002)
def barscanlaw38_ComponentsLocal.j7 : Nat → Int → Int → Int → Int → Bool → Bool → Int → Int → Int → List Bool → Option (Bool)
  | 0, _, _, _, _, _, _, _, _, _, _ => none
  | k + 1, x3, x5, x6, x7, x8, x11, x12, x527000, x527001, x527002 => if x12 = 3 then (if x12 = 2 then (if (x8 == x11) = true then (barscanlaw38_ComponentsLocal.l1 k x3 (wrap64 ((wrap64 (x5 - 1)) - 2)) x6 (wrap64 (x7 + 1)) x527000 x527001 x527002) else (barscanlaw38_ComponentsLocal.l1 k x3 (wrap64 (x5 - 1)) x6 (wrap64 (x7 + 1)) x527000 x527001 x527002)) else (barscanlaw38_ComponentsLocal.l1 k x3 (wrap64 (x5 - 1)) x6 (wrap64 (x7 + 1)) x527000 x527001 x527002)) else (if x12 = 2 then (if (x8 == x11) = true then (barscanlaw38_ComponentsLocal.l1 k x3 (wrap64 (x5 - 2)) x6 (wrap64 (x7 + 1)) x527000 x527001 x527002) else (barscanlaw38_ComponentsLocal.l1 k x3 x5 x6 (wrap64 (x7 + 1)) x527000 x527001 x527002)) else (barscanlaw38_ComponentsLocal.l1 k x3 x5 x6 (wrap64 (x7 + 1)) x527000 x527001 x527002))
end
def barscanlaw38_ComponentsLocal.f (k : Nat) (a0_0 : Int) (a0_1 : Int) (l0_2 : List Bool) : Option (Bool) := (components_Euler.f k a0_0 a0_1 l0_2).bind fun bt527 => ((barscanlaw38_few.f a0_0 a0_1 l0_2).bind fun t529 => (if t529 = true then ((barscanref31_Check.f a0_0 a0_1 l0_2).bind fun t530 => (barscanlaw38_ComponentsLocal.j0 k bt527.1 bt527.2 (t530 != 0) a0_0 a0_1 l0_2)) else (barscanlaw38_ComponentsLocal.j0 k bt527.1 bt527.2 true a0_0 a0_1 l0_2)))
theorem barscanlaw38_ComponentsLocal.mono_l : ∀ k, (∀ y0 y1 y2 y3 y4 y5, LeO (barscanlaw38_ComponentsLocal.j0 k y0 y1 y2 y3 y4 y5) (barscanlaw38_ComponentsLocal.j0 (k + 1) y0 y1 y2 y3 y4 y5)) ∧ (∀ y0 y1 y2 y3 y4 y5, LeO (barscanlaw38_ComponentsLocal.l0 k y0 y1 y2 y3 y4 y5) (barscanlaw38_ComponentsLocal.l0 (k + 1) y0 y1 y2 y3 y4 y5)) ∧ (∀ y0 y1 y2 y3 y4 y5 y6, LeO (barscanlaw38_ComponentsLocal.l1 k y0 y1 y2 y3 y4 y5 y6) (barscanlaw38_ComponentsLocal.l1 (k + 1) y0 y1 y2 y3 y4 y5 y6)) ∧ (∀ y0 y1 y2 y3 y4 y5 y6 y7 y8 y9 y10 y11, LeO (barscanlaw38_ComponentsLocal.j3 k y0 y1 y2 y3 y4 y5 y6 y7 y8 y9 y10 y11) (barscanlaw38_ComponentsLocal.j3 (k + 1) y0 y1 y2 y3 y4 y5 y6 y7 y8 y9 y10 y11)) ∧ (∀ y0 y1 y2 y3 y4 y5 y6 y7 y8 y9 y10, LeO (barscanlaw38_ComponentsLocal.j4 k y0 y1 y2 y3 y4 y5 y6 y7 y8 y9 y10) (barscanlaw38_ComponentsLocal.j4 (k + 1) y0 y1 y2 y3 y4 y5 y6 y7 y8 y9 y10)) ∧ (∀ y0 y1 y2 y3 y4 y5 y6 y7 y8 y9, LeO (barscanlaw38_ComponentsLocal.j5 k y0 y1 y2 y3 y4 y5 y6 y7 y8 y9) (barscanlaw38_ComponentsLocal.j5 (k + 1) y0 y1 y2 y3 y4 y5 y6 y7 y8 y9)) ∧ (∀ y0 y1 y2 y3 y4 y5 y6 y7 y8 y9, LeO (barscanlaw38_ComponentsLocal.j6 k y0 y1 y2 y3 y4 y5 y6 y7 y8 y9) (barscanlaw38_ComponentsLocal.j6 (k + 1) y0 y1 y2 y3 y4 y5 y6 y7 y8 y9)) ∧ (∀ y0 y1 y2 y3 y4 y5 y6 y7 y8 y9, LeO (barscanlaw38_ComponentsLocal.j7 k y0 y1 y2 y3 y4 y5 y6 y7 y8 y9) (barscanlaw38_ComponentsLocal.j7 (k + 1) y0 y1 y2 y3 y4 y5 y6 y7 y8 y9))
  | 0 => ⟨fun _ _ _ _ _ _ r h => by simp [barscanlaw38_ComponentsLocal.j0] at h, fun _ _ _ _ _ _ r h => by simp [barscanlaw38_ComponentsLocal.l0] at h, fun _ _ _ _ _ _ _ r h => by simp [barscanlaw38_ComponentsLocal.l1] at h, fun _ _ _ _ _ _ _ _ _ _ _ _ r h => by simp [barscanlaw38_ComponentsLocal.j3] at h, fun _ _ _ _ _ _ _ _ _ _ _ r h => by simp [barscanlaw38_ComponentsLocal.j4] at h, fun _ _ _ _ _ _ _ _ _ _ r h => by simp [barscanlaw38_ComponentsLocal.j5] at h, fun _ _ _ _ _ _ _ _ _ _ r h => by simp [barscanlaw38_ComponentsLocal.j6] at h, fun _ _ _ _ _ _ _ _ _ _ r h => by simp [barscanlaw38_ComponentsLocal.j7] at h⟩
  | k + 1 => by
    obtain ⟨ih0, ih1, ih2, ih3, ih4, ih5, ih6, ih7⟩ := barscanlaw38_ComponentsLocal.mono_l k
    refine ⟨?_, ?_, ?_, ?_, ?_, ?_, ?_, ?_⟩
    · intro y0 y1 y2 y3 y4 y5
      unfold barscanlaw38_ComponentsLocal.j0
      repeat' first
      | (with_reducible exact ih1 _ _ _ _ _ _)
      | (with_reducible exact LeO.refl _)
      | (with_reducible refine LeO.ite ?_ ?_)
    · intro y0 y1 y2 y3 y4 y5
      unfold barscanlaw38_ComponentsLocal.l0
      repeat' first
      | (with_reducible exact ih2 _ _ _ _ _ _ _)
      | (with_reducible exact LeO.refl _)
      | (with_reducible refine LeO.ite ?_ ?_)
    · intro y0 y1 y2 y3 y4 y5 y6
      unfold barscanlaw38_ComponentsLocal.l1
      repeat' first
      | (with_reducible exact ih1 _ _ _ _ _ _)
      | (with_reducible exact ih3 _ _ _ _ _ _ _ _ _ _ _ _)
      | (with_reducible exact LeO.refl _)
      | (with_reducible refine LeO.ite ?_ ?_)
      | (with_reducible refine LeO.bind ?_ (fun _ => ?_))
    · intro y0 y1 y2 y3 y4 y5 y6 y7 y8 y9 y10 y11
      unfold barscanlaw38_ComponentsLocal.j3
      repeat' first
      | (with_reducible exact ih4 _ _ _ _ _ _ _ _ _ _ _)
      | (with_reducible refine LeO.ite ?_ ?_)
    · intro y0 y1 y2 y3 y4 y5 y6 y7 y8 y9 y10
      unfold barscanlaw38_ComponentsLocal.j4
      repeat' first
      | (with_reducible exact ih5 _ _ _ _ _ _ _ _ _ _)
      | (with_reducible refine LeO.ite ?_ ?_)
    · intro y0 y1 y2 y3 y4 y5 y6 y7 y8 y9
      unfold barscanlaw38_ComponentsLocal.j5
      repeat' first
      | (with_reducible exact ih6 _ _ _ _ _ _ _ _ _ _)
      | (with_reducible refine LeO.ite ?_ ?_)
    · intro y0 y1 y2 y3 y4 y5 y6 y7 y8 y9
      unfold barscanlaw38_ComponentsLocal.j6
      repeat' first
      | (with_reducible exact ih7 _ _ _ _ _ _ _ _ _ _)
      | (with_reducible refine LeO.ite ?_ ?_)
    · intro y0 y1 y2 y3 y4 y5 y6 y7 y8 y9
      unfold barscanlaw38_ComponentsLocal.j7
      repeat' first
      | (with_reducible exact ih2 _ _ _ _ _ _ _)
      | (with_reducible refine LeO.ite ?_ ?_)
theorem barscanlaw38_ComponentsLocal.mono : ∀ a0 a1 a2 k, LeO (barscanlaw38_ComponentsLocal.f k a0 a1 a2) (barscanlaw38_ComponentsLocal.f (k + 1) a0 a1 a2) := by
  intro a0 a1 a2 k
  obtain ⟨ih0, ih1, ih2, ih3, ih4, ih5, ih6, ih7⟩ := barscanlaw38_ComponentsLocal.mono_l k
  unfold barscanlaw38_ComponentsLocal.f
  repeat' first
      | (with_reducible exact ih0 _ _ _ _ _ _)
      | (with_reducible exact components_Euler.mono _ _ _ _)
      | (with_reducible exact LeO.refl _)
      | (with_reducible refine LeO.ite ?_ ?_)
      | (with_reducible refine LeO.bind ?_ (fun _ => ?_))
def barscanlaw38_ComponentsLocal.T13 : Bool × List (List Nat × List Nat) := (true, [([], []), ([], []), ([], []), ([0, 1, 2], [0, 1, 2]), ([], []), ([], []), ([5], [5]), ([], []), ([4, 6, 7, 3], [4, 6, 7]), ([3, 8, 0, 1, 2, 3], [3]), ([8, 9, 0, 1, 2, 3, 4, 5, 6, 7, 8, 9], [8])])
def barscanlaw38_ComponentsLocal.B13 : List Nat := [0, 0, 0, 7, 0, 0, 32, 0, 255, 511, 1023]
theorem barscanlaw38_ComponentsLocal.tab13 : rtab .any (opsOf Try.f8 13) = barscanlaw38_ComponentsLocal.T13 := by kernel_rfl
theorem barscanlaw38_ComponentsLocal.bits13 : waitsOk barscanlaw38_ComponentsLocal.T13.2 barscanlaw38_ComponentsLocal.B13 = true := by kernel_rfl
def barscanlaw38_ComponentsLocal.T14 : Bool × List (List Nat × List Nat) := (true, [([], []), ([], []), ([], []), ([2], [2]), ([0, 1, 3], [0, 1, 3]), ([], []), ([], []), ([6], [6]), ([], []), ([8], [8]), ([5, 7, 9, 4], [5, 7, 9]), ([4, 10, 0, 1, 2, 3, 4], [4]), ([10, 11, 0, 1, 2, 3, 4, 5, 6, 7, 8, 9, 10, 11], [10])])
def barscanlaw38_ComponentsLocal.B14 : List Nat := [0, 0, 0, 4, 15, 0, 0, 64, 0, 256, 1023, 2047, 4095]
theorem barscanlaw38_ComponentsLocal.tab14 : rtab .any (opsOf Try.f8 14) = barscanlaw38_ComponentsLocal.T14 := by kernel_rfl
theorem barscanlaw38_ComponentsLocal.bits14 : waitsOk barscanlaw38_ComponentsLocal.T14.2 barscanlaw38_ComponentsLocal.B14 = true := by kernel_rfl
set_option maxHeartbeats 8000000 in
set_option maxRecDepth 100000 in
theorem barscanlaw38_ComponentsLocal.calls (k : Nat) (a0_0 : Int) (a0_1 : Int) (A0_2 : Option Addr) (c0_2 : Nat) (l0_2 : List Bool) (w : World) (hr0_2 : Kd.C Kd.bool w A0_2 l0_2.length l0_2) (hc0_2 : l0_2.length ≤ c0_2) (h : barscanlaw38_ComponentsLocal.f k a0_0 a0_1 l0_2 = some true) :
    Calls Try.prog 8 #[.agg #[.int .i64 a0_0, .int .i64 a0_1, .slice A0_2 l0_2.length c0_2]] w fun e w' => e = .returned (.bool true) ∧ Below w.heap.size w w' := by
  have hu24 := Try.underlying24
  have HR0_2 := Aside0.mk hr0_2
  have HC0_2 := Aside0.mk hc0_2
  clear hr0_2 hc0_2
  have HB := Aside0.mk (Below.refl w.heap.size w)
  have H : ((components_Euler.f k a0_0 a0_1 l0_2).bind fun bt527 => ((barscanlaw38_few.f a0_0 a0_1 l0_2).bind fun t529 => (if t529 = true then ((barscanref31_Check.f a0_0 a0_1 l0_2).bind fun t530 => (barscanlaw38_ComponentsLocal.j0 k bt527.1 bt527.2 (t530 != 0) a0_0 a0_1 l0_2)) else (barscanlaw38_ComponentsLocal.j0 k bt527.1 bt527.2 true a0_0 a0_1 l0_2)))) = some true := h
  clear h
  replace H := Option.bind_eq_some_iff.mp H
  obtain ⟨⟨t527, t528⟩, A20, H⟩ := H
  replace H : ((barscanlaw38_few.f a0_0 a0_1 l0_2).bind fun t529 => (if t529 = true then ((barscanref31_Check.f a0_0 a0_1 l0_2).bind fun t530 => (barscanlaw38_ComponentsLocal.j0 k t527 t528 (t530 != 0) a0_0 a0_1 l0_2)) else (barscanlaw38_ComponentsLocal.j0 k t527 t528 true a0_0 a0_1 l0_2))) = some true := H
  have A2 := Aside0.mk A20
  clear A20
  have HC3 := Aside0.mk H
  clear H
  go_enter Try.func8, Try.ntmps8
  go_upto_region 2 with (first | ((with_reducible refine gate_dst (N := 1) rfl ?_); refine box_event ?hg (N := 1) ?hd (cs := #[.int .i64 a0_0, .int .i64 a0_1, .slice A0_2 l0_2.length c0_2]) (t := 24) ?hr ?_; (case hd => rfl); (case hg => rfl); (case hr => (go_simp; done)); intro gb526 hg w4 hbox hb; have n0_ := Aside0.mk (below_step (by repeat ((with_reducible exact HB.out))) hb); have n1_ := Aside0.mk (hbox); have n2_ := Aside0.mk ((by rw [hg]; exact (below_size (by repeat ((with_reducible exact HB.out)))) : w.heap.size ≤ gb526)); have n3_ := Aside0.mk ((by rw [hg]; exact (below_size (by repeat ((with_reducible exact HB.out)))) : w.heap.size ≤ gb526)); clear HB; have HB := n0_; have BK526 := n1_; have GW526 := n2_; have GE526 := n3_; clear n0_ n1_ n2_ n3_; clear hb hbox hg; have hcz5_0 : w4.cell? ⟨gb526, 0, none⟩ = some (.int .i64 a0_0) := (blk_cell BK526.out 0).trans rfl; have hcz5_1 : w4.cell? ⟨gb526, 1, none⟩ = some (.int .i64 a0_1) := (blk_cell BK526.out 1).trans rfl; have hcz5_2 : w4.cell? ⟨gb526, 2, none⟩ = some (.slice A0_2 l0_2.length c0_2) := (blk_cell BK526.out 2).trans rfl; have hfz5_0 := blk_frozen BK526.out 0; have hfz5_1 := blk_frozen BK526.out 1; have hfz5_2 := blk_frozen BK526.out 2) | ((with_reducible refine gate_callee (f := 22) rfl ?_); refine goesL_ (some 15) rfl rfl Try.func22 (by kernel_rfl) rfl #[.agg #[.int .i64 a0_0, .int .i64 a0_1, .slice A0_2 l0_2.length c0_2]] rfl (by (try simp only [List.map_toArray, List.map_cons, List.map_nil]); rfl) ?_; (with_reducible refine (components_Euler.calls k a0_0 a0_1 _ _ l0_2 t527 t528 _ ?side1 ?side2 A2.out).mono ?_); (case side1 => repeat ((exact (Kd.C_below HR0_2.out HB.out)))); (case side2 => exact HC0_2.out); rintro e w6 ⟨rfl, hb⟩; refine ⟨_, rfl, ?_⟩; have n0_ := Aside0.mk (blk_below (g := gb526) (o := .cells #[.int .i64 a0_0, .int .i64 a0_1, .slice A0_2 l0_2.length c0_2] 24 (0, 0)) (by (with_reducible repeat (fail)); exact BK526.out) hb); have n1_ := Aside0.mk (below_step (by repeat ((with_reducible exact HB.out))) hb); clear BK526; clear HB; have BK526 := n0_; have HB := n1_; clear n0_ n1_; (try clear hb); (try clear hb2); (try clear hk); (try clear hi)))
  (try simp only [Act.put, List.setIfInBounds_toArray, List.set_cons_zero, List.set_cons_succ])
  go_cut [25] (fun v25 wc => ∃ (kq : Nat) (x25_2 : Bool), v25 = .bool x25_2 ∧ Aside0 (barscanlaw38_ComponentsLocal.j0 kq t527 t528 x25_2 a0_0 a0_1 l0_2 = some true) ∧ Aside0 (kq ≤ k) ∧ Aside0 (wc.heap[gb526]? = some (.cells #[.int .i64 a0_0, .int .i64 a0_1, (.slice A0_2 l0_2.length c0_2)] 24 (0, 0))) ∧ Aside0 (Below w.heap.size w wc))
  case first =>
    have H := HC3.out
    clear HC3
    replace H := Option.bind_eq_some_iff.mp H
    obtain ⟨t529, A70, H⟩ := H
    replace H : (if t529 = true then ((barscanref31_Check.f a0_0 a0_1 l0_2).bind fun t530 => (barscanlaw38_ComponentsLocal.j0 k t527 t528 (t530 != 0) a0_0 a0_1 l0_2)) else (barscanlaw38_ComponentsLocal.j0 k t527 t528 true a0_0 a0_1 l0_2)) = some true := H
    have A7 := Aside0.mk A70
    clear A70
    by_cases c8 : t529 = true
    · subst c8
      have H1 : ((barscanref31_Check.f a0_0 a0_1 l0_2).bind fun t530 => (barscanlaw38_ComponentsLocal.j0 k t527 t528 (t530 != 0) a0_0 a0_1 l0_2)) = some true := by rw [if_pos rfl] at H; exact H
      clear H
      have H := H1
      clear H1
      replace H := Option.bind_eq_some_iff.mp H
      obtain ⟨t530, A90, H⟩ := H
      replace H : (barscanlaw38_ComponentsLocal.j0 k t527 t528 (t530 != 0) a0_0 a0_1 l0_2) = some true := H
      have A9 := Aside0.mk A90
      clear A90
      have H' := Aside0.mk H
      clear H
      have hcz10_0 : w6.cell? ⟨gb526, 0, none⟩ = some (.int .i64 a0_0) := (blk_cell BK526.out 0).trans rfl
      have hcz10_1 : w6.cell? ⟨gb526, 1, none⟩ = some (.int .i64 a0_1) := (blk_cell BK526.out 1).trans rfl
      have hcz10_2 : w6.cell? ⟨gb526, 2, none⟩ = some (.slice A0_2 l0_2.length c0_2) := (blk_cell BK526.out 2).trans rfl
      have hfz10_0 := blk_frozen BK526.out 0
      have hfz10_1 := blk_frozen BK526.out 1
      have hfz10_2 := blk_frozen BK526.out 2
      go_wp2_with (first | ((with_reducible refine gate_callee (f := 12) rfl ?_); refine goesL_ (some 19) rfl rfl Try.func12 (by kernel_rfl) rfl #[.agg #[.int .i64 a0_0, .int .i64 a0_1, .slice A0_2 l0_2.length c0_2]] rfl (by (try simp only [List.map_toArray, List.map_cons, List.map_nil]); rfl) ?_; (with_reducible refine (barscanlaw38_few.calls a0_0 a0_1 _ _ l0_2 true _ ?side1 ?side2 A7.out).mono ?_); (case side1 => repeat ((exact (Kd.C_below HR0_2.out HB.out)))); (case side2 => exact HC0_2.out); rintro e w11 ⟨rfl, hb⟩; refine ⟨_, rfl, ?_⟩; have n0_ := Aside0.mk (blk_below (g := gb526) (o := .cells #[.int .i64 a0_0, .int .i64 a0_1, .slice A0_2 l0_2.length c0_2] 24 (0, 0)) (by (with_reducible repeat (fail)); exact BK526.out) hb); have n1_ := Aside0.mk (below_step (by repeat ((with_reducible exact HB.out))) hb); clear BK526; clear HB; have BK526 := n0_; have HB := n1_; clear n0_ n1_; (try clear hb); (try clear hb2); (try clear hk); (try clear hi); have hcz12_0 : w11.cell? ⟨gb526, 0, none⟩ = some (.int .i64 a0_0) := (blk_cell BK526.out 0).trans rfl; have hcz12_1 : w11.cell? ⟨gb526, 1, none⟩ = some (.int .i64 a0_1) := (blk_cell BK526.out 1).trans rfl; have hcz12_2 : w11.cell? ⟨gb526, 2, none⟩ = some (.slice A0_2 l0_2.length c0_2) := (blk_cell BK526.out 2).trans rfl; have hfz12_0 := blk_frozen BK526.out 0; have hfz12_1 := blk_frozen BK526.out 1; have hfz12_2 := blk_frozen BK526.out 2) | (go_at_call 24; (with_reducible refine (barscanref31_Check.calls a0_0 a0_1 _ _ l0_2 t530 _ ?side1 ?side2 A9.out).mono ?_); (case side1 => repeat ((exact (Kd.C_below HR0_2.out HB.out)))); (case side2 => exact HC0_2.out); rintro e w13 ⟨rfl, hb⟩; have n0_ := Aside0.mk (blk_below (g := gb526) (o := .cells #[.int .i64 a0_0, .int .i64 a0_1, .slice A0_2 l0_2.length c0_2] 24 (0, 0)) (by (with_reducible repeat (fail)); exact BK526.out) hb); have n1_ := Aside0.mk (below_step (by repeat ((with_reducible exact HB.out))) hb); clear BK526; clear HB; have BK526 := n0_; have HB := n1_; clear n0_ n1_; (try clear hb); (try clear hb2); (try clear hk); (try clear hi)))
      go_meet
      case rel => exact ⟨_, ((t530 != 0)), (by rfl), H', ⟨by omega⟩, ⟨by (with_reducible repeat (fail)); exact BK526.out⟩, ⟨by repeat ((with_reducible exact HB.out))⟩⟩
    · replace c8 := Bool.eq_false_iff.mpr c8
      subst c8
      have H1 : (barscanlaw38_ComponentsLocal.j0 k t527 t528 true a0_0 a0_1 l0_2) = some true := by rw [if_neg (show ¬ (false = true) by decide)] at H; exact H
      clear H
      have H := H1
      clear H1
      have H' := Aside0.mk H
      clear H
      have hcz14_0 : w6.cell? ⟨gb526, 0, none⟩ = some (.int .i64 a0_0) := (blk_cell BK526.out 0).trans rfl
      have hcz14_1 : w6.cell? ⟨gb526, 1, none⟩ = some (.int .i64 a0_1) := (blk_cell BK526.out 1).trans rfl
      have hcz14_2 : w6.cell? ⟨gb526, 2, none⟩ = some (.slice A0_2 l0_2.length c0_2) := (blk_cell BK526.out 2).trans rfl
      have hfz14_0 := blk_frozen BK526.out 0
      have hfz14_1 := blk_frozen BK526.out 1
      have hfz14_2 := blk_frozen BK526.out 2
      go_wp2_with (((with_reducible refine gate_callee (f := 12) rfl ?_); refine goesL_ (some 19) rfl rfl Try.func12 (by kernel_rfl) rfl #[.agg #[.int .i64 a0_0, .int .i64 a0_1, .slice A0_2 l0_2.length c0_2]] rfl (by (try simp only [List.map_toArray, List.map_cons, List.map_nil]); rfl) ?_; (with_reducible refine (barscanlaw38_few.calls a0_0 a0_1 _ _ l0_2 false _ ?side1 ?side2 A7.out).mono ?_); (case side1 => repeat ((exact (Kd.C_below HR0_2.out HB.out)))); (case side2 => exact HC0_2.out); rintro e w15 ⟨rfl, hb⟩; refine ⟨_, rfl, ?_⟩; have n0_ := Aside0.mk (blk_below (g := gb526) (o := .cells #[.int .i64 a0_0, .int .i64 a0_1, .slice A0_2 l0_2.length c0_2] 24 (0, 0)) (by (with_reducible repeat (fail)); exact BK526.out) hb); have n1_ := Aside0.mk (below_step (by repeat ((with_reducible exact HB.out))) hb); clear BK526; clear HB; have BK526 := n0_; have HB := n1_; clear n0_ n1_; (try clear hb); (try clear hb2); (try clear hk); (try clear hi)))
      go_meet
      case rel => exact ⟨_, (true), (by rfl), H', ⟨by omega⟩, ⟨by (with_reducible repeat (fail)); exact BK526.out⟩, ⟨by repeat ((with_reducible exact HB.out))⟩⟩
  case rest =>
    clear HC3 hcz5_0 hcz5_1 hcz5_2 hfz5_0 hfz5_1 hfz5_2
    obtain ⟨kq, x25_2, rfl, HA, HJ2, BK526, HB⟩ := hcut
    cases kq with
    | zero => exact absurd HA.out (by simp [barscanlaw38_ComponentsLocal.j0])
    | succ kj2 =>
      have H := HA.out
      clear HA
      simp only [barscanlaw38_ComponentsLocal.j0] at H
      by_cases c16 : x25_2 = true
      · subst c16
        have H1 : ((exHolds.f).bind fun t531 => (some t531)) = some true := by rw [if_pos rfl] at H; exact H
        clear H
        have H := H1
        clear H1
        replace H := Option.bind_eq_some_iff.mp H
        obtain ⟨t531, A170, H⟩ := H
        replace H : (some t531) = some true := H
        have A17 := Aside0.mk A170
        clear A170
        (obtain rfl := Option.some.inj H)
        go_wp2_with (((with_reducible refine gate_callee (f := 13) rfl ?_); refine goesL_ (some 26) rfl rfl Try.func13 (by kernel_rfl) rfl #[] rfl (by (try simp only [List.map_toArray, List.map_cons, List.map_nil]); done) ?_; (with_reducible refine (exHolds.calls  _ _ A17.out).mono ?_); rintro e w18 ⟨rfl, hb⟩; refine ⟨_, rfl, ?_⟩; have n0_ := Aside0.mk (blk_below (g := gb526) (o := .cells #[.int .i64 a0_0, .int .i64 a0_1, .slice A0_2 l0_2.length c0_2] 24 (0, 0)) (by (with_reducible repeat (fail)); exact BK526.out) hb); have n1_ := Aside0.mk (below_step (by repeat ((with_reducible exact HB.out))) hb); clear BK526; clear HB; have BK526 := n0_; have HB := n1_; clear n0_ n1_; (try clear hb); (try clear hb2); (try clear hk); (try clear hi)))
        go_ret
        exact ⟨by rfl, by repeat ((with_reducible exact HB.out))⟩
      · replace c16 := Bool.eq_false_iff.mpr c16
        subst c16
        have H1 : (if t528 = 0 then (barscanlaw38_ComponentsLocal.l0 kj2 t527 0 (-1) a0_0 a0_1 l0_2) else (some false)) = some true := by rw [if_neg (show ¬ (false = true) by decide)] at H; exact H
        clear H
        have H := H1
        clear H1
        by_cases c19 : t528 = 0
        · rw [if_pos c19] at H
          have c19b0 : (t528 == 0) = true := beq_iff_eq.mpr c19
          have c19b1 : (t528 != 0) = false := bne_eq_false_iff_eq.mpr c19
          clear c19
          have H' := Aside0.mk H
          clear H
          go_wp2
          go_loopg [5, 6] kj2 (fun kq v5 v6 w' => ∃ (x5_2 : Int) (x6_2 : Int), v5 = .int .i64 x5_2 ∧ v6 = .int .i64 x6_2 ∧ Aside0 (barscanlaw38_ComponentsLocal.l0 kq t527 x5_2 x6_2 a0_0 a0_1 l0_2 = some true) ∧ Aside0 (kq ≤ kj2) ∧ Aside0 (w'.heap[gb526]? = some (.cells #[.int .i64 a0_0, .int .i64 a0_1, (.slice A0_2 l0_2.length c0_2)] 24 (0, 0))) ∧ Aside0 (Below w.heap.size w w'))
          case atStart => exact ⟨(0), ((-1)), (by rfl), (by rfl), H', ⟨Nat.le_refl _⟩, ⟨by (with_reducible repeat (fail)); exact BK526.out⟩, ⟨by repeat ((with_reducible exact HB.out))⟩⟩
          case round =>
            clear H' c19b0 c19b1
            obtain ⟨x5_2, x6_2, rfl, rfl, HA, HK2, BK526, HB⟩ := hrel
            cases gk with
            | zero => exact absurd HA.out (by simp [barscanlaw38_ComponentsLocal.l0])
            | succ k2 =>
              have H := HA.out
              clear HA
              simp only [barscanlaw38_ComponentsLocal.l0] at H
              by_cases c20 : x6_2 < a0_1
              · rw [if_pos c20] at H
                have c20b0 : decide (x6_2 < a0_1) = true := decide_eq_true c20
                clear c20
                have H' := Aside0.mk H
                clear H
                have hcz21_0 : wr.cell? ⟨gb526, 0, none⟩ = some (.int .i64 a0_0) := (blk_cell BK526.out 0).trans rfl
                have hcz21_1 : wr.cell? ⟨gb526, 1, none⟩ = some (.int .i64 a0_1) := (blk_cell BK526.out 1).trans rfl
                have hcz21_2 : wr.cell? ⟨gb526, 2, none⟩ = some (.slice A0_2 l0_2.length c0_2) := (blk_cell BK526.out 2).trans rfl
                have hfz21_0 := blk_frozen BK526.out 0
                have hfz21_1 := blk_frozen BK526.out 1
                have hfz21_2 := blk_frozen BK526.out 2
                go_wp2
                go_loopg [5, 7] k2 (fun kq v5 v7 w' => ∃ (x5_3 : Int) (x7_3 : Int), v5 = .int .i64 x5_3 ∧ v7 = .int .i64 x7_3 ∧ Aside0 (barscanlaw38_ComponentsLocal.l1 kq t527 x5_3 x6_2 x7_3 a0_0 a0_1 l0_2 = some true) ∧ Aside0 (kq ≤ k2) ∧ Aside0 (w'.heap[gb526]? = some (.cells #[.int .i64 a0_0, .int .i64 a0_1, (.slice A0_2 l0_2.length c0_2)] 24 (0, 0))) ∧ Aside0 (Below w.heap.size w w'))
                case atStart => exact ⟨(x5_2), ((-1)), (by rfl), (by rfl), H', ⟨Nat.le_refl _⟩, ⟨by (with_reducible repeat (fail)); exact BK526.out⟩, ⟨by repeat ((with_reducible exact HB.out))⟩⟩
                case round =>
                  clear H' c20b0 hcz21_0 hcz21_1 hcz21_2 hfz21_0 hfz21_1 hfz21_2
                  obtain ⟨x5_3, x7_3, rfl, rfl, HA, HK3, BK526, HB⟩ := hrel
                  cases gk with
                  | zero => exact absurd HA.out (by simp [barscanlaw38_ComponentsLocal.l1])
                  | succ k3 =>
                    have H := HA.out
                    clear HA
                    simp only [barscanlaw38_ComponentsLocal.l1] at H
                    by_cases c22 : x7_3 < a0_0
                    · rw [if_pos c22] at H
                      have c22b0 : decide (x7_3 < a0_0) = true := decide_eq_true c22
                      clear c22
                      replace H := Option.bind_eq_some_iff.mp H
                      obtain ⟨t533, A230, H⟩ := H
                      replace H : ((barscanref31_At.f a0_0 a0_1 l0_2 (wrap64 (x7_3 + 1)) x6_2).bind fun t534 => ((barscanref31_At.f a0_0 a0_1 l0_2 x7_3 (wrap64 (x6_2 + 1))).bind fun t535 => ((barscanref31_At.f a0_0 a0_1 l0_2 (wrap64 (x7_3 + 1)) (wrap64 (x6_2 + 1))).bind fun t536 => (if t533 = true then (barscanlaw38_ComponentsLocal.j3 k3 t527 x5_3 x6_2 x7_3 t533 t534 t535 t536 (0 + 1) a0_0 a0_1 l0_2) else (barscanlaw38_ComponentsLocal.j3 k3 t527 x5_3 x6_2 x7_3 t533 t534 t535 t536 0 a0_0 a0_1 l0_2))))) = some true := H
                      have A23 := Aside0.mk A230
                      clear A230
                      replace H := Option.bind_eq_some_iff.mp H
                      obtain ⟨t534, A240, H⟩ := H
                      replace H : ((barscanref31_At.f a0_0 a0_1 l0_2 x7_3 (wrap64 (x6_2 + 1))).bind fun t535 => ((barscanref31_At.f a0_0 a0_1 l0_2 (wrap64 (x7_3 + 1)) (wrap64 (x6_2 + 1))).bind fun t536 => (if t533 = true then (barscanlaw38_ComponentsLocal.j3 k3 t527 x5_3 x6_2 x7_3 t533 t534 t535 t536 (0 + 1) a0_0 a0_1 l0_2) else (barscanlaw38_ComponentsLocal.j3 k3 t527 x5_3 x6_2 x7_3 t533 t534 t535 t536 0 a0_0 a0_1 l0_2)))) = some true := H
                      have A24 := Aside0.mk A240
                      clear A240
                      replace H := Option.bind_eq_some_iff.mp H
                      obtain ⟨t535, A250, H⟩ := H
                      replace H : ((barscanref31_At.f a0_0 a0_1 l0_2 (wrap64 (x7_3 + 1)) (wrap64 (x6_2 + 1))).bind fun t536 => (if t533 = true then (barscanlaw38_ComponentsLocal.j3 k3 t527 x5_3 x6_2 x7_3 t533 t534 t535 t536 (0 + 1) a0_0 a0_1 l0_2) else (barscanlaw38_ComponentsLocal.j3 k3 t527 x5_3 x6_2 x7_3 t533 t534 t535 t536 0 a0_0 a0_1 l0_2))) = some true := H
                      have A25 := Aside0.mk A250
                      clear A250
                      replace H := Option.bind_eq_some_iff.mp H
                      obtain ⟨t536, A260, H⟩ := H
                      replace H : (if t533 = true then (barscanlaw38_ComponentsLocal.j3 k3 t527 x5_3 x6_2 x7_3 t533 t534 t535 t536 (0 + 1) a0_0 a0_1 l0_2) else (barscanlaw38_ComponentsLocal.j3 k3 t527 x5_3 x6_2 x7_3 t533 t534 t535 t536 0 a0_0 a0_1 l0_2)) = some true := H
                      have A26 := Aside0.mk A260
                      clear A260
                      have HC27 := Aside0.mk H
                      clear H
                      have hcz28_0 : wr.cell? ⟨gb526, 0, none⟩ = some (.int .i64 a0_0) := (blk_cell BK526.out 0).trans rfl
                      have hcz28_1 : wr.cell? ⟨gb526, 1, none⟩ = some (.int .i64 a0_1) := (blk_cell BK526.out 1).trans rfl
                      have hcz28_2 : wr.cell? ⟨gb526, 2, none⟩ = some (.slice A0_2 l0_2.length c0_2) := (blk_cell BK526.out 2).trans rfl
                      have hfz28_0 := blk_frozen BK526.out 0
                      have hfz28_1 := blk_frozen BK526.out 1
                      have hfz28_2 := blk_frozen BK526.out 2
                      try go_wp2
                      have n0_ := Aside0.mk (blk_drew BK526.out)
                      have n1_ := Aside0.mk (below_drew1 HB.out)
                      clear BK526 HB
                      have BK526 := n0_
                      have HB := n1_
                      clear n0_ n1_
                      refine start_ (n := 11) (S := fun w' => w'.cell? ⟨gb526, 0, none⟩ = some (.int .i64 a0_0) ∧ w'.cell? ⟨gb526, 1, none⟩ = some (.int .i64 a0_1) ∧ w'.cell? ⟨gb526, 2, none⟩ = some (.slice A0_2 l0_2.length c0_2)) (ds := []) #[false, false, false, false, false, false, false, false, false, false, false] (by kernel_rfl) rfl rfl ⟨(blk_cell BK526.out 0).trans rfl, (blk_cell BK526.out 1).trans rfl, (blk_cell BK526.out 2).trans rfl⟩ (fun hHeld => ?_); refine with_tabW barscanlaw38_ComponentsLocal.tab13 barscanlaw38_ComponentsLocal.bits13 (fun HT_ HW_ => ?_)
                      generalize wr.drew = w29 at BK526 HB hHeld ⊢
                      refine pure_ (i := 1) (N := some 42) (v := ?_) (a' := ?_) #[false, true, false, false, false, false, false, false, false, false, false] rfl rfl (any_of HT_.out (by kernel_rfl)) (fun _ _ _ h => h) (Or.inl ⟨by rfl, ?_⟩) ?_ ?_
                      rotate_left
                      · intro w'
                        go_simp
                        with_reducible rfl
                      rotate_left
                      · simp only [Act.put, List.setIfInBounds_toArray, List.set_cons_zero, List.set_cons_succ, i64_w, i32_w]
                        rfl
                      refine pure_ (i := 2) (N := some 43) (v := ?_) (a' := ?_) #[false, true, true, false, false, false, false, false, false, false, false] rfl rfl (any_of HT_.out (by kernel_rfl)) (fun _ _ _ h => h) (Or.inl ⟨by rfl, ?_⟩) ?_ ?_
                      rotate_left
                      · intro w'
                        go_simp
                        with_reducible rfl
                      rotate_left
                      · simp only [Act.put, List.setIfInBounds_toArray, List.set_cons_zero, List.set_cons_succ, i64_w, i32_w]
                        rfl
                      refine pure_ (i := 5) (N := some 46) (v := ?_) (a' := ?_) #[false, true, true, false, false, true, false, false, false, false, false] rfl rfl (any_of HT_.out (by kernel_rfl)) (fun _ _ _ h => h) (Or.inl ⟨by rfl, ?_⟩) ?_ ?_
                      rotate_left
                      · intro w'
                        go_simp
                        with_reducible rfl
                      rotate_left
                      · simp only [Act.put, List.setIfInBounds_toArray, List.set_cons_zero, List.set_cons_succ, i64_w, i32_w]
                        rfl
                      refine pure_ (i := 6) (N := some 47) (v := ?_) (a' := ?_) #[false, true, true, false, false, true, true, false, false, false, false] rfl rfl (any_of HT_.out (by kernel_rfl)) (fun _ _ _ h => h) (Or.inl ⟨by rfl, ?_⟩) ?_ ?_
                      rotate_left
                      · intro w'
                        go_simp
                        with_reducible rfl
                      rotate_left
                      · simp only [Act.put, List.setIfInBounds_toArray, List.set_cons_zero, List.set_cons_succ, i64_w, i32_w]
                        rfl
                      refine pure_ (i := 7) (N := some 48) (v := ?_) (a' := ?_) #[false, true, true, false, false, true, true, true, false, false, false] rfl rfl (any_of HT_.out (by kernel_rfl)) (fun _ _ _ h => h) (Or.inl ⟨by rfl, ?_⟩) ?_ ?_
                      rotate_left
                      · intro w'
                        go_simp
                        with_reducible rfl
                      rotate_left
                      · simp only [Act.put, List.setIfInBounds_toArray, List.set_cons_zero, List.set_cons_succ, i64_w, i32_w]
                        rfl
                      refine take_ (i := 0) (N := some 41) (v := ?_) (a' := ?_) #[true, true, true, false, false, true, true, true, false, false, false] rfl rfl (take_ofW HT_.out HW_.out (by kernel_rfl)) (fun _ _ _ h => h) (Or.inl ⟨by rfl, ?_⟩) hHeld ?_ ?_
                      rotate_left
                      · rintro w' ⟨s0, s1, s2⟩
                        go_simp
                        with_reducible rfl
                      rotate_left
                      · simp only [Act.put, List.setIfInBounds_toArray, List.set_cons_zero, List.set_cons_succ, i64_w, i32_w]
                        rfl
                      refine take_ (i := 4) (N := some 45) (v := ?_) (a' := ?_) #[true, true, true, false, true, true, true, true, false, false, false] rfl rfl (take_ofW HT_.out HW_.out (by kernel_rfl)) (fun _ _ _ h => h) (Or.inl ⟨by rfl, ?_⟩) hHeld ?_ ?_
                      rotate_left
                      · rintro w' ⟨s0, s1, s2⟩
                        go_simp
                        with_reducible rfl
                      rotate_left
                      · simp only [Act.put, List.setIfInBounds_toArray, List.set_cons_zero, List.set_cons_succ, i64_w, i32_w]
                        rfl
                      refine one_ (i := 3) (N := some 44) #[true, true, true, true, true, true, true, true, false, false, false] rfl rfl (one_of HT_.out (by kernel_rfl)) (by decide) (fun K hK => ?_)
                      refine goes_ Try.func26 (by kernel_rfl) rfl #[.agg #[.int .i64 a0_0, .int .i64 a0_1, .slice A0_2 l0_2.length c0_2], .int .i64 x7_3, .int .i64 x6_2] (by rfl) rfl rfl (by (try simp only [List.map_toArray, List.map_cons, List.map_nil]); rfl) ?_
                      with_reducible refine (barscanref31_At.calls a0_0 a0_1 _ _ l0_2 x7_3 x6_2 t533 _ ?side1 ?side2 A23.out).mono ?_
                      (case side1 => repeat ((exact (Kd.C_below HR0_2.out HB.out))))
                      (case side2 => exact HC0_2.out)
                      rintro e w30 ⟨rfl, hb⟩
                      refine ⟨_, rfl, ?_⟩
                      have n0_ := Aside0.mk (blk_below (g := gb526) (o := .cells #[.int .i64 a0_0, .int .i64 a0_1, .slice A0_2 l0_2.length c0_2] 24 (0, 0)) (by (with_reducible repeat (fail)); exact BK526.out) hb)
                      have n1_ := Aside0.mk (below_step (by repeat ((with_reducible exact HB.out))) hb)
                      clear BK526 HB
                      have BK526 := n0_
                      have HB := n1_
                      clear n0_ n1_
                      (try clear hb)
                      (try clear hb2)
                      (try clear hk)
                      (try clear hi)
                      refine hK.out _ _ ⟨(blk_cell BK526.out 0).trans rfl, (blk_cell BK526.out 1).trans rfl, (blk_cell BK526.out 2).trans rfl⟩ (fun hHeld => ?_)
                      clear hK K
                      refine norm_ (a' := ?_) ?_ ?_
                      rotate_left
                      · show Act.put _ (some 44) _ = _
                        simp only [Act.put, List.setIfInBounds_toArray, List.set_cons_zero, List.set_cons_succ, i64_w, i32_w]
                        rfl
                      refine one_ (i := 8) (N := some 49) #[true, true, true, true, true, true, true, true, true, false, false] rfl rfl (one_of HT_.out (by kernel_rfl)) (by decide) (fun K hK => ?_)
                      refine goes_ Try.func26 (by kernel_rfl) rfl #[.agg #[.int .i64 a0_0, .int .i64 a0_1, .slice A0_2 l0_2.length c0_2], .int .i64 (wrap64 (x7_3 + 1)), .int .i64 x6_2] (by rfl) rfl rfl (by (try simp only [List.map_toArray, List.map_cons, List.map_nil]); rfl) ?_
                      with_reducible refine (barscanref31_At.calls a0_0 a0_1 _ _ l0_2 (wrap64 (x7_3 + 1)) x6_2 t534 _ ?side1 ?side2 A24.out).mono ?_
                      (case side1 => repeat ((exact (Kd.C_below HR0_2.out HB.out))))
                      (case side2 => exact HC0_2.out)
                      rintro e w31 ⟨rfl, hb⟩
                      refine ⟨_, rfl, ?_⟩
                      have n0_ := Aside0.mk (blk_below (g := gb526) (o := .cells #[.int .i64 a0_0, .int .i64 a0_1, .slice A0_2 l0_2.length c0_2] 24 (0, 0)) (by (with_reducible repeat (fail)); exact BK526.out) hb)
                      have n1_ := Aside0.mk (below_step (by repeat ((with_reducible exact HB.out))) hb)
                      clear BK526 HB
                      have BK526 := n0_
                      have HB := n1_
                      clear n0_ n1_
                      (try clear hb)
                      (try clear hb2)
                      (try clear hk)
                      (try clear hi)
                      refine hK.out _ _ ⟨(blk_cell BK526.out 0).trans rfl, (blk_cell BK526.out 1).trans rfl, (blk_cell BK526.out 2).trans rfl⟩ (fun hHeld => ?_)
                      clear hK K
                      refine norm_ (a' := ?_) ?_ ?_
                      rotate_left
                      · show Act.put _ (some 49) _ = _
                        simp only [Act.put, List.setIfInBounds_toArray, List.set_cons_zero, List.set_cons_succ, i64_w, i32_w]
                        rfl
                      refine pure_ (i := 9) (N := some 8) (v := ?_) (a' := ?_) #[true, true, true, true, true, true, true, true, true, true, false] rfl rfl (any_of HT_.out (by kernel_rfl)) (fun _ _ _ h => h) (Or.inl ⟨by rfl, ?_⟩) ?_ ?_
                      rotate_left
                      · intro w'
                        go_simp
                        with_reducible rfl
                      rotate_left
                      · simp only [Act.put, List.setIfInBounds_toArray, List.set_cons_zero, List.set_cons_succ, i64_w, i32_w]
                        rfl
                      refine pure_ (i := 10) (N := some 9) (v := ?_) (a' := ?_) #[true, true, true, true, true, true, true, true, true, true, true] rfl rfl (any_of HT_.out (by kernel_rfl)) (fun _ _ _ h => h) (Or.inl ⟨by rfl, ?_⟩) ?_ ?_
                      rotate_left
                      · intro w'
                        go_simp
                        with_reducible rfl
                      rotate_left
                      · simp only [Act.put, List.setIfInBounds_toArray, List.set_cons_zero, List.set_cons_succ, i64_w, i32_w]
                        rfl
                      refine done_ (done_of HT_.out (by kernel_rfl)) ?_
                      try go_wp2
                      have n0_ := Aside0.mk (blk_drew BK526.out)
                      have n1_ := Aside0.mk (below_drew1 HB.out)
                      clear BK526 HB
                      have BK526 := n0_
                      have HB := n1_
                      clear n0_ n1_
                      refine start_ (n := 13) (S := fun w' => w'.cell? ⟨gb526, 0, none⟩ = some (.int .i64 a0_0) ∧ w'.cell? ⟨gb526, 1, none⟩ = some (.int .i64 a0_1) ∧ w'.cell? ⟨gb526, 2, none⟩ = some (.slice A0_2 l0_2.length c0_2)) (ds := []) #[false, false, false, false, false, false, false, false, false, false, false, false, false] (by kernel_rfl) rfl rfl ⟨(blk_cell BK526.out 0).trans rfl, (blk_cell BK526.out 1).trans rfl, (blk_cell BK526.out 2).trans rfl⟩ (fun hHeld => ?_); refine with_tabW barscanlaw38_ComponentsLocal.tab14 barscanlaw38_ComponentsLocal.bits14 (fun HT_ HW_ => ?_)
                      generalize w31.drew = w32 at BK526 HB hHeld ⊢
                      refine pure_ (i := 1) (N := some 51) (v := ?_) (a' := ?_) #[false, true, false, false, false, false, false, false, false, false, false, false, false] rfl rfl (any_of HT_.out (by kernel_rfl)) (fun _ _ _ h => h) (Or.inl ⟨by rfl, ?_⟩) ?_ ?_
                      rotate_left
                      · intro w'
                        go_simp
                        with_reducible rfl
                      rotate_left
                      · simp only [Act.put, List.setIfInBounds_toArray, List.set_cons_zero, List.set_cons_succ, i64_w, i32_w]
                        rfl
                      refine pure_ (i := 2) (N := some 52) (v := ?_) (a' := ?_) #[false, true, true, false, false, false, false, false, false, false, false, false, false] rfl rfl (any_of HT_.out (by kernel_rfl)) (fun _ _ _ h => h) (Or.inl ⟨by rfl, ?_⟩) ?_ ?_
                      rotate_left
                      · intro w'
                        go_simp
                        with_reducible rfl
                      rotate_left
                      · simp only [Act.put, List.setIfInBounds_toArray, List.set_cons_zero, List.set_cons_succ, i64_w, i32_w]
                        rfl
                      refine pure_ (i := 3) (N := some 53) (v := ?_) (a' := ?_) #[false, true, true, true, false, false, false, false, false, false, false, false, false] rfl rfl (any_of HT_.out (by kernel_rfl)) (fun _ _ _ h => h) (Or.inl ⟨by rfl, ?_⟩) ?_ ?_
                      rotate_left
                      · intro w'
                        go_simp
                        with_reducible rfl
                      rotate_left
                      · simp only [Act.put, List.setIfInBounds_toArray, List.set_cons_zero, List.set_cons_succ, i64_w, i32_w]
                        rfl
                      refine pure_ (i := 6) (N := some 56) (v := ?_) (a' := ?_) #[false, true, true, true, false, false, true, false, false, false, false, false, false] rfl rfl (any_of HT_.out (by kernel_rfl)) (fun _ _ _ h => h) (Or.inl ⟨by rfl, ?_⟩) ?_ ?_
                      rotate_left
                      · intro w'
                        go_simp
                        with_reducible rfl
                      rotate_left
                      · simp only [Act.put, List.setIfInBounds_toArray, List.set_cons_zero, List.set_cons_succ, i64_w, i32_w]
                        rfl
                      refine pure_ (i := 7) (N := some 57) (v := ?_) (a' := ?_) #[false, true, true, true, false, false, true, true, false, false, false, false, false] rfl rfl (any_of HT_.out (by kernel_rfl)) (fun _ _ _ h => h) (Or.inl ⟨by rfl, ?_⟩) ?_ ?_
                      rotate_left
                      · intro w'
                        go_simp
                        with_reducible rfl
                      rotate_left
                      · simp only [Act.put, List.setIfInBounds_toArray, List.set_cons_zero, List.set_cons_succ, i64_w, i32_w]
                        rfl
                      refine pure_ (i := 8) (N := some 58) (v := ?_) (a' := ?_) #[false, true, true, true, false, false, true, true, true, false, false, false, false] rfl rfl (any_of HT_.out (by kernel_rfl)) (fun _ _ _ h => h) (Or.inl ⟨by rfl, ?_⟩) ?_ ?_
                      rotate_left
                      · intro w'
                        go_simp
                        with_reducible rfl
                      rotate_left
                      · simp only [Act.put, List.setIfInBounds_toArray, List.set_cons_zero, List.set_cons_succ, i64_w, i32_w]
                        rfl
                      refine pure_ (i := 9) (N := some 59) (v := ?_) (a' := ?_) #[false, true, true, true, false, false, true, true, true, true, false, false, false] rfl rfl (any_of HT_.out (by kernel_rfl)) (fun _ _ _ h => h) (Or.inl ⟨by rfl, ?_⟩) ?_ ?_
                      rotate_left
                      · intro w'
                        go_simp
                        with_reducible rfl
                      rotate_left
                      · simp only [Act.put, List.setIfInBounds_toArray, List.set_cons_zero, List.set_cons_succ, i64_w, i32_w]
                        rfl
                      refine take_ (i := 0) (N := some 50) (v := ?_) (a' := ?_) #[true, true, true, true, false, false, true, true, true, true, false, false, false] rfl rfl (take_ofW HT_.out HW_.out (by kernel_rfl)) (fun _ _ _ h => h) (Or.inl ⟨by rfl, ?_⟩) hHeld ?_ ?_
                      rotate_left
                      · rintro w' ⟨s0, s1, s2⟩
                        go_simp
                        with_reducible rfl
                      rotate_left
                      · simp only [Act.put, List.setIfInBounds_toArray, List.set_cons_zero, List.set_cons_succ, i64_w, i32_w]
                        rfl
                      refine take_ (i := 5) (N := some 55) (v := ?_) (a' := ?_) #[true, true, true, true, false, true, true, true, true, true, false, false, false] rfl rfl (take_ofW HT_.out HW_.out (by kernel_rfl)) (fun _ _ _ h => h) (Or.inl ⟨by rfl, ?_⟩) hHeld ?_ ?_
                      rotate_left
                      · rintro w' ⟨s0, s1, s2⟩
                        go_simp
                        with_reducible rfl
                      rotate_left
                      · simp only [Act.put, List.setIfInBounds_toArray, List.set_cons_zero, List.set_cons_succ, i64_w, i32_w]
                        rfl
                      refine one_ (i := 4) (N := some 54) #[true, true, true, true, true, true, true, true, true, true, false, false, false] rfl rfl (one_of HT_.out (by kernel_rfl)) (by decide) (fun K hK => ?_)
                      refine goes_ Try.func26 (by kernel_rfl) rfl #[.agg #[.int .i64 a0_0, .int .i64 a0_1, .slice A0_2 l0_2.length c0_2], .int .i64 x7_3, .int .i64 (wrap64 (x6_2 + 1))] (by rfl) rfl rfl (by (try simp only [List.map_toArray, List.map_cons, List.map_nil]); rfl) ?_
                      with_reducible refine (barscanref31_At.calls a0_0 a0_1 _ _ l0_2 x7_3 (wrap64 (x6_2 + 1)) t535 _ ?side1 ?side2 A25.out).mono ?_
                      (case side1 => repeat ((exact (Kd.C_below HR0_2.out HB.out))))
                      (case side2 => exact HC0_2.out)
                      rintro e w33 ⟨rfl, hb⟩
                      refine ⟨_, rfl, ?_⟩
                      have n0_ := Aside0.mk (blk_below (g := gb526) (o := .cells #[.int .i64 a0_0, .int .i64 a0_1, .slice A0_2 l0_2.length c0_2] 24 (0, 0)) (by (with_reducible repeat (fail)); exact BK526.out) hb)
                      have n1_ := Aside0.mk (below_step (by repeat ((with_reducible exact HB.out))) hb)
                      clear BK526 HB
                      have BK526 := n0_
                      have HB := n1_
                      clear n0_ n1_
                      (try clear hb)
                      (try clear hb2)
                      (try clear hk)
                      (try clear hi)
                      refine hK.out _ _ ⟨(blk_cell BK526.out 0).trans rfl, (blk_cell BK526.out 1).trans rfl, (blk_cell BK526.out 2).trans rfl⟩ (fun hHeld => ?_)
                      clear hK K
                      refine norm_ (a' := ?_) ?_ ?_
                      rotate_left
                      · show Act.put _ (some 54) _ = _
                        simp only [Act.put, List.setIfInBounds_toArray, List.set_cons_zero, List.set_cons_succ, i64_w, i32_w]
                        rfl
                      refine one_ (i := 10) (N := some 60) #[true, true, true, true, true, true, true, true, true, true, true, false, false] rfl rfl (one_of HT_.out (by kernel_rfl)) (by decide) (fun K hK => ?_)
                      refine goes_ Try.func26 (by kernel_rfl) rfl #[.agg #[.int .i64 a0_0, .int .i64 a0_1, .slice A0_2 l0_2.length c0_2], .int .i64 (wrap64 (x7_3 + 1)), .int .i64 (wrap64 (x6_2 + 1))] (by rfl) rfl rfl (by (try simp only [List.map_toArray, List.map_cons, List.map_nil]); rfl) ?_
                      with_reducible refine (barscanref31_At.calls a0_0 a0_1 _ _ l0_2 (wrap64 (x7_3 + 1)) (wrap64 (x6_2 + 1)) t536 _ ?side1 ?side2 A26.out).mono ?_
                      (case side1 => repeat ((exact (Kd.C_below HR0_2.out HB.out))))
                      (case side2 => exact HC0_2.out)
                      rintro e w34 ⟨rfl, hb⟩
                      refine ⟨_, rfl, ?_⟩
                      have n0_ := Aside0.mk (blk_below (g := gb526) (o := .cells #[.int .i64 a0_0, .int .i64 a0_1, .slice A0_2 l0_2.length c0_2] 24 (0, 0)) (by (with_reducible repeat (fail)); exact BK526.out) hb)
                      have n1_ := Aside0.mk (below_step (by repeat ((with_reducible exact HB.out))) hb)
                      clear BK526 HB
                      have BK526 := n0_
                      have HB := n1_
                      clear n0_ n1_
                      (try clear hb)
                      (try clear hb2)
                      (try clear hk)
                      (try clear hi)
                      refine hK.out _ _ ⟨(blk_cell BK526.out 0).trans rfl, (blk_cell BK526.out 1).trans rfl, (blk_cell BK526.out 2).trans rfl⟩ (fun hHeld => ?_)
                      clear hK K
                      refine norm_ (a' := ?_) ?_ ?_
                      rotate_left
                      · show Act.put _ (some 60) _ = _
                        simp only [Act.put, List.setIfInBounds_toArray, List.set_cons_zero, List.set_cons_succ, i64_w, i32_w]
                        rfl
                      refine pure_ (i := 11) (N := some 10) (v := ?_) (a' := ?_) #[true, true, true, true, true, true, true, true, true, true, true, true, false] rfl rfl (any_of HT_.out (by kernel_rfl)) (fun _ _ _ h => h) (Or.inl ⟨by rfl, ?_⟩) ?_ ?_
                      rotate_left
                      · intro w'
                        go_simp
                        with_reducible rfl
                      rotate_left
                      · simp only [Act.put, List.setIfInBounds_toArray, List.set_cons_zero, List.set_cons_succ, i64_w, i32_w]
                        rfl
                      refine pure_ (i := 12) (N := some 11) (v := ?_) (a' := ?_) #[true, true, true, true, true, true, true, true, true, true, true, true, true] rfl rfl (any_of HT_.out (by kernel_rfl)) (fun _ _ _ h => h) (Or.inl ⟨by rfl, ?_⟩) ?_ ?_
                      rotate_left
                      · intro w'
                        go_simp
                        with_reducible rfl
                      rotate_left
                      · simp only [Act.put, List.setIfInBounds_toArray, List.set_cons_zero, List.set_cons_succ, i64_w, i32_w]
                        rfl
                      refine done_ (done_of HT_.out (by kernel_rfl)) ?_
                      go_upto_if 61 with (fail)
                      go_cut [12] (fun v12 wc => ∃ (kq : Nat) (x12_26 : Int), v12 = .int .i64 x12_26 ∧ Aside0 (barscanlaw38_ComponentsLocal.j3 kq t527 x5_3 x6_2 x7_3 t533 t534 t535 t536 x12_26 a0_0 a0_1 l0_2 = some true) ∧ Aside0 (kq ≤ k3) ∧ Aside0 (wc.heap[gb526]? = some (.cells #[.int .i64 a0_0, .int .i64 a0_1, (.slice A0_2 l0_2.length c0_2)] 24 (0, 0))) ∧ Aside0 (Below w.heap.size w wc))
                      case first =>
                        have H := HC27.out
                        clear HC27
                        by_cases c35 : t533 = true
                        · subst c35
                          have H1 : (barscanlaw38_ComponentsLocal.j3 k3 t527 x5_3 x6_2 x7_3 true t534 t535 t536 (0 + 1) a0_0 a0_1 l0_2) = some true := by rw [if_pos rfl] at H; exact H
                          clear H
                          have H := H1
                          clear H1
                          have H' := Aside0.mk H
                          clear H
                          go_wp2
                          go_meet
                          case rel => exact ⟨_, (0 + 1), (by rfl), H', ⟨by have := HJ2.out; have := HK2.out; have := HK3.out; omega⟩, ⟨by (with_reducible repeat (fail)); exact BK526.out⟩, ⟨by repeat ((with_reducible exact HB.out))⟩⟩
                        · replace c35 := Bool.eq_false_iff.mpr c35
                          subst c35
                          have H1 : (barscanlaw38_ComponentsLocal.j3 k3 t527 x5_3 x6_2 x7_3 false t534 t535 t536 0 a0_0 a0_1 l0_2) = some true := by rw [if_neg (show ¬ (false = true) by decide)] at H; exact H
                          clear H
                          have H := H1
                          clear H1
                          have H' := Aside0.mk H
                          clear H
                          go_wp2
                          go_meet
                          case rel => exact ⟨_, (0), (by rfl), H', ⟨by have := HJ2.out; have := HK2.out; have := HK3.out; omega⟩, ⟨by (with_reducible repeat (fail)); exact BK526.out⟩, ⟨by repeat ((with_reducible exact HB.out))⟩⟩
                      case rest =>
                        clear HC27 c22b0 hcz28_0 hcz28_1 hcz28_2 hfz28_0 hfz28_1 hfz28_2
                        obtain ⟨kq, x12_26, rfl, HA, HJ26, BK526, HB⟩ := hcut
                        cases kq with
                        | zero => exact absurd HA.out (by simp [barscanlaw38_ComponentsLocal.j3])
                        | succ kj26 =>
                          have H := HA.out
                          clear HA
                          simp only [barscanlaw38_ComponentsLocal.j3] at H
                          have HC36 := Aside0.mk H
                          clear H
                          go_upto_if 64 with (fail)
                          go_cut [12] (fun v12 wc => ∃ (kq : Nat) (x12_35 : Int), v12 = .int .i64 x12_35 ∧ Aside0 (barscanlaw38_ComponentsLocal.j4 kq t527 x5_3 x6_2 x7_3 t533 t535 t536 x12_35 a0_0 a0_1 l0_2 = some true) ∧ Aside0 (kq ≤ kj26) ∧ Aside0 (wc.heap[gb526]? = some (.cells #[.int .i64 a0_0, .int .i64 a0_1, (.slice A0_2 l0_2.length c0_2)] 24 (0, 0))) ∧ Aside0 (Below w.heap.size w wc))
                          case first =>
                            have H := HC36.out
                            clear HC36
                            by_cases c37 : t534 = true
                            · subst c37
                              have H1 : (barscanlaw38_ComponentsLocal.j4 kj26 t527 x5_3 x6_2 x7_3 t533 t535 t536 (wrap64 (x12_26 + 1)) a0_0 a0_1 l0_2) = some true := by rw [if_pos rfl] at H; exact H
                              clear H
                              have H := H1
                              clear H1
                              have H' := Aside0.mk H
                              clear H
                              go_wp2
                              go_meet
                              case rel => exact ⟨_, (wrap64 (x12_26 + 1)), (by rfl), H', ⟨by have := HJ2.out; have := HK2.out; have := HK3.out; have := HJ26.out; omega⟩, ⟨by (with_reducible repeat (fail)); exact BK526.out⟩, ⟨by repeat ((with_reducible exact HB.out))⟩⟩
                            · replace c37 := Bool.eq_false_iff.mpr c37
                              subst c37
                              have H1 : (barscanlaw38_ComponentsLocal.j4 kj26 t527 x5_3 x6_2 x7_3 t533 t535 t536 x12_26 a0_0 a0_1 l0_2) = some true := by rw [if_neg (show ¬ (false = true) by decide)] at H; exact H
                              clear H
                              have H := H1
                              clear H1
                              have H' := Aside0.mk H
                              clear H
                              go_wp2
                              go_meet
                              case rel => exact ⟨_, (x12_26), (by rfl), H', ⟨by have := HJ2.out; have := HK2.out; have := HK3.out; have := HJ26.out; omega⟩, ⟨by (with_reducible repeat (fail)); exact BK526.out⟩, ⟨by repeat ((with_reducible exact HB.out))⟩⟩
                          case rest =>
                            clear HC36
                            obtain ⟨kq, x12_35, rfl, HA, HJ35, BK526, HB⟩ := hcut
                            cases kq with
                            | zero => exact absurd HA.out (by simp [barscanlaw38_ComponentsLocal.j4])
                            | succ kj35 =>
                              have H := HA.out
                              clear HA
                              simp only [barscanlaw38_ComponentsLocal.j4] at H
                              have HC38 := Aside0.mk H
                              clear H
                              go_upto_if 67 with (fail)
                              go_cut [12] (fun v12 wc => ∃ (kq : Nat) (x12_37 : Int), v12 = .int .i64 x12_37 ∧ Aside0 (barscanlaw38_ComponentsLocal.j5 kq t527 x5_3 x6_2 x7_3 t533 t536 x12_37 a0_0 a0_1 l0_2 = some true) ∧ Aside0 (kq ≤ kj35) ∧ Aside0 (wc.heap[gb526]? = some (.cells #[.int .i64 a0_0, .int .i64 a0_1, (.slice A0_2 l0_2.length c0_2)] 24 (0, 0))) ∧ Aside0 (Below w.heap.size w wc))
                              case first =>
                                have H := HC38.out
                                clear HC38
                                by_cases c39 : t535 = true
                                · subst c39
                                  have H1 : (barscanlaw38_ComponentsLocal.j5 kj35 t527 x5_3 x6_2 x7_3 t533 t536 (wrap64 (x12_35 + 1)) a0_0 a0_1 l0_2) = some true := by rw [if_pos rfl] at H; exact H
                                  clear H
                                  have H := H1
                                  clear H1
                                  have H' := Aside0.mk H
                                  clear H
                                  go_wp2
                                  go_meet
                                  case rel => exact ⟨_, (wrap64 (x12_35 + 1)), (by rfl), H', ⟨by have := HJ2.out; have := HK2.out; have := HK3.out; have := HJ26.out; have := HJ35.out; omega⟩, ⟨by (with_reducible repeat (fail)); exact BK526.out⟩, ⟨by repeat ((with_reducible exact HB.out))⟩⟩
                                · replace c39 := Bool.eq_false_iff.mpr c39
                                  subst c39
                                  have H1 : (barscanlaw38_ComponentsLocal.j5 kj35 t527 x5_3 x6_2 x7_3 t533 t536 x12_35 a0_0 a0_1 l0_2) = some true := by rw [if_neg (show ¬ (false = true) by decide)] at H; exact H
                                  clear H
                                  have H := H1
                                  clear H1
                                  have H' := Aside0.mk H
                                  clear H
                                  go_wp2
                                  go_meet
                                  case rel => exact ⟨_, (x12_35), (by rfl), H', ⟨by have := HJ2.out; have := HK2.out; have := HK3.out; have := HJ26.out; have := HJ35.out; omega⟩, ⟨by (with_reducible repeat (fail)); exact BK526.out⟩, ⟨by repeat ((with_reducible exact HB.out))⟩⟩
                              case rest =>
                                clear HC38
                                obtain ⟨kq, x12_37, rfl, HA, HJ37, BK526, HB⟩ := hcut
                                cases kq with
                                | zero => exact absurd HA.out (by simp [barscanlaw38_ComponentsLocal.j5])
                                | succ kj37 =>
                                  have H := HA.out
                                  clear HA
                                  simp only [barscanlaw38_ComponentsLocal.j5] at H
                                  have HC40 := Aside0.mk H
                                  clear H
                                  go_upto_if 70 with (fail)
                                  go_cut [12] (fun v12 wc => ∃ (kq : Nat) (x12_39 : Int), v12 = .int .i64 x12_39 ∧ Aside0 (barscanlaw38_ComponentsLocal.j6 kq t527 x5_3 x6_2 x7_3 t533 t536 x12_39 a0_0 a0_1 l0_2 = some true) ∧ Aside0 (kq ≤ kj37) ∧ Aside0 (wc.heap[gb526]? = some (.cells #[.int .i64 a0_0, .int .i64 a0_1, (.slice A0_2 l0_2.length c0_2)] 24 (0, 0))) ∧ Aside0 (Below w.heap.size w wc))
                                  case first =>
                                    have H := HC40.out
                                    clear HC40
                                    by_cases c41 : t536 = true
                                    · subst c41
                                      have H1 : (barscanlaw38_ComponentsLocal.j6 kj37 t527 x5_3 x6_2 x7_3 t533 true (wrap64 (x12_37 + 1)) a0_0 a0_1 l0_2) = some true := by rw [if_pos rfl] at H; exact H
                                      clear H
                                      have H := H1
                                      clear H1
                                      have H' := Aside0.mk H
                                      clear H
                                      go_wp2
                                      go_meet
                                      case rel => exact ⟨_, (wrap64 (x12_37 + 1)), (by rfl), H', ⟨by have := HJ2.out; have := HK2.out; have := HK3.out; have := HJ26.out; have := HJ35.out; have := HJ37.out; omega⟩, ⟨by (with_reducible repeat (fail)); exact BK526.out⟩, ⟨by repeat ((with_reducible exact HB.out))⟩⟩
                                    · replace c41 := Bool.eq_false_iff.mpr c41
                                      subst c41
                                      have H1 : (barscanlaw38_ComponentsLocal.j6 kj37 t527 x5_3 x6_2 x7_3 t533 false x12_37 a0_0 a0_1 l0_2) = some true := by rw [if_neg (show ¬ (false = true) by decide)] at H; exact H
                                      clear H
                                      have H := H1
                                      clear H1
                                      have H' := Aside0.mk H
                                      clear H
                                      go_wp2
                                      go_meet
                                      case rel => exact ⟨_, (x12_37), (by rfl), H', ⟨by have := HJ2.out; have := HK2.out; have := HK3.out; have := HJ26.out; have := HJ35.out; have := HJ37.out; omega⟩, ⟨by (with_reducible repeat (fail)); exact BK526.out⟩, ⟨by repeat ((with_reducible exact HB.out))⟩⟩
                                  case rest =>
                                    clear HC40
                                    obtain ⟨kq, x12_39, rfl, HA, HJ39, BK526, HB⟩ := hcut
                                    cases kq with
                                    | zero => exact absurd HA.out (by simp [barscanlaw38_ComponentsLocal.j6])
                                    | succ kj39 =>
                                      have H := HA.out
                                      clear HA
                                      simp only [barscanlaw38_ComponentsLocal.j6] at H
                                      have HC42 := Aside0.mk H
                                      clear H
                                      go_upto_if 74 with (fail)
                                      go_cut [5] (fun v5 wc => ∃ (kq : Nat) (x5_41 : Int), v5 = .int .i64 x5_41 ∧ Aside0 (barscanlaw38_ComponentsLocal.j7 kq t527 x5_41 x6_2 x7_3 t533 t536 x12_39 a0_0 a0_1 l0_2 = some true) ∧ Aside0 (kq ≤ kj39) ∧ Aside0 (wc.heap[gb526]? = some (.cells #[.int .i64 a0_0, .int .i64 a0_1, (.slice A0_2 l0_2.length c0_2)] 24 (0, 0))) ∧ Aside0 (Below w.heap.size w wc))
                                      case first =>
                                        have H := HC42.out
                                        clear HC42
                                        by_cases c43 : x12_39 = 1
                                        · rw [if_pos c43] at H
                                          have c43b0 : (x12_39 == 1) = true := beq_iff_eq.mpr c43
                                          have c43b1 : (x12_39 != 1) = false := bne_eq_false_iff_eq.mpr c43
                                          clear c43
                                          (rw [c43b0])
                                          have H' := Aside0.mk H
                                          clear H
                                          go_wp2
                                          go_meet
                                          case rel => exact ⟨_, (wrap64 (x5_3 + 1)), (by rfl), H', ⟨by have := HJ2.out; have := HK2.out; have := HK3.out; have := HJ26.out; have := HJ35.out; have := HJ37.out; have := HJ39.out; omega⟩, ⟨by (with_reducible repeat (fail)); exact BK526.out⟩, ⟨by repeat ((with_reducible exact HB.out))⟩⟩
                                        · rw [if_neg c43] at H
                                          have c43b0 : (x12_39 == 1) = false := beq_eq_false_iff_ne.mpr c43
                                          have c43b1 : (x12_39 != 1) = true := bne_iff_ne.mpr c43
                                          (rw [c43b0])
                                          have H' := Aside0.mk H
                                          clear H
                                          go_wp2
                                          go_meet
                                          case rel => exact ⟨_, (x5_3), (by rfl), H', ⟨by have := HJ2.out; have := HK2.out; have := HK3.out; have := HJ26.out; have := HJ35.out; have := HJ37.out; have := HJ39.out; omega⟩, ⟨by (with_reducible repeat (fail)); exact BK526.out⟩, ⟨by repeat ((with_reducible exact HB.out))⟩⟩
                                      case rest =>
                                        clear HC42
                                        obtain ⟨kq, x5_41, rfl, HA, HJ41, BK526, HB⟩ := hcut
                                        cases kq with
                                        | zero => exact absurd HA.out (by simp [barscanlaw38_ComponentsLocal.j7])
                                        | succ kj41 =>
                                          have H := HA.out
                                          clear HA
                                          simp only [barscanlaw38_ComponentsLocal.j7] at H
                                          by_cases c44 : x12_39 = 3
                                          · rw [if_pos c44] at H
                                            have c44b0 : (x12_39 == 3) = true := beq_iff_eq.mpr c44
                                            have c44b1 : (x12_39 != 3) = false := bne_eq_false_iff_eq.mpr c44
                                            clear c44
                                            by_cases c45 : x12_39 = 2
                                            · rw [if_pos c45] at H
                                              have c45b0 : (x12_39 == 2) = true := beq_iff_eq.mpr c45
                                              have c45b1 : (x12_39 != 2) = false := bne_eq_false_iff_eq.mpr c45
                                              clear c45
                                              by_cases c46 : (t533 == t536) = true
                                              · rw [if_pos c46] at H
                                                have c46b0 : (t533 == t536) = true := c46
                                                (try (have c46b1 : decide (t533 = t536) = true := by simpa using c46))
                                                (try (have c46b2 : (t533 == t536) = true := by simpa using c46))
                                                clear c46
                                                have H' := Aside0.mk H
                                                clear H
                                                go_wp2
                                                go_roundg kj41
                                                case measure => have := HJ2.out; have := HK2.out; have := HK3.out; have := HJ26.out; have := HJ35.out; have := HJ37.out; have := HJ39.out; have := HJ41.out; omega
                                                case rel => exact ⟨(wrap64 ((wrap64 (x5_41 - 1)) - 2)), (wrap64 (x7_3 + 1)), (by rfl), (by rfl), H', ⟨by have := HJ2.out; have := HK2.out; have := HK3.out; have := HJ26.out; have := HJ35.out; have := HJ37.out; have := HJ39.out; have := HJ41.out; omega⟩, ⟨by (with_reducible repeat (fail)); exact BK526.out⟩, ⟨by repeat ((with_reducible exact HB.out))⟩⟩
                                              · rw [if_neg c46] at H
                                                have c46b0 : (t533 == t536) = false := by simpa using c46
                                                (try (have c46b1 : decide (t533 = t536) = false := by simpa using c46))
                                                (try (have c46b2 : (t533 == t536) = false := by simpa using c46))
                                                (try (have c46b3 : ¬ (t533 = t536) := by simpa using c46))
                                                clear c46
                                                have H' := Aside0.mk H
                                                clear H
                                                go_wp2
                                                go_roundg kj41
                                                case measure => have := HJ2.out; have := HK2.out; have := HK3.out; have := HJ26.out; have := HJ35.out; have := HJ37.out; have := HJ39.out; have := HJ41.out; omega
                                                case rel => exact ⟨(wrap64 (x5_41 - 1)), (wrap64 (x7_3 + 1)), (by rfl), (by rfl), H', ⟨by have := HJ2.out; have := HK2.out; have := HK3.out; have := HJ26.out; have := HJ35.out; have := HJ37.out; have := HJ39.out; have := HJ41.out; omega⟩, ⟨by (with_reducible repeat (fail)); exact BK526.out⟩, ⟨by repeat ((with_reducible exact HB.out))⟩⟩
                                            · rw [if_neg c45] at H
                                              have c45b0 : (x12_39 == 2) = false := beq_eq_false_iff_ne.mpr c45
                                              have c45b1 : (x12_39 != 2) = true := bne_iff_ne.mpr c45
                                              have H' := Aside0.mk H
                                              clear H
                                              go_wp2
                                              go_roundg kj41
                                              case measure => have := HJ2.out; have := HK2.out; have := HK3.out; have := HJ26.out; have := HJ35.out; have := HJ37.out; have := HJ39.out; have := HJ41.out; omega
                                              case rel => exact ⟨(wrap64 (x5_41 - 1)), (wrap64 (x7_3 + 1)), (by rfl), (by rfl), H', ⟨by have := HJ2.out; have := HK2.out; have := HK3.out; have := HJ26.out; have := HJ35.out; have := HJ37.out; have := HJ39.out; have := HJ41.out; omega⟩, ⟨by (with_reducible repeat (fail)); exact BK526.out⟩, ⟨by repeat ((with_reducible exact HB.out))⟩⟩
                                          · rw [if_neg c44] at H
                                            have c44b0 : (x12_39 == 3) = false := beq_eq_false_iff_ne.mpr c44
                                            have c44b1 : (x12_39 != 3) = true := bne_iff_ne.mpr c44
                                            by_cases c47 : x12_39 = 2
                                            · rw [if_pos c47] at H
                                              have c47b0 : (x12_39 == 2) = true := beq_iff_eq.mpr c47
                                              have c47b1 : (x12_39 != 2) = false := bne_eq_false_iff_eq.mpr c47
                                              clear c47
                                              by_cases c48 : (t533 == t536) = true
                                              · rw [if_pos c48] at H
                                                have c48b0 : (t533 == t536) = true := c48
                                                (try (have c48b1 : decide (t533 = t536) = true := by simpa using c48))
                                                (try (have c48b2 : (t533 == t536) = true := by simpa using c48))
                                                clear c48
                                                have H' := Aside0.mk H
                                                clear H
                                                go_wp2
                                                go_roundg kj41
                                                case measure => have := HJ2.out; have := HK2.out; have := HK3.out; have := HJ26.out; have := HJ35.out; have := HJ37.out; have := HJ39.out; have := HJ41.out; omega
                                                case rel => exact ⟨(wrap64 (x5_41 - 2)), (wrap64 (x7_3 + 1)), (by rfl), (by rfl), H', ⟨by have := HJ2.out; have := HK2.out; have := HK3.out; have := HJ26.out; have := HJ35.out; have := HJ37.out; have := HJ39.out; have := HJ41.out; omega⟩, ⟨by (with_reducible repeat (fail)); exact BK526.out⟩, ⟨by repeat ((with_reducible exact HB.out))⟩⟩
                                              · rw [if_neg c48] at H
                                                have c48b0 : (t533 == t536) = false := by simpa using c48
                                                (try (have c48b1 : decide (t533 = t536) = false := by simpa using c48))
                                                (try (have c48b2 : (t533 == t536) = false := by simpa using c48))
                                                (try (have c48b3 : ¬ (t533 = t536) := by simpa using c48))
                                                clear c48
                                                have H' := Aside0.mk H
                                                clear H
                                                go_wp2
                                                go_roundg kj41
                                                case measure => have := HJ2.out; have := HK2.out; have := HK3.out; have := HJ26.out; have := HJ35.out; have := HJ37.out; have := HJ39.out; have := HJ41.out; omega
                                                case rel => exact ⟨(x5_41), (wrap64 (x7_3 + 1)), (by rfl), (by rfl), H', ⟨by have := HJ2.out; have := HK2.out; have := HK3.out; have := HJ26.out; have := HJ35.out; have := HJ37.out; have := HJ39.out; have := HJ41.out; omega⟩, ⟨by (with_reducible repeat (fail)); exact BK526.out⟩, ⟨by repeat ((with_reducible exact HB.out))⟩⟩
                                            · rw [if_neg c47] at H
                                              have c47b0 : (x12_39 == 2) = false := beq_eq_false_iff_ne.mpr c47
                                              have c47b1 : (x12_39 != 2) = true := bne_iff_ne.mpr c47
                                              have H' := Aside0.mk H
                                              clear H
                                              go_wp2
                                              go_roundg kj41
                                              case measure => have := HJ2.out; have := HK2.out; have := HK3.out; have := HJ26.out; have := HJ35.out; have := HJ37.out; have := HJ39.out; have := HJ41.out; omega
                                              case rel => exact ⟨(x5_41), (wrap64 (x7_3 + 1)), (by rfl), (by rfl), H', ⟨by have := HJ2.out; have := HK2.out; have := HK3.out; have := HJ26.out; have := HJ35.out; have := HJ37.out; have := HJ39.out; have := HJ41.out; omega⟩, ⟨by (with_reducible repeat (fail)); exact BK526.out⟩, ⟨by repeat ((with_reducible exact HB.out))⟩⟩
                    · rw [if_neg c22] at H
                      have c22b0 : decide (x7_3 < a0_0) = false := decide_eq_false c22
                      clear c22
                      have H' := Aside0.mk H
                      clear H
                      have hcz49_0 : wr.cell? ⟨gb526, 0, none⟩ = some (.int .i64 a0_0) := (blk_cell BK526.out 0).trans rfl
                      have hcz49_1 : wr.cell? ⟨gb526, 1, none⟩ = some (.int .i64 a0_1) := (blk_cell BK526.out 1).trans rfl
                      have hcz49_2 : wr.cell? ⟨gb526, 2, none⟩ = some (.slice A0_2 l0_2.length c0_2) := (blk_cell BK526.out 2).trans rfl
                      have hfz49_0 := blk_frozen BK526.out 0
                      have hfz49_1 := blk_frozen BK526.out 1
                      have hfz49_2 := blk_frozen BK526.out 2
                      go_wp2
                      go_roundg k3
                      case measure => have := HJ2.out; have := HK2.out; have := HK3.out; omega
                      case rel => exact ⟨(x5_3), (wrap64 (x6_2 + 1)), (by rfl), (by rfl), H', ⟨by have := HJ2.out; have := HK2.out; have := HK3.out; omega⟩, ⟨by (with_reducible repeat (fail)); exact BK526.out⟩, ⟨by repeat ((with_reducible exact HB.out))⟩⟩
              · rw [if_neg c20] at H
                have c20b0 : decide (x6_2 < a0_1) = false := decide_eq_false c20
                clear c20
                by_cases c50 : (wrap64 (4 * t527)) = x5_2
                · rw [if_pos c50] at H
                  have c50b0 : ((wrap64 (4 * t527)) == x5_2) = true := beq_iff_eq.mpr c50
                  have c50b1 : ((wrap64 (4 * t527)) != x5_2) = false := bne_eq_false_iff_eq.mpr c50
                  clear c50
                  replace H := Option.bind_eq_some_iff.mp H
                  obtain ⟨t532, A510, H⟩ := H
                  replace H : (some t532) = some true := H
                  have A51 := Aside0.mk A510
                  clear A510
                  (obtain rfl := Option.some.inj H)
                  have hcz52_0 : wr.cell? ⟨gb526, 0, none⟩ = some (.int .i64 a0_0) := (blk_cell BK526.out 0).trans rfl
                  have hcz52_1 : wr.cell? ⟨gb526, 1, none⟩ = some (.int .i64 a0_1) := (blk_cell BK526.out 1).trans rfl
                  have hcz52_2 : wr.cell? ⟨gb526, 2, none⟩ = some (.slice A0_2 l0_2.length c0_2) := (blk_cell BK526.out 2).trans rfl
                  have hfz52_0 := blk_frozen BK526.out 0
                  have hfz52_1 := blk_frozen BK526.out 1
                  have hfz52_2 := blk_frozen BK526.out 2
                  go_wp2_with ((go_at_call 13; (with_reducible refine (exHolds.calls  _ _ A51.out).mono ?_); rintro e w53 ⟨rfl, hb⟩; have n0_ := Aside0.mk (blk_below (g := gb526) (o := .cells #[.int .i64 a0_0, .int .i64 a0_1, .slice A0_2 l0_2.length c0_2] 24 (0, 0)) (by (with_reducible repeat (fail)); exact BK526.out) hb); have n1_ := Aside0.mk (below_step (by repeat ((with_reducible exact HB.out))) hb); clear BK526; clear HB; have BK526 := n0_; have HB := n1_; clear n0_ n1_; (try clear hb); (try clear hb2); (try clear hk); (try clear hi)))
                  go_ret
                  exact ⟨by rfl, by repeat ((with_reducible exact HB.out))⟩
                · rw [if_neg c50] at H
                  have c50b0 : ((wrap64 (4 * t527)) == x5_2) = false := beq_eq_false_iff_ne.mpr c50
                  have c50b1 : ((wrap64 (4 * t527)) != x5_2) = true := bne_iff_ne.mpr c50
                  cases H
        · rw [if_neg c19] at H
          have c19b0 : (t528 == 0) = false := beq_eq_false_iff_ne.mpr c19
          have c19b1 : (t528 != 0) = true := bne_iff_ne.mpr c19
          cases H

end Go.Proofs.Ytahibhipffojlaa.M
