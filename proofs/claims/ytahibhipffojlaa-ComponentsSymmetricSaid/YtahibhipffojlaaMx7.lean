-- Machine side, printed by this session's own program over the kit's print (wip/tools/myprint.py). Lean checks it.
import Derived.Test.YtahibhipffojlaaMx0
import Derived.Test.YtahibhipffojlaaMx1
import Derived.Test.YtahibhipffojlaaMx2
import Derived.Test.YtahibhipffojlaaMx3
import Derived.Test.YtahibhipffojlaaMx5
import Derived.Test.YtahibhipffojlaaMx6
namespace Go.Proofs.Ytahibhipffojlaa.M
open Go.RowKit Go.Proofs.YtahibhipffojlaaW.PrintWords Go.Proofs.YtahibhipffojlaaW.PrintLast Go.Proofs.YtahibhipffojlaaW.PrintMore
attribute [local go_sem] max2_int min2_int max_two min_two max_three min_three max_four min_four   -- for this text's walks alone
set_option linter.unusedVariables false
set_option linter.unusedSimpArgs false

attribute [local go_sem high] eqA38
/-! ### exampleHolds0: function 13 -/
def exampleHolds0.j0 : Nat → List (S38) → Bool → Int → Int → List Bool → Int → Int → List Bool → Option (Bool)
  | 0, _, _, _, _, _, _, _, _ => none
  | k + 1, x4, x90, x228000, x228001, x228002, x235000, x235001, x235002 => if x90 = true then (some false) else (if 0 < (x4.length : Int) then (if ((((rd_T38 x4 0).f0.f0) == 0 && (((rd_T38 x4 0).f0.f1) == 0 && (((rd_T38 x4 0).f0.f2) == 3 && (((rd_T38 x4 0).f0.f3) == 3)))) && (((rd_T38 x4 0).f1) == 5 && ((((rd_T38 x4 0).f2.f0) == 0 && (((rd_T38 x4 0).f2.f1) == 0))))) = true then ((barscanlaw38_bitmap.f k 3 3 (⟨#[49, 49, 49, 49, 49, 49, 49, 49, 49]⟩ : ByteArray)).bind fun bt236 => ((barscanref31_Equal.f k x228000 x228001 x228002 bt236.1 bt236.2.1 bt236.2.2).bind fun t241 => (if t241 = true then ((barscanlaw38_bitmap.f k 3 3 (⟨#[48, 48, 48, 48, 48, 48, 48, 48, 48]⟩ : ByteArray)).bind fun bt242 => ((barscanref31_Equal.f k x235000 x235001 x235002 bt242.1 bt242.2.1 bt242.2.2).bind fun t247 => (some t247))) else (some false)))) else (some false)) else (none))
def exampleHolds0.f (k : Nat)  : Option (Bool) := (barscanlaw38_bitmap.f k 3 3 (⟨#[49, 48, 49, 48, 49, 48, 49, 48, 49]⟩ : ByteArray)).bind fun bt191 => ((barscanlaw38_bitmap.f k 3 3 (⟨#[49, 49, 49, 49, 48, 49, 49, 49, 49]⟩ : ByteArray)).bind fun bt196 => ((components_Label.f bt191.1 bt191.2.1 bt191.2.2 true).bind fun bt203 => ((components_Label.f bt191.1 bt191.2.1 bt191.2.2 false).bind fun bt210 => ((components_Euler.f k bt191.1 bt191.2.1 bt191.2.2).bind fun bt217 => ((components_Euler.f k bt196.1 bt196.2.1 bt196.2.2).bind fun bt219 => ((components_Fill.f k bt196.1 bt196.2.1 bt196.2.2).bind fun bt221 => ((components_Despeckle.f k bt196.1 bt196.2.1 bt196.2.2 9).bind fun bt228 => (if bt203.2.2 = 0 then (if bt210.2.2 = 0 then (if bt217.2 = 0 then (if bt219.2 = 0 then (if bt221.2.2.2 = 0 then (if bt228.2.2.2 = 0 then (if (bt203.2.1.length : Int) = 1 then (if (bt210.2.1.length : Int) = 5 then (if bt217.1 = 1 then (exampleHolds0.j0 k bt203.2.1 (bt219.1 != 0) bt221.1 bt221.2.1 bt221.2.2.1 bt228.1 bt228.2.1 bt228.2.2.1) else (exampleHolds0.j0 k bt203.2.1 true bt221.1 bt221.2.1 bt221.2.2.1 bt228.1 bt228.2.1 bt228.2.2.1)) else (exampleHolds0.j0 k bt203.2.1 true bt221.1 bt221.2.1 bt221.2.2.1 bt228.1 bt228.2.1 bt228.2.2.1)) else (exampleHolds0.j0 k bt203.2.1 true bt221.1 bt221.2.1 bt221.2.2.1 bt228.1 bt228.2.1 bt228.2.2.1)) else (exampleHolds0.j0 k bt203.2.1 true bt221.1 bt221.2.1 bt221.2.2.1 bt228.1 bt228.2.1 bt228.2.2.1)) else (exampleHolds0.j0 k bt203.2.1 true bt221.1 bt221.2.1 bt221.2.2.1 bt228.1 bt228.2.1 bt228.2.2.1)) else (exampleHolds0.j0 k bt203.2.1 true bt221.1 bt221.2.1 bt221.2.2.1 bt228.1 bt228.2.1 bt228.2.2.1)) else (exampleHolds0.j0 k bt203.2.1 true bt221.1 bt221.2.1 bt221.2.2.1 bt228.1 bt228.2.1 bt228.2.2.1)) else (exampleHolds0.j0 k bt203.2.1 true bt221.1 bt221.2.1 bt221.2.2.1 bt228.1 bt228.2.1 bt228.2.2.1)) else (exampleHolds0.j0 k bt203.2.1 true bt221.1 bt221.2.1 bt221.2.2.1 bt228.1 bt228.2.1 bt228.2.2.1)))))))))
theorem exampleHolds0.mono_l : ∀ k, (∀ y0 y1 y2 y3 y4 y5 y6 y7, LeO (exampleHolds0.j0 k y0 y1 y2 y3 y4 y5 y6 y7) (exampleHolds0.j0 (k + 1) y0 y1 y2 y3 y4 y5 y6 y7))
  | 0 => fun _ _ _ _ _ _ _ _ r h => by simp [exampleHolds0.j0] at h
  | k + 1 => by
    have ih0 := exampleHolds0.mono_l k
    · intro y0 y1 y2 y3 y4 y5 y6 y7
      unfold exampleHolds0.j0
      repeat' first
      | (with_reducible exact barscanlaw38_bitmap.mono _ _ _ _)
      | (with_reducible exact barscanref31_Equal.mono _ _ _ _ _ _ _)
      | (with_reducible exact LeO.refl _)
      | (with_reducible refine LeO.ite ?_ ?_)
      | (with_reducible refine LeO.bind ?_ (fun _ => ?_))
theorem exampleHolds0.mono : ∀ k, LeO (exampleHolds0.f k ) (exampleHolds0.f (k + 1) ) := by
  intro  k
  have ih0 := exampleHolds0.mono_l k
  unfold exampleHolds0.f
  repeat' first
      | (with_reducible exact ih0 _ _ _ _ _ _ _ _)
      | (with_reducible exact barscanlaw38_bitmap.mono _ _ _ _)
      | (with_reducible exact components_Despeckle.mono _ _ _ _ _)
      | (with_reducible exact components_Euler.mono _ _ _ _)
      | (with_reducible exact components_Fill.mono _ _ _ _)
      | (with_reducible exact LeO.refl _)
      | (with_reducible refine LeO.ite ?_ ?_)
      | (with_reducible refine LeO.bind ?_ (fun _ => ?_))
def exampleHolds0.T10 : Bool × List (List Nat × List Nat) := (true, [([], []), ([0], [0]), ([1], [1]), ([], []), ([3], [3]), ([2, 4], [2, 4]), ([5], [5]), ([6], [6]), ([6, 6], [6]), ([7, 8, 8, 6], [6, 7, 8]), ([6, 9], [6, 9]), ([10, 9], [10]), ([11], [11]), ([11, 11], [11]), ([12, 13, 13, 11], [11, 12, 13]), ([11, 14], [11, 14]), ([15, 14, 0, 1, 2, 3, 4, 5, 6, 7, 8, 9, 10, 11, 12, 13, 14, 15], [15])])
def exampleHolds0.B10 : List Nat := [0, 1, 3, 0, 8, 31, 63, 127, 127, 511, 1023, 2047, 4095, 4095, 16383, 32767, 65535]
theorem exampleHolds0.tab10 : rtab .any (opsOf Try.f13 10) = exampleHolds0.T10 := by kernel_rfl
theorem exampleHolds0.bits10 : waitsOk exampleHolds0.T10.2 exampleHolds0.B10 = true := by kernel_rfl
set_option maxHeartbeats 8000000 in
set_option maxRecDepth 100000 in
theorem exampleHolds0.calls (k : Nat)  (w : World) (h : exampleHolds0.f k  = some true) :
    Calls Try.prog 13 #[] w fun e w' => e = .returned (.bool true) ∧ Below w.heap.size w w' := by
  have hu24 := Try.underlying24
  have hu38 := Try.underlying38
  have hu34 := Try.underlying34
  have HB := Aside0.mk (Below.refl w.heap.size w)
  have H : ((barscanlaw38_bitmap.f k 3 3 (⟨#[49, 48, 49, 48, 49, 48, 49, 48, 49]⟩ : ByteArray)).bind fun bt191 => ((barscanlaw38_bitmap.f k 3 3 (⟨#[49, 49, 49, 49, 48, 49, 49, 49, 49]⟩ : ByteArray)).bind fun bt196 => ((components_Label.f bt191.1 bt191.2.1 bt191.2.2 true).bind fun bt203 => ((components_Label.f bt191.1 bt191.2.1 bt191.2.2 false).bind fun bt210 => ((components_Euler.f k bt191.1 bt191.2.1 bt191.2.2).bind fun bt217 => ((components_Euler.f k bt196.1 bt196.2.1 bt196.2.2).bind fun bt219 => ((components_Fill.f k bt196.1 bt196.2.1 bt196.2.2).bind fun bt221 => ((components_Despeckle.f k bt196.1 bt196.2.1 bt196.2.2 9).bind fun bt228 => (if bt203.2.2 = 0 then (if bt210.2.2 = 0 then (if bt217.2 = 0 then (if bt219.2 = 0 then (if bt221.2.2.2 = 0 then (if bt228.2.2.2 = 0 then (if (bt203.2.1.length : Int) = 1 then (if (bt210.2.1.length : Int) = 5 then (if bt217.1 = 1 then (exampleHolds0.j0 k bt203.2.1 (bt219.1 != 0) bt221.1 bt221.2.1 bt221.2.2.1 bt228.1 bt228.2.1 bt228.2.2.1) else (exampleHolds0.j0 k bt203.2.1 true bt221.1 bt221.2.1 bt221.2.2.1 bt228.1 bt228.2.1 bt228.2.2.1)) else (exampleHolds0.j0 k bt203.2.1 true bt221.1 bt221.2.1 bt221.2.2.1 bt228.1 bt228.2.1 bt228.2.2.1)) else (exampleHolds0.j0 k bt203.2.1 true bt221.1 bt221.2.1 bt221.2.2.1 bt228.1 bt228.2.1 bt228.2.2.1)) else (exampleHolds0.j0 k bt203.2.1 true bt221.1 bt221.2.1 bt221.2.2.1 bt228.1 bt228.2.1 bt228.2.2.1)) else (exampleHolds0.j0 k bt203.2.1 true bt221.1 bt221.2.1 bt221.2.2.1 bt228.1 bt228.2.1 bt228.2.2.1)) else (exampleHolds0.j0 k bt203.2.1 true bt221.1 bt221.2.1 bt221.2.2.1 bt228.1 bt228.2.1 bt228.2.2.1)) else (exampleHolds0.j0 k bt203.2.1 true bt221.1 bt221.2.1 bt221.2.2.1 bt228.1 bt228.2.1 bt228.2.2.1)) else (exampleHolds0.j0 k bt203.2.1 true bt221.1 bt221.2.1 bt221.2.2.1 bt228.1 bt228.2.1 bt228.2.2.1)) else (exampleHolds0.j0 k bt203.2.1 true bt221.1 bt221.2.1 bt221.2.2.1 bt228.1 bt228.2.1 bt228.2.2.1)))))))))) = some true := h
  clear h
  replace H := Option.bind_eq_some_iff.mp H
  obtain ⟨⟨t191, t192, t193⟩, A10, H⟩ := H
  replace H : ((barscanlaw38_bitmap.f k 3 3 (⟨#[49, 49, 49, 49, 48, 49, 49, 49, 49]⟩ : ByteArray)).bind fun bt196 => ((components_Label.f t191 t192 t193 true).bind fun bt203 => ((components_Label.f t191 t192 t193 false).bind fun bt210 => ((components_Euler.f k t191 t192 t193).bind fun bt217 => ((components_Euler.f k bt196.1 bt196.2.1 bt196.2.2).bind fun bt219 => ((components_Fill.f k bt196.1 bt196.2.1 bt196.2.2).bind fun bt221 => ((components_Despeckle.f k bt196.1 bt196.2.1 bt196.2.2 9).bind fun bt228 => (if bt203.2.2 = 0 then (if bt210.2.2 = 0 then (if bt217.2 = 0 then (if bt219.2 = 0 then (if bt221.2.2.2 = 0 then (if bt228.2.2.2 = 0 then (if (bt203.2.1.length : Int) = 1 then (if (bt210.2.1.length : Int) = 5 then (if bt217.1 = 1 then (exampleHolds0.j0 k bt203.2.1 (bt219.1 != 0) bt221.1 bt221.2.1 bt221.2.2.1 bt228.1 bt228.2.1 bt228.2.2.1) else (exampleHolds0.j0 k bt203.2.1 true bt221.1 bt221.2.1 bt221.2.2.1 bt228.1 bt228.2.1 bt228.2.2.1)) else (exampleHolds0.j0 k bt203.2.1 true bt221.1 bt221.2.1 bt221.2.2.1 bt228.1 bt228.2.1 bt228.2.2.1)) else (exampleHolds0.j0 k bt203.2.1 true bt221.1 bt221.2.1 bt221.2.2.1 bt228.1 bt228.2.1 bt228.2.2.1)) else (exampleHolds0.j0 k bt203.2.1 true bt221.1 bt221.2.1 bt221.2.2.1 bt228.1 bt228.2.1 bt228.2.2.1)) else (exampleHolds0.j0 k bt203.2.1 true bt221.1 bt221.2.1 bt221.2.2.1 bt228.1 bt228.2.1 bt228.2.2.1)) else (exampleHolds0.j0 k bt203.2.1 true bt221.1 bt221.2.1 bt221.2.2.1 bt228.1 bt228.2.1 bt228.2.2.1)) else (exampleHolds0.j0 k bt203.2.1 true bt221.1 bt221.2.1 bt221.2.2.1 bt228.1 bt228.2.1 bt228.2.2.1)) else (exampleHolds0.j0 k bt203.2.1 true bt221.1 bt221.2.1 bt221.2.2.1 bt228.1 bt228.2.1 bt228.2.2.1)) else (exampleHolds0.j0 k bt203.2.1 true bt221.1 bt221.2.1 bt221.2.2.1 bt228.1 bt228.2.1 bt228.2.2.1))))))))) = some true := H
  have A1 := Aside0.mk A10
  clear A10
  replace H := Option.bind_eq_some_iff.mp H
  obtain ⟨⟨t196, t197, t198⟩, A20, H⟩ := H
  replace H : ((components_Label.f t191 t192 t193 true).bind fun bt203 => ((components_Label.f t191 t192 t193 false).bind fun bt210 => ((components_Euler.f k t191 t192 t193).bind fun bt217 => ((components_Euler.f k t196 t197 t198).bind fun bt219 => ((components_Fill.f k t196 t197 t198).bind fun bt221 => ((components_Despeckle.f k t196 t197 t198 9).bind fun bt228 => (if bt203.2.2 = 0 then (if bt210.2.2 = 0 then (if bt217.2 = 0 then (if bt219.2 = 0 then (if bt221.2.2.2 = 0 then (if bt228.2.2.2 = 0 then (if (bt203.2.1.length : Int) = 1 then (if (bt210.2.1.length : Int) = 5 then (if bt217.1 = 1 then (exampleHolds0.j0 k bt203.2.1 (bt219.1 != 0) bt221.1 bt221.2.1 bt221.2.2.1 bt228.1 bt228.2.1 bt228.2.2.1) else (exampleHolds0.j0 k bt203.2.1 true bt221.1 bt221.2.1 bt221.2.2.1 bt228.1 bt228.2.1 bt228.2.2.1)) else (exampleHolds0.j0 k bt203.2.1 true bt221.1 bt221.2.1 bt221.2.2.1 bt228.1 bt228.2.1 bt228.2.2.1)) else (exampleHolds0.j0 k bt203.2.1 true bt221.1 bt221.2.1 bt221.2.2.1 bt228.1 bt228.2.1 bt228.2.2.1)) else (exampleHolds0.j0 k bt203.2.1 true bt221.1 bt221.2.1 bt221.2.2.1 bt228.1 bt228.2.1 bt228.2.2.1)) else (exampleHolds0.j0 k bt203.2.1 true bt221.1 bt221.2.1 bt221.2.2.1 bt228.1 bt228.2.1 bt228.2.2.1)) else (exampleHolds0.j0 k bt203.2.1 true bt221.1 bt221.2.1 bt221.2.2.1 bt228.1 bt228.2.1 bt228.2.2.1)) else (exampleHolds0.j0 k bt203.2.1 true bt221.1 bt221.2.1 bt221.2.2.1 bt228.1 bt228.2.1 bt228.2.2.1)) else (exampleHolds0.j0 k bt203.2.1 true bt221.1 bt221.2.1 bt221.2.2.1 bt228.1 bt228.2.1 bt228.2.2.1)) else (exampleHolds0.j0 k bt203.2.1 true bt221.1 bt221.2.1 bt221.2.2.1 bt228.1 bt228.2.1 bt228.2.2.1)))))))) = some true := H
  have A2 := Aside0.mk A20
  clear A20
  replace H := Option.bind_eq_some_iff.mp H
  obtain ⟨⟨t203, t206, t209⟩, A30, H⟩ := H
  replace H : ((components_Label.f t191 t192 t193 false).bind fun bt210 => ((components_Euler.f k t191 t192 t193).bind fun bt217 => ((components_Euler.f k t196 t197 t198).bind fun bt219 => ((components_Fill.f k t196 t197 t198).bind fun bt221 => ((components_Despeckle.f k t196 t197 t198 9).bind fun bt228 => (if t209 = 0 then (if bt210.2.2 = 0 then (if bt217.2 = 0 then (if bt219.2 = 0 then (if bt221.2.2.2 = 0 then (if bt228.2.2.2 = 0 then (if (t206.length : Int) = 1 then (if (bt210.2.1.length : Int) = 5 then (if bt217.1 = 1 then (exampleHolds0.j0 k t206 (bt219.1 != 0) bt221.1 bt221.2.1 bt221.2.2.1 bt228.1 bt228.2.1 bt228.2.2.1) else (exampleHolds0.j0 k t206 true bt221.1 bt221.2.1 bt221.2.2.1 bt228.1 bt228.2.1 bt228.2.2.1)) else (exampleHolds0.j0 k t206 true bt221.1 bt221.2.1 bt221.2.2.1 bt228.1 bt228.2.1 bt228.2.2.1)) else (exampleHolds0.j0 k t206 true bt221.1 bt221.2.1 bt221.2.2.1 bt228.1 bt228.2.1 bt228.2.2.1)) else (exampleHolds0.j0 k t206 true bt221.1 bt221.2.1 bt221.2.2.1 bt228.1 bt228.2.1 bt228.2.2.1)) else (exampleHolds0.j0 k t206 true bt221.1 bt221.2.1 bt221.2.2.1 bt228.1 bt228.2.1 bt228.2.2.1)) else (exampleHolds0.j0 k t206 true bt221.1 bt221.2.1 bt221.2.2.1 bt228.1 bt228.2.1 bt228.2.2.1)) else (exampleHolds0.j0 k t206 true bt221.1 bt221.2.1 bt221.2.2.1 bt228.1 bt228.2.1 bt228.2.2.1)) else (exampleHolds0.j0 k t206 true bt221.1 bt221.2.1 bt221.2.2.1 bt228.1 bt228.2.1 bt228.2.2.1)) else (exampleHolds0.j0 k t206 true bt221.1 bt221.2.1 bt221.2.2.1 bt228.1 bt228.2.1 bt228.2.2.1))))))) = some true := H
  have A3 := Aside0.mk A30
  clear A30
  replace H := Option.bind_eq_some_iff.mp H
  obtain ⟨⟨t210, t213, t216⟩, A40, H⟩ := H
  replace H : ((components_Euler.f k t191 t192 t193).bind fun bt217 => ((components_Euler.f k t196 t197 t198).bind fun bt219 => ((components_Fill.f k t196 t197 t198).bind fun bt221 => ((components_Despeckle.f k t196 t197 t198 9).bind fun bt228 => (if t209 = 0 then (if t216 = 0 then (if bt217.2 = 0 then (if bt219.2 = 0 then (if bt221.2.2.2 = 0 then (if bt228.2.2.2 = 0 then (if (t206.length : Int) = 1 then (if (t213.length : Int) = 5 then (if bt217.1 = 1 then (exampleHolds0.j0 k t206 (bt219.1 != 0) bt221.1 bt221.2.1 bt221.2.2.1 bt228.1 bt228.2.1 bt228.2.2.1) else (exampleHolds0.j0 k t206 true bt221.1 bt221.2.1 bt221.2.2.1 bt228.1 bt228.2.1 bt228.2.2.1)) else (exampleHolds0.j0 k t206 true bt221.1 bt221.2.1 bt221.2.2.1 bt228.1 bt228.2.1 bt228.2.2.1)) else (exampleHolds0.j0 k t206 true bt221.1 bt221.2.1 bt221.2.2.1 bt228.1 bt228.2.1 bt228.2.2.1)) else (exampleHolds0.j0 k t206 true bt221.1 bt221.2.1 bt221.2.2.1 bt228.1 bt228.2.1 bt228.2.2.1)) else (exampleHolds0.j0 k t206 true bt221.1 bt221.2.1 bt221.2.2.1 bt228.1 bt228.2.1 bt228.2.2.1)) else (exampleHolds0.j0 k t206 true bt221.1 bt221.2.1 bt221.2.2.1 bt228.1 bt228.2.1 bt228.2.2.1)) else (exampleHolds0.j0 k t206 true bt221.1 bt221.2.1 bt221.2.2.1 bt228.1 bt228.2.1 bt228.2.2.1)) else (exampleHolds0.j0 k t206 true bt221.1 bt221.2.1 bt221.2.2.1 bt228.1 bt228.2.1 bt228.2.2.1)) else (exampleHolds0.j0 k t206 true bt221.1 bt221.2.1 bt221.2.2.1 bt228.1 bt228.2.1 bt228.2.2.1)))))) = some true := H
  have A4 := Aside0.mk A40
  clear A40
  replace H := Option.bind_eq_some_iff.mp H
  obtain ⟨⟨t217, t218⟩, A50, H⟩ := H
  replace H : ((components_Euler.f k t196 t197 t198).bind fun bt219 => ((components_Fill.f k t196 t197 t198).bind fun bt221 => ((components_Despeckle.f k t196 t197 t198 9).bind fun bt228 => (if t209 = 0 then (if t216 = 0 then (if t218 = 0 then (if bt219.2 = 0 then (if bt221.2.2.2 = 0 then (if bt228.2.2.2 = 0 then (if (t206.length : Int) = 1 then (if (t213.length : Int) = 5 then (if t217 = 1 then (exampleHolds0.j0 k t206 (bt219.1 != 0) bt221.1 bt221.2.1 bt221.2.2.1 bt228.1 bt228.2.1 bt228.2.2.1) else (exampleHolds0.j0 k t206 true bt221.1 bt221.2.1 bt221.2.2.1 bt228.1 bt228.2.1 bt228.2.2.1)) else (exampleHolds0.j0 k t206 true bt221.1 bt221.2.1 bt221.2.2.1 bt228.1 bt228.2.1 bt228.2.2.1)) else (exampleHolds0.j0 k t206 true bt221.1 bt221.2.1 bt221.2.2.1 bt228.1 bt228.2.1 bt228.2.2.1)) else (exampleHolds0.j0 k t206 true bt221.1 bt221.2.1 bt221.2.2.1 bt228.1 bt228.2.1 bt228.2.2.1)) else (exampleHolds0.j0 k t206 true bt221.1 bt221.2.1 bt221.2.2.1 bt228.1 bt228.2.1 bt228.2.2.1)) else (exampleHolds0.j0 k t206 true bt221.1 bt221.2.1 bt221.2.2.1 bt228.1 bt228.2.1 bt228.2.2.1)) else (exampleHolds0.j0 k t206 true bt221.1 bt221.2.1 bt221.2.2.1 bt228.1 bt228.2.1 bt228.2.2.1)) else (exampleHolds0.j0 k t206 true bt221.1 bt221.2.1 bt221.2.2.1 bt228.1 bt228.2.1 bt228.2.2.1)) else (exampleHolds0.j0 k t206 true bt221.1 bt221.2.1 bt221.2.2.1 bt228.1 bt228.2.1 bt228.2.2.1))))) = some true := H
  have A5 := Aside0.mk A50
  clear A50
  replace H := Option.bind_eq_some_iff.mp H
  obtain ⟨⟨t219, t220⟩, A60, H⟩ := H
  replace H : ((components_Fill.f k t196 t197 t198).bind fun bt221 => ((components_Despeckle.f k t196 t197 t198 9).bind fun bt228 => (if t209 = 0 then (if t216 = 0 then (if t218 = 0 then (if t220 = 0 then (if bt221.2.2.2 = 0 then (if bt228.2.2.2 = 0 then (if (t206.length : Int) = 1 then (if (t213.length : Int) = 5 then (if t217 = 1 then (exampleHolds0.j0 k t206 (t219 != 0) bt221.1 bt221.2.1 bt221.2.2.1 bt228.1 bt228.2.1 bt228.2.2.1) else (exampleHolds0.j0 k t206 true bt221.1 bt221.2.1 bt221.2.2.1 bt228.1 bt228.2.1 bt228.2.2.1)) else (exampleHolds0.j0 k t206 true bt221.1 bt221.2.1 bt221.2.2.1 bt228.1 bt228.2.1 bt228.2.2.1)) else (exampleHolds0.j0 k t206 true bt221.1 bt221.2.1 bt221.2.2.1 bt228.1 bt228.2.1 bt228.2.2.1)) else (exampleHolds0.j0 k t206 true bt221.1 bt221.2.1 bt221.2.2.1 bt228.1 bt228.2.1 bt228.2.2.1)) else (exampleHolds0.j0 k t206 true bt221.1 bt221.2.1 bt221.2.2.1 bt228.1 bt228.2.1 bt228.2.2.1)) else (exampleHolds0.j0 k t206 true bt221.1 bt221.2.1 bt221.2.2.1 bt228.1 bt228.2.1 bt228.2.2.1)) else (exampleHolds0.j0 k t206 true bt221.1 bt221.2.1 bt221.2.2.1 bt228.1 bt228.2.1 bt228.2.2.1)) else (exampleHolds0.j0 k t206 true bt221.1 bt221.2.1 bt221.2.2.1 bt228.1 bt228.2.1 bt228.2.2.1)) else (exampleHolds0.j0 k t206 true bt221.1 bt221.2.1 bt221.2.2.1 bt228.1 bt228.2.1 bt228.2.2.1)))) = some true := H
  have A6 := Aside0.mk A60
  clear A60
  replace H := Option.bind_eq_some_iff.mp H
  obtain ⟨⟨t221, t222, t223, t226⟩, A70, H⟩ := H
  replace H : ((components_Despeckle.f k t196 t197 t198 9).bind fun bt228 => (if t209 = 0 then (if t216 = 0 then (if t218 = 0 then (if t220 = 0 then (if t226 = 0 then (if bt228.2.2.2 = 0 then (if (t206.length : Int) = 1 then (if (t213.length : Int) = 5 then (if t217 = 1 then (exampleHolds0.j0 k t206 (t219 != 0) t221 t222 t223 bt228.1 bt228.2.1 bt228.2.2.1) else (exampleHolds0.j0 k t206 true t221 t222 t223 bt228.1 bt228.2.1 bt228.2.2.1)) else (exampleHolds0.j0 k t206 true t221 t222 t223 bt228.1 bt228.2.1 bt228.2.2.1)) else (exampleHolds0.j0 k t206 true t221 t222 t223 bt228.1 bt228.2.1 bt228.2.2.1)) else (exampleHolds0.j0 k t206 true t221 t222 t223 bt228.1 bt228.2.1 bt228.2.2.1)) else (exampleHolds0.j0 k t206 true t221 t222 t223 bt228.1 bt228.2.1 bt228.2.2.1)) else (exampleHolds0.j0 k t206 true t221 t222 t223 bt228.1 bt228.2.1 bt228.2.2.1)) else (exampleHolds0.j0 k t206 true t221 t222 t223 bt228.1 bt228.2.1 bt228.2.2.1)) else (exampleHolds0.j0 k t206 true t221 t222 t223 bt228.1 bt228.2.1 bt228.2.2.1)) else (exampleHolds0.j0 k t206 true t221 t222 t223 bt228.1 bt228.2.1 bt228.2.2.1))) = some true := H
  have A7 := Aside0.mk A70
  clear A70
  replace H := Option.bind_eq_some_iff.mp H
  obtain ⟨⟨t228, t229, t230, t233⟩, A80, H⟩ := H
  replace H : (if t209 = 0 then (if t216 = 0 then (if t218 = 0 then (if t220 = 0 then (if t226 = 0 then (if t233 = 0 then (if (t206.length : Int) = 1 then (if (t213.length : Int) = 5 then (if t217 = 1 then (exampleHolds0.j0 k t206 (t219 != 0) t221 t222 t223 t228 t229 t230) else (exampleHolds0.j0 k t206 true t221 t222 t223 t228 t229 t230)) else (exampleHolds0.j0 k t206 true t221 t222 t223 t228 t229 t230)) else (exampleHolds0.j0 k t206 true t221 t222 t223 t228 t229 t230)) else (exampleHolds0.j0 k t206 true t221 t222 t223 t228 t229 t230)) else (exampleHolds0.j0 k t206 true t221 t222 t223 t228 t229 t230)) else (exampleHolds0.j0 k t206 true t221 t222 t223 t228 t229 t230)) else (exampleHolds0.j0 k t206 true t221 t222 t223 t228 t229 t230)) else (exampleHolds0.j0 k t206 true t221 t222 t223 t228 t229 t230)) else (exampleHolds0.j0 k t206 true t221 t222 t223 t228 t229 t230)) = some true := H
  have A8 := Aside0.mk A80
  clear A80
  have HC9 := Aside0.mk H
  clear H
  go_enter Try.func13, Try.ntmps13
  go_upto_region 8 with (first | ((with_reducible refine gate_callee (f := 34) rfl ?_); refine goesL_ (some 17) rfl rfl Try.func34 (by kernel_rfl) rfl #[.int .i64 3, .int .i64 3, .string (⟨#[49, 48, 49, 48, 49, 48, 49, 48, 49]⟩ : ByteArray)] rfl (by (try simp only [List.map_toArray, List.map_cons, List.map_nil]); rfl) ?_; (with_reducible refine (barscanlaw38_bitmap.calls k 3 3 (⟨#[49, 48, 49, 48, 49, 48, 49, 48, 49]⟩ : ByteArray) t191 t192 t193 _ A1.out).mono ?_); rintro e w10 ⟨v194, rfl, ho0, hb⟩; refine ⟨_, rfl, ?_⟩; have n0_ := Aside0.mk (Kd.R_lower ho0 (below_size (by repeat ((with_reducible exact HB.out))))); have n1_ := Aside0.mk (below_step (by repeat ((with_reducible exact HB.out))) hb); clear HB; have HO195 := n0_; have HB := n1_; clear n0_ n1_; (try clear hb); (try clear hb2); (try clear hk); (try clear hi); (try clear ho0)) | ((with_reducible refine gate_callee (f := 34) rfl ?_); refine goesL_ (some 18) rfl rfl Try.func34 (by kernel_rfl) rfl #[.int .i64 3, .int .i64 3, .string (⟨#[49, 49, 49, 49, 48, 49, 49, 49, 49]⟩ : ByteArray)] rfl (by (try simp only [List.map_toArray, List.map_cons, List.map_nil]); rfl) ?_; (with_reducible refine (barscanlaw38_bitmap.calls k 3 3 (⟨#[49, 49, 49, 49, 48, 49, 49, 49, 49]⟩ : ByteArray) t196 t197 t198 _ A2.out).mono ?_); rintro e w11 ⟨v199, rfl, ho0, hb⟩; refine ⟨_, rfl, ?_⟩; have n0_ := Aside0.mk (Kd.R_elder' (by (with_reducible repeat (fail)); exact HO195.out) (Kd.R_base ho0) hb); have n1_ := Aside0.mk (Kd.R_lower (Kd.R_new' ho0 (Kd.R_lt (by (with_reducible repeat (fail)); exact HO195.out))) (below_size (by repeat ((with_reducible exact HB.out))))); have n2_ := Aside0.mk (below_step (by repeat ((with_reducible exact HB.out))) hb); clear HO195; clear HB; have HO195 := n0_; have HO200 := n1_; have HB := n2_; clear n0_ n1_ n2_; (try clear hb); (try clear hb2); (try clear hk); (try clear hi); (try clear ho0)) | ((with_reducible refine gate_dst (N := 1) rfl ?_); (try (refine gate_guard (by rfl) ?_; dsimp only)); refine box_event ?hg (N := 1) ?hd (cs := #[.int .i64 0, .int .i64 0, .slice none 0 0]) (t := 24) ?hr ?_; (case hd => rfl); (case hg => rfl); (case hr => (go_simp; done)); intro gb201 hg w12 hbox hb; have n0_ := Aside0.mk (Kd.R_below (by (with_reducible repeat (fail)); exact HO195.out) hb); have n1_ := Aside0.mk (Kd.R_below (by (with_reducible repeat (fail)); exact HO200.out) hb); have n2_ := Aside0.mk (below_step (by repeat ((with_reducible exact HB.out))) hb); have n3_ := Aside0.mk (hbox); have n4_ := Aside0.mk ((by rw [hg]; exact (below_size (by repeat ((with_reducible exact HB.out)))) : w.heap.size ≤ gb201)); have n5_ := Aside0.mk ((by rw [hg]; exact (below_size (by repeat ((with_reducible exact HB.out)))) : w.heap.size ≤ gb201)); clear HO195; clear HO200; clear HB; have HO195 := n0_; have HO200 := n1_; have HB := n2_; have BK201 := n3_; have GW201 := n4_; have GE201 := n5_; clear n0_ n1_ n2_ n3_ n4_ n5_; clear hb hbox hg) | ((with_reducible refine gate_dst (N := 2) rfl ?_); (try (refine gate_guard (by rfl) ?_; dsimp only)); refine box_event ?hg (N := 2) ?hd (cs := #[.int .i64 0, .int .i64 0, .slice none 0 0]) (t := 24) ?hr ?_; (case hd => rfl); (case hg => rfl); (case hr => (go_simp; done)); intro gb202 hg w13 hbox hb; have n0_ := Aside0.mk (Kd.R_below (by (with_reducible repeat (fail)); exact HO195.out) hb); have n1_ := Aside0.mk (Kd.R_below (by (with_reducible repeat (fail)); exact HO200.out) hb); have n2_ := Aside0.mk (blk_below (g := gb201) (o := .cells #[.int .i64 0, .int .i64 0, .slice none 0 0] 24 (0, 0)) (by (with_reducible repeat (fail)); exact BK201.out) hb); have n3_ := Aside0.mk (below_step (by repeat ((with_reducible exact HB.out))) hb); have n4_ := Aside0.mk (hbox); have n5_ := Aside0.mk ((by rw [hg]; exact (below_size (by repeat ((with_reducible exact HB.out)))) : w.heap.size ≤ gb202)); have n6_ := Aside0.mk ((by rw [hg]; exact (below_size (by repeat ((with_reducible exact HB.out)))) : w.heap.size ≤ gb202)); have n7_ := Aside0.mk ((by rw [hg]; exact Nat.ne_of_lt (blk_lt (g := gb201) (o := .cells #[.int .i64 0, .int .i64 0, .slice none 0 0] 24 (0, 0)) (by (with_reducible repeat (fail)); exact BK201.out)) : gb201 ≠ gb202)); have n8_ := Aside0.mk ((by rw [hg]; exact Nat.ne_of_gt (blk_lt (g := gb201) (o := .cells #[.int .i64 0, .int .i64 0, .slice none 0 0] 24 (0, 0)) (by (with_reducible repeat (fail)); exact BK201.out)) : gb202 ≠ gb201)); clear HO195; clear HO200; clear BK201; clear HB; have HO195 := n0_; have HO200 := n1_; have BK201 := n2_; have HB := n3_; have BK202 := n4_; have GW202 := n5_; have GE202 := n6_; have NB201_202 := n7_; have NB202_201 := n8_; clear n0_ n1_ n2_ n3_ n4_ n5_ n6_ n7_ n8_; clear hb hbox hg; have hnb14 := NB201_202.out; have hnc14 := NB202_201.out; have hcz15_0 : w13.cell? ⟨gb201, 0, none⟩ = some (.int .i64 0) := (blk_cell BK201.out 0).trans rfl; have hcz15_1 : w13.cell? ⟨gb201, 1, none⟩ = some (.int .i64 0) := (blk_cell BK201.out 1).trans rfl; have hcz15_2 : w13.cell? ⟨gb201, 2, none⟩ = some (.slice none 0 0) := (blk_cell BK201.out 2).trans rfl; have hfz15_0 := blk_frozen BK201.out 0; have hfz15_1 := blk_frozen BK201.out 1; have hfz15_2 := blk_frozen BK201.out 2; obtain ⟨Ao16, co16, eo16⟩ := Kd.R_slice HO195.out; subst eo16; have hcz17_0 : w13.cell? ⟨gb202, 0, none⟩ = some (.int .i64 0) := (blk_cell BK202.out 0).trans rfl; have hcz17_1 : w13.cell? ⟨gb202, 1, none⟩ = some (.int .i64 0) := (blk_cell BK202.out 1).trans rfl; have hcz17_2 : w13.cell? ⟨gb202, 2, none⟩ = some (.slice none 0 0) := (blk_cell BK202.out 2).trans rfl; have hfz17_0 := blk_frozen BK202.out 0; have hfz17_1 := blk_frozen BK202.out 1; have hfz17_2 := blk_frozen BK202.out 2; obtain ⟨Ao18, co18, eo18⟩ := Kd.R_slice HO200.out; subst eo18) | ((with_reducible refine gate_callee (f := 14) rfl ?_); refine goesL_ (some 21) rfl rfl Try.func14 (by kernel_rfl) rfl #[.agg #[.int .i64 t191, .int .i64 t192, .slice Ao16 t193.length co16], .bool true] rfl (by (try simp only [List.map_toArray, List.map_cons, List.map_nil]); rfl) ?_; (with_reducible refine (components_Label.calls t191 t192 _ _ t193 true t203 t206 t209 _ ?side1 ?side2 A3.out).mono ?_); (case side1 => refine (Kd.R_reads' (e := 4) (base := w.heap.size) (ok := fun k_ => (True ∧ some k_ ≠ (.slice Ao18 t198.length co18 : Value).ownBlock)) (n := t193.length) (c := co16) ?_).2.2; exact (by (with_reducible repeat (fail)); exact (Kd.R_mono (Kd.R_mono (Kd.R_far (p := ⟨gb202, 2, none⟩) (Kd.R_far (p := ⟨gb202, 1, none⟩) (Kd.R_far (p := ⟨gb202, 0, none⟩) (Kd.R_far (p := ⟨gb201, 2, none⟩) (Kd.R_far (p := ⟨gb201, 1, none⟩) (Kd.R_far (p := ⟨gb201, 0, none⟩) (Kd.R_types (Kd.R_types HO195.out BK201.out (by decide)) BK202.out (by decide)) (fun _ hk => hk.1.2) (.int .i64 t191)) (fun _ hk => hk.1.2) (.int .i64 t192)) (fun _ hk => hk.1.2) (.slice Ao16 t193.length co16)) (fun _ hk => hk.2) (.int .i64 t196)) (fun _ hk => hk.2) (.int .i64 t197)) (fun _ hk => hk.2) (.slice Ao18 t198.length co18)) (fun _ h_ => h_.1)) (fun _ h_ => h_.1)))); (case side2 => exact (Kd.R_reads' HO195.out).2.1); rintro e w19 ⟨v204, v207, rfl, ho0, ho1, hb⟩; refine ⟨_, rfl, ?_⟩; have n0_ := Aside0.mk (Kd.R_below (by (with_reducible repeat (fail)); exact (Kd.R_mono (Kd.R_mono (Kd.R_far (p := ⟨gb202, 2, none⟩) (Kd.R_far (p := ⟨gb202, 1, none⟩) (Kd.R_far (p := ⟨gb202, 0, none⟩) (Kd.R_far (p := ⟨gb201, 2, none⟩) (Kd.R_far (p := ⟨gb201, 1, none⟩) (Kd.R_far (p := ⟨gb201, 0, none⟩) (Kd.R_types (Kd.R_types HO195.out BK201.out (by decide)) BK202.out (by decide)) (fun _ hk => hk.1.2) (.int .i64 t191)) (fun _ hk => hk.1.2) (.int .i64 t192)) (fun _ hk => hk.1.2) (.slice Ao16 t193.length co16)) (fun _ hk => hk.2) (.int .i64 t196)) (fun _ hk => hk.2) (.int .i64 t197)) (fun _ hk => hk.2) (.slice Ao18 t198.length co18)) (fun _ h_ => h_.1)) (fun _ h_ => h_.1))) hb); have n1_ := Aside0.mk (Kd.R_below (by (with_reducible repeat (fail)); exact (Kd.R_mono (Kd.R_mono (Kd.R_far (p := ⟨gb202, 2, none⟩) (Kd.R_far (p := ⟨gb202, 1, none⟩) (Kd.R_far (p := ⟨gb202, 0, none⟩) (Kd.R_far (p := ⟨gb201, 2, none⟩) (Kd.R_far (p := ⟨gb201, 1, none⟩) (Kd.R_far (p := ⟨gb201, 0, none⟩) (Kd.R_types (Kd.R_types HO200.out BK201.out (by decide)) BK202.out (by decide)) (fun _ hk => hk.1.2) (.int .i64 t191)) (fun _ hk => hk.1.2) (.int .i64 t192)) (fun _ hk => hk.1.2) (.slice Ao16 t193.length co16)) (fun _ hk => hk.2) (.int .i64 t196)) (fun _ hk => hk.2) (.int .i64 t197)) (fun _ hk => hk.2) (.slice Ao18 t198.length co18)) (fun _ h_ => h_.1)) (fun _ h_ => h_.1))) hb); have n2_ := Aside0.mk (Kd.R_lower ho0 (below_size (by repeat ((with_reducible first | exact HB.out | refine below_set ?_ GE201.out | refine below_set ?_ GE202.out))))); have n3_ := Aside0.mk (Kd.R_lower ho1 (below_size (by repeat ((with_reducible first | exact HB.out | refine below_set ?_ GE201.out | refine below_set ?_ GE202.out))))); have n4_ := Aside0.mk (blk_below (g := gb201) (o := .cells #[.int .i64 t191, .int .i64 t192, .slice Ao16 t193.length co16] 24 (0, 0)) (by (with_reducible repeat (fail)); refine blk_far ?_ NB201_202.out _; (with_reducible repeat (fail)); refine blk_far ?_ NB201_202.out _; (with_reducible repeat (fail)); refine blk_far ?_ NB201_202.out _; (with_reducible repeat (fail)); refine blk_put (cs := #[.int .i64 t191, .int .i64 t192, .slice none 0 0]) ?_ 2 _ rfl; (with_reducible repeat (fail)); refine blk_put (cs := #[.int .i64 t191, .int .i64 0, .slice none 0 0]) ?_ 1 _ rfl; (with_reducible repeat (fail)); refine blk_put (cs := #[.int .i64 0, .int .i64 0, .slice none 0 0]) ?_ 0 _ rfl; (with_reducible repeat (fail)); exact BK201.out) hb); have n5_ := Aside0.mk (blk_below (g := gb202) (o := .cells #[.int .i64 t196, .int .i64 t197, .slice Ao18 t198.length co18] 24 (0, 0)) (by (with_reducible repeat (fail)); refine blk_put (cs := #[.int .i64 t196, .int .i64 t197, .slice none 0 0]) ?_ 2 _ rfl; (with_reducible repeat (fail)); refine blk_put (cs := #[.int .i64 t196, .int .i64 0, .slice none 0 0]) ?_ 1 _ rfl; (with_reducible repeat (fail)); refine blk_put (cs := #[.int .i64 0, .int .i64 0, .slice none 0 0]) ?_ 0 _ rfl; (with_reducible repeat (fail)); refine blk_far ?_ NB202_201.out _; (with_reducible repeat (fail)); refine blk_far ?_ NB202_201.out _; (with_reducible repeat (fail)); refine blk_far ?_ NB202_201.out _; (with_reducible repeat (fail)); exact BK202.out) hb); have n6_ := Aside0.mk (below_step (by repeat ((with_reducible first | exact HB.out | refine below_set ?_ GE201.out | refine below_set ?_ GE202.out))) hb); clear HO195; clear HO200; clear BK201; clear BK202; clear HB; have HO195 := n0_; have HO200 := n1_; have HO205 := n2_; have HO208 := n3_; have BK201 := n4_; have BK202 := n5_; have HB := n6_; clear n0_ n1_ n2_ n3_ n4_ n5_ n6_; (try clear hb); (try clear hb2); (try clear hk); (try clear hi); (try clear ho0); (try clear ho1); have hcz20_0 : w19.cell? ⟨gb201, 0, none⟩ = some (.int .i64 t191) := (blk_cell BK201.out 0).trans rfl; have hcz20_1 : w19.cell? ⟨gb201, 1, none⟩ = some (.int .i64 t192) := (blk_cell BK201.out 1).trans rfl; have hcz20_2 : w19.cell? ⟨gb201, 2, none⟩ = some (.slice Ao16 t193.length co16) := (blk_cell BK201.out 2).trans rfl; have hfz20_0 := blk_frozen BK201.out 0; have hfz20_1 := blk_frozen BK201.out 1; have hfz20_2 := blk_frozen BK201.out 2) | ((with_reducible refine gate_callee (f := 14) rfl ?_); refine goesL_ (some 27) rfl rfl Try.func14 (by kernel_rfl) rfl #[.agg #[.int .i64 t191, .int .i64 t192, .slice Ao16 t193.length co16], .bool false] rfl (by (try simp only [List.map_toArray, List.map_cons, List.map_nil]); rfl) ?_; (with_reducible refine (components_Label.calls t191 t192 _ _ t193 false t210 t213 t216 _ ?side1 ?side2 A4.out).mono ?_); (case side1 => repeat ((exact (Kd.R_reads' HO195.out).2.2))); (case side2 => exact (Kd.R_reads' HO195.out).2.1); rintro e w21 ⟨v211, v214, rfl, ho0, ho1, hb⟩; refine ⟨_, rfl, ?_⟩; have n0_ := Aside0.mk (Kd.R_below (by (with_reducible repeat (fail)); exact HO195.out) hb); have n1_ := Aside0.mk (Kd.R_below (by (with_reducible repeat (fail)); exact HO200.out) hb); have n2_ := Aside0.mk (Kd.R_elder' (by (with_reducible repeat (fail)); exact HO205.out) (Kd.R_base ho0) hb); have n3_ := Aside0.mk (Kd.R_elder' (by (with_reducible repeat (fail)); exact HO208.out) (Kd.R_base ho1) hb); have n4_ := Aside0.mk (Kd.R_lower (Kd.R_new' ho0 (Kd.R_lt (by (with_reducible repeat (fail)); exact HO205.out))) (below_size (by repeat ((with_reducible exact HB.out))))); have n5_ := Aside0.mk (Kd.R_lower (Kd.R_new' ho1 (Kd.R_lt (by (with_reducible repeat (fail)); exact HO208.out))) (below_size (by repeat ((with_reducible exact HB.out))))); have n6_ := Aside0.mk (blk_below (g := gb201) (o := .cells #[.int .i64 t191, .int .i64 t192, .slice Ao16 t193.length co16] 24 (0, 0)) (by (with_reducible repeat (fail)); exact BK201.out) hb); have n7_ := Aside0.mk (blk_below (g := gb202) (o := .cells #[.int .i64 t196, .int .i64 t197, .slice Ao18 t198.length co18] 24 (0, 0)) (by (with_reducible repeat (fail)); exact BK202.out) hb); have n8_ := Aside0.mk (below_step (by repeat ((with_reducible exact HB.out))) hb); clear HO195; clear HO200; clear HO205; clear HO208; clear BK201; clear BK202; clear HB; have HO195 := n0_; have HO200 := n1_; have HO205 := n2_; have HO208 := n3_; have HO212 := n4_; have HO215 := n5_; have BK201 := n6_; have BK202 := n7_; have HB := n8_; clear n0_ n1_ n2_ n3_ n4_ n5_ n6_ n7_ n8_; (try clear hb); (try clear hb2); (try clear hk); (try clear hi); (try clear ho0); (try clear ho1); have hcz22_0 : w21.cell? ⟨gb201, 0, none⟩ = some (.int .i64 t191) := (blk_cell BK201.out 0).trans rfl; have hcz22_1 : w21.cell? ⟨gb201, 1, none⟩ = some (.int .i64 t192) := (blk_cell BK201.out 1).trans rfl; have hcz22_2 : w21.cell? ⟨gb201, 2, none⟩ = some (.slice Ao16 t193.length co16) := (blk_cell BK201.out 2).trans rfl; have hfz22_0 := blk_frozen BK201.out 0; have hfz22_1 := blk_frozen BK201.out 1; have hfz22_2 := blk_frozen BK201.out 2) | ((with_reducible refine gate_callee (f := 22) rfl ?_); refine goesL_ (some 33) rfl rfl Try.func22 (by kernel_rfl) rfl #[.agg #[.int .i64 t191, .int .i64 t192, .slice Ao16 t193.length co16]] rfl (by (try simp only [List.map_toArray, List.map_cons, List.map_nil]); rfl) ?_; (with_reducible refine (components_Euler.calls k t191 t192 _ _ t193 t217 t218 _ ?side1 ?side2 A5.out).mono ?_); (case side1 => repeat ((exact (Kd.R_reads' HO195.out).2.2))); (case side2 => exact (Kd.R_reads' HO195.out).2.1); rintro e w23 ⟨rfl, hb⟩; refine ⟨_, rfl, ?_⟩; have n0_ := Aside0.mk (Kd.R_below (by (with_reducible repeat (fail)); exact HO195.out) hb); have n1_ := Aside0.mk (Kd.R_below (by (with_reducible repeat (fail)); exact HO200.out) hb); have n2_ := Aside0.mk (Kd.R_below (by (with_reducible repeat (fail)); exact HO205.out) hb); have n3_ := Aside0.mk (Kd.R_below (by (with_reducible repeat (fail)); exact HO208.out) hb); have n4_ := Aside0.mk (Kd.R_below (by (with_reducible repeat (fail)); exact HO212.out) hb); have n5_ := Aside0.mk (Kd.R_below (by (with_reducible repeat (fail)); exact HO215.out) hb); have n6_ := Aside0.mk (blk_below (g := gb201) (o := .cells #[.int .i64 t191, .int .i64 t192, .slice Ao16 t193.length co16] 24 (0, 0)) (by (with_reducible repeat (fail)); exact BK201.out) hb); have n7_ := Aside0.mk (blk_below (g := gb202) (o := .cells #[.int .i64 t196, .int .i64 t197, .slice Ao18 t198.length co18] 24 (0, 0)) (by (with_reducible repeat (fail)); exact BK202.out) hb); have n8_ := Aside0.mk (below_step (by repeat ((with_reducible exact HB.out))) hb); clear HO195; clear HO200; clear HO205; clear HO208; clear HO212; clear HO215; clear BK201; clear BK202; clear HB; have HO195 := n0_; have HO200 := n1_; have HO205 := n2_; have HO208 := n3_; have HO212 := n4_; have HO215 := n5_; have BK201 := n6_; have BK202 := n7_; have HB := n8_; clear n0_ n1_ n2_ n3_ n4_ n5_ n6_ n7_ n8_; (try clear hb); (try clear hb2); (try clear hk); (try clear hi); have hcz24_0 : w23.cell? ⟨gb202, 0, none⟩ = some (.int .i64 t196) := (blk_cell BK202.out 0).trans rfl; have hcz24_1 : w23.cell? ⟨gb202, 1, none⟩ = some (.int .i64 t197) := (blk_cell BK202.out 1).trans rfl; have hcz24_2 : w23.cell? ⟨gb202, 2, none⟩ = some (.slice Ao18 t198.length co18) := (blk_cell BK202.out 2).trans rfl; have hfz24_0 := blk_frozen BK202.out 0; have hfz24_1 := blk_frozen BK202.out 1; have hfz24_2 := blk_frozen BK202.out 2) | ((with_reducible refine gate_callee (f := 22) rfl ?_); refine goesL_ (some 38) rfl rfl Try.func22 (by kernel_rfl) rfl #[.agg #[.int .i64 t196, .int .i64 t197, .slice Ao18 t198.length co18]] rfl (by (try simp only [List.map_toArray, List.map_cons, List.map_nil]); rfl) ?_; (with_reducible refine (components_Euler.calls k t196 t197 _ _ t198 t219 t220 _ ?side1 ?side2 A6.out).mono ?_); (case side1 => repeat ((exact (Kd.R_reads' HO200.out).2.2))); (case side2 => exact (Kd.R_reads' HO200.out).2.1); rintro e w25 ⟨rfl, hb⟩; refine ⟨_, rfl, ?_⟩; have n0_ := Aside0.mk (Kd.R_below (by (with_reducible repeat (fail)); exact HO195.out) hb); have n1_ := Aside0.mk (Kd.R_below (by (with_reducible repeat (fail)); exact HO200.out) hb); have n2_ := Aside0.mk (Kd.R_below (by (with_reducible repeat (fail)); exact HO205.out) hb); have n3_ := Aside0.mk (Kd.R_below (by (with_reducible repeat (fail)); exact HO208.out) hb); have n4_ := Aside0.mk (Kd.R_below (by (with_reducible repeat (fail)); exact HO212.out) hb); have n5_ := Aside0.mk (Kd.R_below (by (with_reducible repeat (fail)); exact HO215.out) hb); have n6_ := Aside0.mk (blk_below (g := gb201) (o := .cells #[.int .i64 t191, .int .i64 t192, .slice Ao16 t193.length co16] 24 (0, 0)) (by (with_reducible repeat (fail)); exact BK201.out) hb); have n7_ := Aside0.mk (blk_below (g := gb202) (o := .cells #[.int .i64 t196, .int .i64 t197, .slice Ao18 t198.length co18] 24 (0, 0)) (by (with_reducible repeat (fail)); exact BK202.out) hb); have n8_ := Aside0.mk (below_step (by repeat ((with_reducible exact HB.out))) hb); clear HO195; clear HO200; clear HO205; clear HO208; clear HO212; clear HO215; clear BK201; clear BK202; clear HB; have HO195 := n0_; have HO200 := n1_; have HO205 := n2_; have HO208 := n3_; have HO212 := n4_; have HO215 := n5_; have BK201 := n6_; have BK202 := n7_; have HB := n8_; clear n0_ n1_ n2_ n3_ n4_ n5_ n6_ n7_ n8_; (try clear hb); (try clear hb2); (try clear hk); (try clear hi); have hcz26_0 : w25.cell? ⟨gb202, 0, none⟩ = some (.int .i64 t196) := (blk_cell BK202.out 0).trans rfl; have hcz26_1 : w25.cell? ⟨gb202, 1, none⟩ = some (.int .i64 t197) := (blk_cell BK202.out 1).trans rfl; have hcz26_2 : w25.cell? ⟨gb202, 2, none⟩ = some (.slice Ao18 t198.length co18) := (blk_cell BK202.out 2).trans rfl; have hfz26_0 := blk_frozen BK202.out 0; have hfz26_1 := blk_frozen BK202.out 1; have hfz26_2 := blk_frozen BK202.out 2) | ((with_reducible refine gate_callee (f := 19) rfl ?_); refine goesL_ (some 43) rfl rfl Try.func19 (by kernel_rfl) rfl #[.agg #[.int .i64 t196, .int .i64 t197, .slice Ao18 t198.length co18]] rfl (by (try simp only [List.map_toArray, List.map_cons, List.map_nil]); rfl) ?_; (with_reducible refine (components_Fill.calls k t196 t197 _ _ t198 t221 t222 t223 t226 _ ?side1 ?side2 A7.out).mono ?_); (case side1 => repeat ((exact (Kd.R_reads' HO200.out).2.2))); (case side2 => exact (Kd.R_reads' HO200.out).2.1); rintro e w27 ⟨v224, rfl, ho0, hb⟩; refine ⟨_, rfl, ?_⟩; have n0_ := Aside0.mk (Kd.R_elder' (by (with_reducible repeat (fail)); exact HO195.out) (Kd.R_base ho0) hb); have n1_ := Aside0.mk (Kd.R_elder' (by (with_reducible repeat (fail)); exact HO200.out) (Kd.R_base ho0) hb); have n2_ := Aside0.mk (Kd.R_below (by (with_reducible repeat (fail)); exact HO205.out) hb); have n3_ := Aside0.mk (Kd.R_below (by (with_reducible repeat (fail)); exact HO208.out) hb); have n4_ := Aside0.mk (Kd.R_below (by (with_reducible repeat (fail)); exact HO212.out) hb); have n5_ := Aside0.mk (Kd.R_below (by (with_reducible repeat (fail)); exact HO215.out) hb); have n6_ := Aside0.mk (Kd.R_lower (Kd.R_new' (Kd.R_new' ho0 (Kd.R_lt (by (with_reducible repeat (fail)); exact HO195.out))) (Kd.R_lt (by (with_reducible repeat (fail)); exact HO200.out))) (below_size (by repeat ((with_reducible exact HB.out))))); have n7_ := Aside0.mk (blk_below (g := gb201) (o := .cells #[.int .i64 t191, .int .i64 t192, .slice Ao16 t193.length co16] 24 (0, 0)) (by (with_reducible repeat (fail)); exact BK201.out) hb); have n8_ := Aside0.mk (blk_below (g := gb202) (o := .cells #[.int .i64 t196, .int .i64 t197, .slice Ao18 t198.length co18] 24 (0, 0)) (by (with_reducible repeat (fail)); exact BK202.out) hb); have n9_ := Aside0.mk (below_step (by repeat ((with_reducible exact HB.out))) hb); clear HO195; clear HO200; clear HO205; clear HO208; clear HO212; clear HO215; clear BK201; clear BK202; clear HB; have HO195 := n0_; have HO200 := n1_; have HO205 := n2_; have HO208 := n3_; have HO212 := n4_; have HO215 := n5_; have HO225 := n6_; have BK201 := n7_; have BK202 := n8_; have HB := n9_; clear n0_ n1_ n2_ n3_ n4_ n5_ n6_ n7_ n8_ n9_; (try clear hb); (try clear hb2); (try clear hk); (try clear hi); (try clear ho0)) | ((with_reducible refine gate_dst (N := 13) rfl ?_); (try (refine gate_guard (by rfl) ?_; dsimp only)); refine box_event ?hg (N := 13) ?hd (cs := #[.int .i64 0, .int .i64 0, .slice none 0 0]) (t := 24) ?hr ?_; (case hd => rfl); (case hg => rfl); (case hr => (go_simp; done)); intro gb227 hg w28 hbox hb; have n0_ := Aside0.mk (Kd.R_below (by (with_reducible repeat (fail)); exact HO195.out) hb); have n1_ := Aside0.mk (Kd.R_below (by (with_reducible repeat (fail)); exact HO200.out) hb); have n2_ := Aside0.mk (Kd.R_below (by (with_reducible repeat (fail)); exact HO205.out) hb); have n3_ := Aside0.mk (Kd.R_below (by (with_reducible repeat (fail)); exact HO208.out) hb); have n4_ := Aside0.mk (Kd.R_below (by (with_reducible repeat (fail)); exact HO212.out) hb); have n5_ := Aside0.mk (Kd.R_below (by (with_reducible repeat (fail)); exact HO215.out) hb); have n6_ := Aside0.mk (Kd.R_below (by (with_reducible repeat (fail)); exact HO225.out) hb); have n7_ := Aside0.mk (blk_below (g := gb201) (o := .cells #[.int .i64 t191, .int .i64 t192, .slice Ao16 t193.length co16] 24 (0, 0)) (by (with_reducible repeat (fail)); exact BK201.out) hb); have n8_ := Aside0.mk (blk_below (g := gb202) (o := .cells #[.int .i64 t196, .int .i64 t197, .slice Ao18 t198.length co18] 24 (0, 0)) (by (with_reducible repeat (fail)); exact BK202.out) hb); have n9_ := Aside0.mk (below_step (by repeat ((with_reducible exact HB.out))) hb); have n10_ := Aside0.mk (hbox); have n11_ := Aside0.mk ((by rw [hg]; exact (below_size (by repeat ((with_reducible exact HB.out)))) : w.heap.size ≤ gb227)); have n12_ := Aside0.mk ((by rw [hg]; exact (below_size (by repeat ((with_reducible exact HB.out)))) : w.heap.size ≤ gb227)); have n13_ := Aside0.mk ((by rw [hg]; exact Nat.ne_of_lt (blk_lt (g := gb201) (o := .cells #[.int .i64 t191, .int .i64 t192, .slice Ao16 t193.length co16] 24 (0, 0)) (by (with_reducible repeat (fail)); exact BK201.out)) : gb201 ≠ gb227)); have n14_ := Aside0.mk ((by rw [hg]; exact Nat.ne_of_gt (blk_lt (g := gb201) (o := .cells #[.int .i64 t191, .int .i64 t192, .slice Ao16 t193.length co16] 24 (0, 0)) (by (with_reducible repeat (fail)); exact BK201.out)) : gb227 ≠ gb201)); have n15_ := Aside0.mk ((by rw [hg]; exact Nat.ne_of_lt (blk_lt (g := gb202) (o := .cells #[.int .i64 t196, .int .i64 t197, .slice Ao18 t198.length co18] 24 (0, 0)) (by (with_reducible repeat (fail)); exact BK202.out)) : gb202 ≠ gb227)); have n16_ := Aside0.mk ((by rw [hg]; exact Nat.ne_of_gt (blk_lt (g := gb202) (o := .cells #[.int .i64 t196, .int .i64 t197, .slice Ao18 t198.length co18] 24 (0, 0)) (by (with_reducible repeat (fail)); exact BK202.out)) : gb227 ≠ gb202)); clear HO195; clear HO200; clear HO205; clear HO208; clear HO212; clear HO215; clear HO225; clear BK201; clear BK202; clear HB; have HO195 := n0_; have HO200 := n1_; have HO205 := n2_; have HO208 := n3_; have HO212 := n4_; have HO215 := n5_; have HO225 := n6_; have BK201 := n7_; have BK202 := n8_; have HB := n9_; have BK227 := n10_; have GW227 := n11_; have GE227 := n12_; have NB201_227 := n13_; have NB227_201 := n14_; have NB202_227 := n15_; have NB227_202 := n16_; clear n0_ n1_ n2_ n3_ n4_ n5_ n6_ n7_ n8_ n9_ n10_ n11_ n12_ n13_ n14_ n15_ n16_; clear hb hbox hg; have hnb29 := NB227_201.out; have hnc29 := NB201_227.out; have hnb30 := NB227_202.out; have hnc30 := NB202_227.out; have hcz31_0 : w28.cell? ⟨gb227, 0, none⟩ = some (.int .i64 0) := (blk_cell BK227.out 0).trans rfl; have hcz31_1 : w28.cell? ⟨gb227, 1, none⟩ = some (.int .i64 0) := (blk_cell BK227.out 1).trans rfl; have hcz31_2 : w28.cell? ⟨gb227, 2, none⟩ = some (.slice none 0 0) := (blk_cell BK227.out 2).trans rfl; have hfz31_0 := blk_frozen BK227.out 0; have hfz31_1 := blk_frozen BK227.out 1; have hfz31_2 := blk_frozen BK227.out 2; obtain ⟨Ao32, co32, eo32⟩ := Kd.R_slice HO225.out; subst eo32; have hcz33_0 : w28.cell? ⟨gb202, 0, none⟩ = some (.int .i64 t196) := (blk_cell BK202.out 0).trans rfl; have hcz33_1 : w28.cell? ⟨gb202, 1, none⟩ = some (.int .i64 t197) := (blk_cell BK202.out 1).trans rfl; have hcz33_2 : w28.cell? ⟨gb202, 2, none⟩ = some (.slice Ao18 t198.length co18) := (blk_cell BK202.out 2).trans rfl; have hfz33_0 := blk_frozen BK202.out 0; have hfz33_1 := blk_frozen BK202.out 1; have hfz33_2 := blk_frozen BK202.out 2) | ((with_reducible refine gate_callee (f := 17) rfl ?_); refine goesL_ (some 48) rfl rfl Try.func17 (by kernel_rfl) rfl #[.agg #[.int .i64 t196, .int .i64 t197, .slice Ao18 t198.length co18], .int .i64 9] rfl (by (try simp only [List.map_toArray, List.map_cons, List.map_nil]); rfl) ?_; (with_reducible refine (components_Despeckle.calls k t196 t197 _ _ t198 9 t228 t229 t230 t233 _ ?side1 ?side2 A8.out).mono ?_); (case side1 => refine (Kd.R_reads' (e := 4) (base := w.heap.size) (ok := fun k_ => ((True ∧ some k_ ≠ (.slice Ao16 t193.length co16 : Value).ownBlock) ∧ some k_ ≠ (.slice Ao32 t223.length co32 : Value).ownBlock)) (n := t198.length) (c := co18) ?_).2.2; exact (by (with_reducible repeat (fail)); exact (Kd.R_mono (Kd.R_far (p := ⟨gb227, 2, none⟩) (Kd.R_far (p := ⟨gb227, 1, none⟩) (Kd.R_far (p := ⟨gb227, 0, none⟩) (Kd.R_types HO200.out BK227.out (by decide)) (fun _ hk => hk.2) (.int .i64 t221)) (fun _ hk => hk.2) (.int .i64 t222)) (fun _ hk => hk.2) (.slice Ao32 t223.length co32)) (fun _ h_ => h_.1)))); (case side2 => exact (Kd.R_reads' HO200.out).2.1); rintro e w34 ⟨v231, rfl, ho0, hb⟩; refine ⟨_, rfl, ?_⟩; have n0_ := Aside0.mk (Kd.R_elder' (by (with_reducible repeat (fail)); exact (Kd.R_mono (Kd.R_far (p := ⟨gb227, 2, none⟩) (Kd.R_far (p := ⟨gb227, 1, none⟩) (Kd.R_far (p := ⟨gb227, 0, none⟩) (Kd.R_types HO195.out BK227.out (by decide)) (fun _ hk => hk.2) (.int .i64 t221)) (fun _ hk => hk.2) (.int .i64 t222)) (fun _ hk => hk.2) (.slice Ao32 t223.length co32)) (fun _ h_ => h_.1))) (Kd.R_base ho0) hb); have n1_ := Aside0.mk (Kd.R_elder' (by (with_reducible repeat (fail)); exact (Kd.R_mono (Kd.R_far (p := ⟨gb227, 2, none⟩) (Kd.R_far (p := ⟨gb227, 1, none⟩) (Kd.R_far (p := ⟨gb227, 0, none⟩) (Kd.R_types HO200.out BK227.out (by decide)) (fun _ hk => hk.2) (.int .i64 t221)) (fun _ hk => hk.2) (.int .i64 t222)) (fun _ hk => hk.2) (.slice Ao32 t223.length co32)) (fun _ h_ => h_.1))) (Kd.R_base ho0) hb); have n2_ := Aside0.mk (Kd.R_below (by (with_reducible repeat (fail)); exact (Kd.R_mono (Kd.R_far (p := ⟨gb227, 2, none⟩) (Kd.R_far (p := ⟨gb227, 1, none⟩) (Kd.R_far (p := ⟨gb227, 0, none⟩) (Kd.R_types HO205.out BK227.out (by decide)) (fun _ hk => hk.2) (.int .i64 t221)) (fun _ hk => hk.2) (.int .i64 t222)) (fun _ hk => hk.2) (.slice Ao32 t223.length co32)) (fun _ h_ => h_.1))) hb); have n3_ := Aside0.mk (Kd.R_below (by (with_reducible repeat (fail)); exact (Kd.R_mono (Kd.R_far (p := ⟨gb227, 2, none⟩) (Kd.R_far (p := ⟨gb227, 1, none⟩) (Kd.R_far (p := ⟨gb227, 0, none⟩) (Kd.R_types HO208.out BK227.out (by decide)) (fun _ hk => hk.2) (.int .i64 t221)) (fun _ hk => hk.2) (.int .i64 t222)) (fun _ hk => hk.2) (.slice Ao32 t223.length co32)) (fun _ h_ => h_.1))) hb); have n4_ := Aside0.mk (Kd.R_below (by (with_reducible repeat (fail)); exact (Kd.R_mono (Kd.R_far (p := ⟨gb227, 2, none⟩) (Kd.R_far (p := ⟨gb227, 1, none⟩) (Kd.R_far (p := ⟨gb227, 0, none⟩) (Kd.R_types HO212.out BK227.out (by decide)) (fun _ hk => hk.2) (.int .i64 t221)) (fun _ hk => hk.2) (.int .i64 t222)) (fun _ hk => hk.2) (.slice Ao32 t223.length co32)) (fun _ h_ => h_.1))) hb); have n5_ := Aside0.mk (Kd.R_below (by (with_reducible repeat (fail)); exact (Kd.R_mono (Kd.R_far (p := ⟨gb227, 2, none⟩) (Kd.R_far (p := ⟨gb227, 1, none⟩) (Kd.R_far (p := ⟨gb227, 0, none⟩) (Kd.R_types HO215.out BK227.out (by decide)) (fun _ hk => hk.2) (.int .i64 t221)) (fun _ hk => hk.2) (.int .i64 t222)) (fun _ hk => hk.2) (.slice Ao32 t223.length co32)) (fun _ h_ => h_.1))) hb); have n6_ := Aside0.mk (Kd.R_elder' (by (with_reducible repeat (fail)); exact (Kd.R_mono (Kd.R_far (p := ⟨gb227, 2, none⟩) (Kd.R_far (p := ⟨gb227, 1, none⟩) (Kd.R_far (p := ⟨gb227, 0, none⟩) (Kd.R_types HO225.out BK227.out (by decide)) (fun _ hk => hk.2) (.int .i64 t221)) (fun _ hk => hk.2) (.int .i64 t222)) (fun _ hk => hk.2) (.slice Ao32 t223.length co32)) (fun _ h_ => h_.1))) (Kd.R_base ho0) hb); have n7_ := Aside0.mk (Kd.R_lower (Kd.R_new' (Kd.R_new' (Kd.R_new' ho0 (Kd.R_lt (by (with_reducible repeat (fail)); exact (Kd.R_mono (Kd.R_far (p := ⟨gb227, 2, none⟩) (Kd.R_far (p := ⟨gb227, 1, none⟩) (Kd.R_far (p := ⟨gb227, 0, none⟩) (Kd.R_types HO195.out BK227.out (by decide)) (fun _ hk => hk.2) (.int .i64 t221)) (fun _ hk => hk.2) (.int .i64 t222)) (fun _ hk => hk.2) (.slice Ao32 t223.length co32)) (fun _ h_ => h_.1))))) (Kd.R_lt (by (with_reducible repeat (fail)); exact (Kd.R_mono (Kd.R_far (p := ⟨gb227, 2, none⟩) (Kd.R_far (p := ⟨gb227, 1, none⟩) (Kd.R_far (p := ⟨gb227, 0, none⟩) (Kd.R_types HO200.out BK227.out (by decide)) (fun _ hk => hk.2) (.int .i64 t221)) (fun _ hk => hk.2) (.int .i64 t222)) (fun _ hk => hk.2) (.slice Ao32 t223.length co32)) (fun _ h_ => h_.1))))) (Kd.R_lt (by (with_reducible repeat (fail)); exact (Kd.R_mono (Kd.R_far (p := ⟨gb227, 2, none⟩) (Kd.R_far (p := ⟨gb227, 1, none⟩) (Kd.R_far (p := ⟨gb227, 0, none⟩) (Kd.R_types HO225.out BK227.out (by decide)) (fun _ hk => hk.2) (.int .i64 t221)) (fun _ hk => hk.2) (.int .i64 t222)) (fun _ hk => hk.2) (.slice Ao32 t223.length co32)) (fun _ h_ => h_.1))))) (below_size (by repeat ((with_reducible first | exact HB.out | refine below_set ?_ GE227.out))))); have n8_ := Aside0.mk (blk_below (g := gb201) (o := .cells #[.int .i64 t191, .int .i64 t192, .slice Ao16 t193.length co16] 24 (0, 0)) (by (with_reducible repeat (fail)); refine blk_far ?_ NB201_227.out _; (with_reducible repeat (fail)); refine blk_far ?_ NB201_227.out _; (with_reducible repeat (fail)); refine blk_far ?_ NB201_227.out _; (with_reducible repeat (fail)); exact BK201.out) hb); have n9_ := Aside0.mk (blk_below (g := gb202) (o := .cells #[.int .i64 t196, .int .i64 t197, .slice Ao18 t198.length co18] 24 (0, 0)) (by (with_reducible repeat (fail)); refine blk_far ?_ NB202_227.out _; (with_reducible repeat (fail)); refine blk_far ?_ NB202_227.out _; (with_reducible repeat (fail)); refine blk_far ?_ NB202_227.out _; (with_reducible repeat (fail)); exact BK202.out) hb); have n10_ := Aside0.mk (blk_below (g := gb227) (o := .cells #[.int .i64 t221, .int .i64 t222, .slice Ao32 t223.length co32] 24 (0, 0)) (by (with_reducible repeat (fail)); refine blk_put (cs := #[.int .i64 t221, .int .i64 t222, .slice none 0 0]) ?_ 2 _ rfl; (with_reducible repeat (fail)); refine blk_put (cs := #[.int .i64 t221, .int .i64 0, .slice none 0 0]) ?_ 1 _ rfl; (with_reducible repeat (fail)); refine blk_put (cs := #[.int .i64 0, .int .i64 0, .slice none 0 0]) ?_ 0 _ rfl; (with_reducible repeat (fail)); exact BK227.out) hb); have n11_ := Aside0.mk (below_step (by repeat ((with_reducible first | exact HB.out | refine below_set ?_ GE227.out))) hb); clear HO195; clear HO200; clear HO205; clear HO208; clear HO212; clear HO215; clear HO225; clear BK201; clear BK202; clear BK227; clear HB; have HO195 := n0_; have HO200 := n1_; have HO205 := n2_; have HO208 := n3_; have HO212 := n4_; have HO215 := n5_; have HO225 := n6_; have HO232 := n7_; have BK201 := n8_; have BK202 := n9_; have BK227 := n10_; have HB := n11_; clear n0_ n1_ n2_ n3_ n4_ n5_ n6_ n7_ n8_ n9_ n10_ n11_; (try clear hb); (try clear hb2); (try clear hk); (try clear hi); (try clear ho0)) | ((with_reducible refine gate_dst (N := 15) rfl ?_); (try (refine gate_guard (by rfl) ?_; dsimp only)); refine box_event ?hg (N := 15) ?hd (cs := #[.int .i64 0, .int .i64 0, .slice none 0 0]) (t := 24) ?hr ?_; (case hd => rfl); (case hg => rfl); (case hr => (go_simp; done)); intro gb234 hg w35 hbox hb; have n0_ := Aside0.mk (Kd.R_below (by (with_reducible repeat (fail)); exact HO195.out) hb); have n1_ := Aside0.mk (Kd.R_below (by (with_reducible repeat (fail)); exact HO200.out) hb); have n2_ := Aside0.mk (Kd.R_below (by (with_reducible repeat (fail)); exact HO205.out) hb); have n3_ := Aside0.mk (Kd.R_below (by (with_reducible repeat (fail)); exact HO208.out) hb); have n4_ := Aside0.mk (Kd.R_below (by (with_reducible repeat (fail)); exact HO212.out) hb); have n5_ := Aside0.mk (Kd.R_below (by (with_reducible repeat (fail)); exact HO215.out) hb); have n6_ := Aside0.mk (Kd.R_below (by (with_reducible repeat (fail)); exact HO225.out) hb); have n7_ := Aside0.mk (Kd.R_below (by (with_reducible repeat (fail)); exact HO232.out) hb); have n8_ := Aside0.mk (blk_below (g := gb201) (o := .cells #[.int .i64 t191, .int .i64 t192, .slice Ao16 t193.length co16] 24 (0, 0)) (by (with_reducible repeat (fail)); exact BK201.out) hb); have n9_ := Aside0.mk (blk_below (g := gb202) (o := .cells #[.int .i64 t196, .int .i64 t197, .slice Ao18 t198.length co18] 24 (0, 0)) (by (with_reducible repeat (fail)); exact BK202.out) hb); have n10_ := Aside0.mk (blk_below (g := gb227) (o := .cells #[.int .i64 t221, .int .i64 t222, .slice Ao32 t223.length co32] 24 (0, 0)) (by (with_reducible repeat (fail)); exact BK227.out) hb); have n11_ := Aside0.mk (below_step (by repeat ((with_reducible exact HB.out))) hb); have n12_ := Aside0.mk (hbox); have n13_ := Aside0.mk ((by rw [hg]; exact (below_size (by repeat ((with_reducible exact HB.out)))) : w.heap.size ≤ gb234)); have n14_ := Aside0.mk ((by rw [hg]; exact (below_size (by repeat ((with_reducible exact HB.out)))) : w.heap.size ≤ gb234)); have n15_ := Aside0.mk ((by rw [hg]; exact Nat.ne_of_lt (blk_lt (g := gb201) (o := .cells #[.int .i64 t191, .int .i64 t192, .slice Ao16 t193.length co16] 24 (0, 0)) (by (with_reducible repeat (fail)); exact BK201.out)) : gb201 ≠ gb234)); have n16_ := Aside0.mk ((by rw [hg]; exact Nat.ne_of_gt (blk_lt (g := gb201) (o := .cells #[.int .i64 t191, .int .i64 t192, .slice Ao16 t193.length co16] 24 (0, 0)) (by (with_reducible repeat (fail)); exact BK201.out)) : gb234 ≠ gb201)); have n17_ := Aside0.mk ((by rw [hg]; exact Nat.ne_of_lt (blk_lt (g := gb202) (o := .cells #[.int .i64 t196, .int .i64 t197, .slice Ao18 t198.length co18] 24 (0, 0)) (by (with_reducible repeat (fail)); exact BK202.out)) : gb202 ≠ gb234)); have n18_ := Aside0.mk ((by rw [hg]; exact Nat.ne_of_gt (blk_lt (g := gb202) (o := .cells #[.int .i64 t196, .int .i64 t197, .slice Ao18 t198.length co18] 24 (0, 0)) (by (with_reducible repeat (fail)); exact BK202.out)) : gb234 ≠ gb202)); have n19_ := Aside0.mk ((by rw [hg]; exact Nat.ne_of_lt (blk_lt (g := gb227) (o := .cells #[.int .i64 t221, .int .i64 t222, .slice Ao32 t223.length co32] 24 (0, 0)) (by (with_reducible repeat (fail)); exact BK227.out)) : gb227 ≠ gb234)); have n20_ := Aside0.mk ((by rw [hg]; exact Nat.ne_of_gt (blk_lt (g := gb227) (o := .cells #[.int .i64 t221, .int .i64 t222, .slice Ao32 t223.length co32] 24 (0, 0)) (by (with_reducible repeat (fail)); exact BK227.out)) : gb234 ≠ gb227)); clear HO195; clear HO200; clear HO205; clear HO208; clear HO212; clear HO215; clear HO225; clear HO232; clear BK201; clear BK202; clear BK227; clear HB; have HO195 := n0_; have HO200 := n1_; have HO205 := n2_; have HO208 := n3_; have HO212 := n4_; have HO215 := n5_; have HO225 := n6_; have HO232 := n7_; have BK201 := n8_; have BK202 := n9_; have BK227 := n10_; have HB := n11_; have BK234 := n12_; have GW234 := n13_; have GE234 := n14_; have NB201_234 := n15_; have NB234_201 := n16_; have NB202_234 := n17_; have NB234_202 := n18_; have NB227_234 := n19_; have NB234_227 := n20_; clear n0_ n1_ n2_ n3_ n4_ n5_ n6_ n7_ n8_ n9_ n10_ n11_ n12_ n13_ n14_ n15_ n16_ n17_ n18_ n19_ n20_; clear hb hbox hg; have hnb36 := NB234_201.out; have hnc36 := NB201_234.out; have hnb37 := NB234_202.out; have hnc37 := NB202_234.out; have hnb38 := NB234_227.out; have hnc38 := NB227_234.out; have hcz39_0 : w35.cell? ⟨gb234, 0, none⟩ = some (.int .i64 0) := (blk_cell BK234.out 0).trans rfl; have hcz39_1 : w35.cell? ⟨gb234, 1, none⟩ = some (.int .i64 0) := (blk_cell BK234.out 1).trans rfl; have hcz39_2 : w35.cell? ⟨gb234, 2, none⟩ = some (.slice none 0 0) := (blk_cell BK234.out 2).trans rfl; have hfz39_0 := blk_frozen BK234.out 0; have hfz39_1 := blk_frozen BK234.out 1; have hfz39_2 := blk_frozen BK234.out 2; obtain ⟨Ao40, co40, eo40⟩ := Kd.R_slice HO232.out; subst eo40))
  (try simp only [Act.put, List.setIfInBounds_toArray, List.set_cons_zero, List.set_cons_succ])
  go_cut [90] (fun v90 wc => ∃ (kq : Nat) (x90_8 : Bool), v90 = .bool x90_8 ∧ Aside0 (exampleHolds0.j0 kq t206 x90_8 t221 t222 t223 t228 t229 t230 = some true) ∧ Aside0 (kq ≤ k) ∧ Aside0 (Kd.R k38 38 wc w.heap.size (fun _ => True) v207 t206) ∧ Aside0 (Kd.R Kd.bool 4 wc w.heap.size (fun k_ => some k_ ≠ ((.slice Ao18 t198.length co18) : Value).ownBlock ∧ some k_ ≠ ((.slice Ao32 t223.length co32) : Value).ownBlock ∧ some k_ ≠ ((.slice Ao40 t230.length co40) : Value).ownBlock) (.slice Ao16 t193.length co16) t193) ∧ Aside0 (Kd.R Kd.bool 4 wc w.heap.size (fun k_ => some k_ ≠ ((.slice Ao16 t193.length co16) : Value).ownBlock ∧ some k_ ≠ ((.slice Ao32 t223.length co32) : Value).ownBlock ∧ some k_ ≠ ((.slice Ao40 t230.length co40) : Value).ownBlock) (.slice Ao18 t198.length co18) t198) ∧ Aside0 (Kd.R Kd.bool 4 wc w.heap.size (fun k_ => some k_ ≠ ((.slice Ao16 t193.length co16) : Value).ownBlock ∧ some k_ ≠ ((.slice Ao18 t198.length co18) : Value).ownBlock ∧ some k_ ≠ ((.slice Ao40 t230.length co40) : Value).ownBlock) (.slice Ao32 t223.length co32) t223) ∧ Aside0 (Kd.R Kd.bool 4 wc w.heap.size (fun k_ => some k_ ≠ ((.slice Ao16 t193.length co16) : Value).ownBlock ∧ some k_ ≠ ((.slice Ao18 t198.length co18) : Value).ownBlock ∧ some k_ ≠ ((.slice Ao32 t223.length co32) : Value).ownBlock) (.slice Ao40 t230.length co40) t230) ∧ Aside0 (wc.heap[gb201]? = some (.cells #[.int .i64 t191, .int .i64 t192, (.slice Ao16 t193.length co16)] 24 (0, 0))) ∧ Aside0 (wc.heap[gb202]? = some (.cells #[.int .i64 t196, .int .i64 t197, (.slice Ao18 t198.length co18)] 24 (0, 0))) ∧ Aside0 (wc.heap[gb227]? = some (.cells #[.int .i64 t221, .int .i64 t222, (.slice Ao32 t223.length co32)] 24 (0, 0))) ∧ Aside0 (wc.heap[gb234]? = some (.cells #[.int .i64 t228, .int .i64 t229, (.slice Ao40 t230.length co40)] 24 (0, 0))) ∧ Aside0 (Below w.heap.size w wc))
  case first =>
    have H := HC9.out
    clear HC9
    by_cases c41 : t209 = 0
    · rw [if_pos c41] at H
      have c41b0 : (t209 == 0) = true := beq_iff_eq.mpr c41
      have c41b1 : (t209 != 0) = false := bne_eq_false_iff_eq.mpr c41
      clear c41
      (skip)
      by_cases c42 : t216 = 0
      · rw [if_pos c42] at H
        have c42b0 : (t216 == 0) = true := beq_iff_eq.mpr c42
        have c42b1 : (t216 != 0) = false := bne_eq_false_iff_eq.mpr c42
        clear c42
        by_cases c43 : t218 = 0
        · rw [if_pos c43] at H
          have c43b0 : (t218 == 0) = true := beq_iff_eq.mpr c43
          have c43b1 : (t218 != 0) = false := bne_eq_false_iff_eq.mpr c43
          clear c43
          by_cases c44 : t220 = 0
          · rw [if_pos c44] at H
            have c44b0 : (t220 == 0) = true := beq_iff_eq.mpr c44
            have c44b1 : (t220 != 0) = false := bne_eq_false_iff_eq.mpr c44
            clear c44
            by_cases c45 : t226 = 0
            · rw [if_pos c45] at H
              have c45b0 : (t226 == 0) = true := beq_iff_eq.mpr c45
              have c45b1 : (t226 != 0) = false := bne_eq_false_iff_eq.mpr c45
              clear c45
              by_cases c46 : t233 = 0
              · rw [if_pos c46] at H
                have c46b0 : (t233 == 0) = true := beq_iff_eq.mpr c46
                have c46b1 : (t233 != 0) = false := bne_eq_false_iff_eq.mpr c46
                clear c46
                by_cases c47 : (t206.length : Int) = 1
                · rw [if_pos c47] at H
                  have c47b0 : ((t206.length : Int) == 1) = true := beq_iff_eq.mpr c47
                  have c47b1 : ((t206.length : Int) != 1) = false := bne_eq_false_iff_eq.mpr c47
                  clear c47
                  by_cases c48 : (t213.length : Int) = 5
                  · rw [if_pos c48] at H
                    have c48b0 : ((t213.length : Int) == 5) = true := beq_iff_eq.mpr c48
                    have c48b1 : ((t213.length : Int) != 5) = false := bne_eq_false_iff_eq.mpr c48
                    clear c48
                    by_cases c49 : t217 = 1
                    · rw [if_pos c49] at H
                      have c49b0 : (t217 == 1) = true := beq_iff_eq.mpr c49
                      have c49b1 : (t217 != 1) = false := bne_eq_false_iff_eq.mpr c49
                      clear c49
                      have H' := Aside0.mk H
                      clear H
                      obtain ⟨Ao50, co50, eo50⟩ := Kd.R_slice HO208.out
                      subst eo50
                      obtain ⟨Ao51, co51, eo51⟩ := Kd.R_slice HO215.out
                      subst eo51
                      go_wp2
                      go_meet
                      case rel => exact ⟨_, ((t219 != 0)), (by rfl), H', ⟨by omega⟩, ⟨by (with_reducible repeat (fail)); exact Kd.R_mono (Kd.R_far (p := ⟨gb234, 2, none⟩) (Kd.R_far (p := ⟨gb234, 1, none⟩) (Kd.R_far (p := ⟨gb234, 0, none⟩) (Kd.R_types HO208.out BK234.out (by decide)) (fun _ hk => hk.2) (.int .i64 t228)) (fun _ hk => hk.2) (.int .i64 t229)) (fun _ hk => hk.2) (.slice Ao40 t230.length co40)) (fun _ hk => trivial)⟩, ⟨by (with_reducible repeat (fail)); exact Kd.R_mono (Kd.R_far (p := ⟨gb234, 2, none⟩) (Kd.R_far (p := ⟨gb234, 1, none⟩) (Kd.R_far (p := ⟨gb234, 0, none⟩) (Kd.R_types HO195.out BK234.out (by decide)) (fun _ hk => hk.2) (.int .i64 t228)) (fun _ hk => hk.2) (.int .i64 t229)) (fun _ hk => hk.2) (.slice Ao40 t230.length co40)) (fun _ hk => ⟨hk.1.1.1.2, ⟨hk.1.1.2, hk.1.2⟩⟩)⟩, ⟨by (with_reducible repeat (fail)); exact Kd.R_mono (Kd.R_far (p := ⟨gb234, 2, none⟩) (Kd.R_far (p := ⟨gb234, 1, none⟩) (Kd.R_far (p := ⟨gb234, 0, none⟩) (Kd.R_types HO200.out BK234.out (by decide)) (fun _ hk => hk.2) (.int .i64 t228)) (fun _ hk => hk.2) (.int .i64 t229)) (fun _ hk => hk.2) (.slice Ao40 t230.length co40)) (fun _ hk => ⟨hk.1.1.1.2, ⟨hk.1.1.2, hk.1.2⟩⟩)⟩, ⟨by (with_reducible repeat (fail)); exact Kd.R_mono (Kd.R_far (p := ⟨gb234, 2, none⟩) (Kd.R_far (p := ⟨gb234, 1, none⟩) (Kd.R_far (p := ⟨gb234, 0, none⟩) (Kd.R_types HO225.out BK234.out (by decide)) (fun _ hk => hk.2) (.int .i64 t228)) (fun _ hk => hk.2) (.int .i64 t229)) (fun _ hk => hk.2) (.slice Ao40 t230.length co40)) (fun _ hk => ⟨hk.1.1.1.2, ⟨hk.1.1.2, hk.1.2⟩⟩)⟩, ⟨by (with_reducible repeat (fail)); exact Kd.R_mono (Kd.R_far (p := ⟨gb234, 2, none⟩) (Kd.R_far (p := ⟨gb234, 1, none⟩) (Kd.R_far (p := ⟨gb234, 0, none⟩) (Kd.R_types HO232.out BK234.out (by decide)) (fun _ hk => hk.2) (.int .i64 t228)) (fun _ hk => hk.2) (.int .i64 t229)) (fun _ hk => hk.2) (.slice Ao40 t230.length co40)) (fun _ hk => ⟨hk.1.1.1.2, ⟨hk.1.1.2, hk.1.2⟩⟩)⟩, ⟨by (with_reducible repeat (fail)); refine blk_far ?_ NB201_234.out _; (with_reducible repeat (fail)); refine blk_far ?_ NB201_234.out _; (with_reducible repeat (fail)); refine blk_far ?_ NB201_234.out _; (with_reducible repeat (fail)); exact BK201.out⟩, ⟨by (with_reducible repeat (fail)); refine blk_far ?_ NB202_234.out _; (with_reducible repeat (fail)); refine blk_far ?_ NB202_234.out _; (with_reducible repeat (fail)); refine blk_far ?_ NB202_234.out _; (with_reducible repeat (fail)); exact BK202.out⟩, ⟨by (with_reducible repeat (fail)); refine blk_far ?_ NB227_234.out _; (with_reducible repeat (fail)); refine blk_far ?_ NB227_234.out _; (with_reducible repeat (fail)); refine blk_far ?_ NB227_234.out _; (with_reducible repeat (fail)); exact BK227.out⟩, ⟨by (with_reducible repeat (fail)); refine blk_put (cs := #[.int .i64 t228, .int .i64 t229, .slice none 0 0]) ?_ 2 _ rfl; (with_reducible repeat (fail)); refine blk_put (cs := #[.int .i64 t228, .int .i64 0, .slice none 0 0]) ?_ 1 _ rfl; (with_reducible repeat (fail)); refine blk_put (cs := #[.int .i64 0, .int .i64 0, .slice none 0 0]) ?_ 0 _ rfl; (with_reducible repeat (fail)); exact BK234.out⟩, ⟨by repeat ((with_reducible first | exact HB.out | refine below_set ?_ GE234.out))⟩⟩
                    · rw [if_neg c49] at H
                      have c49b0 : (t217 == 1) = false := beq_eq_false_iff_ne.mpr c49
                      have c49b1 : (t217 != 1) = true := bne_iff_ne.mpr c49
                      have H' := Aside0.mk H
                      clear H
                      obtain ⟨Ao52, co52, eo52⟩ := Kd.R_slice HO208.out
                      subst eo52
                      obtain ⟨Ao53, co53, eo53⟩ := Kd.R_slice HO215.out
                      subst eo53
                      go_wp2
                      go_meet
                      case rel => exact ⟨_, (true), (by rfl), H', ⟨by omega⟩, ⟨by (with_reducible repeat (fail)); exact Kd.R_mono (Kd.R_far (p := ⟨gb234, 2, none⟩) (Kd.R_far (p := ⟨gb234, 1, none⟩) (Kd.R_far (p := ⟨gb234, 0, none⟩) (Kd.R_types HO208.out BK234.out (by decide)) (fun _ hk => hk.2) (.int .i64 t228)) (fun _ hk => hk.2) (.int .i64 t229)) (fun _ hk => hk.2) (.slice Ao40 t230.length co40)) (fun _ hk => trivial)⟩, ⟨by (with_reducible repeat (fail)); exact Kd.R_mono (Kd.R_far (p := ⟨gb234, 2, none⟩) (Kd.R_far (p := ⟨gb234, 1, none⟩) (Kd.R_far (p := ⟨gb234, 0, none⟩) (Kd.R_types HO195.out BK234.out (by decide)) (fun _ hk => hk.2) (.int .i64 t228)) (fun _ hk => hk.2) (.int .i64 t229)) (fun _ hk => hk.2) (.slice Ao40 t230.length co40)) (fun _ hk => ⟨hk.1.1.1.2, ⟨hk.1.1.2, hk.1.2⟩⟩)⟩, ⟨by (with_reducible repeat (fail)); exact Kd.R_mono (Kd.R_far (p := ⟨gb234, 2, none⟩) (Kd.R_far (p := ⟨gb234, 1, none⟩) (Kd.R_far (p := ⟨gb234, 0, none⟩) (Kd.R_types HO200.out BK234.out (by decide)) (fun _ hk => hk.2) (.int .i64 t228)) (fun _ hk => hk.2) (.int .i64 t229)) (fun _ hk => hk.2) (.slice Ao40 t230.length co40)) (fun _ hk => ⟨hk.1.1.1.2, ⟨hk.1.1.2, hk.1.2⟩⟩)⟩, ⟨by (with_reducible repeat (fail)); exact Kd.R_mono (Kd.R_far (p := ⟨gb234, 2, none⟩) (Kd.R_far (p := ⟨gb234, 1, none⟩) (Kd.R_far (p := ⟨gb234, 0, none⟩) (Kd.R_types HO225.out BK234.out (by decide)) (fun _ hk => hk.2) (.int .i64 t228)) (fun _ hk => hk.2) (.int .i64 t229)) (fun _ hk => hk.2) (.slice Ao40 t230.length co40)) (fun _ hk => ⟨hk.1.1.1.2, ⟨hk.1.1.2, hk.1.2⟩⟩)⟩, ⟨by (with_reducible repeat (fail)); exact Kd.R_mono (Kd.R_far (p := ⟨gb234, 2, none⟩) (Kd.R_far (p := ⟨gb234, 1, none⟩) (Kd.R_far (p := ⟨gb234, 0, none⟩) (Kd.R_types HO232.out BK234.out (by decide)) (fun _ hk => hk.2) (.int .i64 t228)) (fun _ hk => hk.2) (.int .i64 t229)) (fun _ hk => hk.2) (.slice Ao40 t230.length co40)) (fun _ hk => ⟨hk.1.1.1.2, ⟨hk.1.1.2, hk.1.2⟩⟩)⟩, ⟨by (with_reducible repeat (fail)); refine blk_far ?_ NB201_234.out _; (with_reducible repeat (fail)); refine blk_far ?_ NB201_234.out _; (with_reducible repeat (fail)); refine blk_far ?_ NB201_234.out _; (with_reducible repeat (fail)); exact BK201.out⟩, ⟨by (with_reducible repeat (fail)); refine blk_far ?_ NB202_234.out _; (with_reducible repeat (fail)); refine blk_far ?_ NB202_234.out _; (with_reducible repeat (fail)); refine blk_far ?_ NB202_234.out _; (with_reducible repeat (fail)); exact BK202.out⟩, ⟨by (with_reducible repeat (fail)); refine blk_far ?_ NB227_234.out _; (with_reducible repeat (fail)); refine blk_far ?_ NB227_234.out _; (with_reducible repeat (fail)); refine blk_far ?_ NB227_234.out _; (with_reducible repeat (fail)); exact BK227.out⟩, ⟨by (with_reducible repeat (fail)); refine blk_put (cs := #[.int .i64 t228, .int .i64 t229, .slice none 0 0]) ?_ 2 _ rfl; (with_reducible repeat (fail)); refine blk_put (cs := #[.int .i64 t228, .int .i64 0, .slice none 0 0]) ?_ 1 _ rfl; (with_reducible repeat (fail)); refine blk_put (cs := #[.int .i64 0, .int .i64 0, .slice none 0 0]) ?_ 0 _ rfl; (with_reducible repeat (fail)); exact BK234.out⟩, ⟨by repeat ((with_reducible first | exact HB.out | refine below_set ?_ GE234.out))⟩⟩
                  · rw [if_neg c48] at H
                    have c48b0 : ((t213.length : Int) == 5) = false := beq_eq_false_iff_ne.mpr c48
                    have c48b1 : ((t213.length : Int) != 5) = true := bne_iff_ne.mpr c48
                    have H' := Aside0.mk H
                    clear H
                    obtain ⟨Ao54, co54, eo54⟩ := Kd.R_slice HO208.out
                    subst eo54
                    obtain ⟨Ao55, co55, eo55⟩ := Kd.R_slice HO215.out
                    subst eo55
                    go_wp2
                    go_meet
                    case rel => exact ⟨_, (true), (by rfl), H', ⟨by omega⟩, ⟨by (with_reducible repeat (fail)); exact Kd.R_mono (Kd.R_far (p := ⟨gb234, 2, none⟩) (Kd.R_far (p := ⟨gb234, 1, none⟩) (Kd.R_far (p := ⟨gb234, 0, none⟩) (Kd.R_types HO208.out BK234.out (by decide)) (fun _ hk => hk.2) (.int .i64 t228)) (fun _ hk => hk.2) (.int .i64 t229)) (fun _ hk => hk.2) (.slice Ao40 t230.length co40)) (fun _ hk => trivial)⟩, ⟨by (with_reducible repeat (fail)); exact Kd.R_mono (Kd.R_far (p := ⟨gb234, 2, none⟩) (Kd.R_far (p := ⟨gb234, 1, none⟩) (Kd.R_far (p := ⟨gb234, 0, none⟩) (Kd.R_types HO195.out BK234.out (by decide)) (fun _ hk => hk.2) (.int .i64 t228)) (fun _ hk => hk.2) (.int .i64 t229)) (fun _ hk => hk.2) (.slice Ao40 t230.length co40)) (fun _ hk => ⟨hk.1.1.1.2, ⟨hk.1.1.2, hk.1.2⟩⟩)⟩, ⟨by (with_reducible repeat (fail)); exact Kd.R_mono (Kd.R_far (p := ⟨gb234, 2, none⟩) (Kd.R_far (p := ⟨gb234, 1, none⟩) (Kd.R_far (p := ⟨gb234, 0, none⟩) (Kd.R_types HO200.out BK234.out (by decide)) (fun _ hk => hk.2) (.int .i64 t228)) (fun _ hk => hk.2) (.int .i64 t229)) (fun _ hk => hk.2) (.slice Ao40 t230.length co40)) (fun _ hk => ⟨hk.1.1.1.2, ⟨hk.1.1.2, hk.1.2⟩⟩)⟩, ⟨by (with_reducible repeat (fail)); exact Kd.R_mono (Kd.R_far (p := ⟨gb234, 2, none⟩) (Kd.R_far (p := ⟨gb234, 1, none⟩) (Kd.R_far (p := ⟨gb234, 0, none⟩) (Kd.R_types HO225.out BK234.out (by decide)) (fun _ hk => hk.2) (.int .i64 t228)) (fun _ hk => hk.2) (.int .i64 t229)) (fun _ hk => hk.2) (.slice Ao40 t230.length co40)) (fun _ hk => ⟨hk.1.1.1.2, ⟨hk.1.1.2, hk.1.2⟩⟩)⟩, ⟨by (with_reducible repeat (fail)); exact Kd.R_mono (Kd.R_far (p := ⟨gb234, 2, none⟩) (Kd.R_far (p := ⟨gb234, 1, none⟩) (Kd.R_far (p := ⟨gb234, 0, none⟩) (Kd.R_types HO232.out BK234.out (by decide)) (fun _ hk => hk.2) (.int .i64 t228)) (fun _ hk => hk.2) (.int .i64 t229)) (fun _ hk => hk.2) (.slice Ao40 t230.length co40)) (fun _ hk => ⟨hk.1.1.1.2, ⟨hk.1.1.2, hk.1.2⟩⟩)⟩, ⟨by (with_reducible repeat (fail)); refine blk_far ?_ NB201_234.out _; (with_reducible repeat (fail)); refine blk_far ?_ NB201_234.out _; (with_reducible repeat (fail)); refine blk_far ?_ NB201_234.out _; (with_reducible repeat (fail)); exact BK201.out⟩, ⟨by (with_reducible repeat (fail)); refine blk_far ?_ NB202_234.out _; (with_reducible repeat (fail)); refine blk_far ?_ NB202_234.out _; (with_reducible repeat (fail)); refine blk_far ?_ NB202_234.out _; (with_reducible repeat (fail)); exact BK202.out⟩, ⟨by (with_reducible repeat (fail)); refine blk_far ?_ NB227_234.out _; (with_reducible repeat (fail)); refine blk_far ?_ NB227_234.out _; (with_reducible repeat (fail)); refine blk_far ?_ NB227_234.out _; (with_reducible repeat (fail)); exact BK227.out⟩, ⟨by (with_reducible repeat (fail)); refine blk_put (cs := #[.int .i64 t228, .int .i64 t229, .slice none 0 0]) ?_ 2 _ rfl; (with_reducible repeat (fail)); refine blk_put (cs := #[.int .i64 t228, .int .i64 0, .slice none 0 0]) ?_ 1 _ rfl; (with_reducible repeat (fail)); refine blk_put (cs := #[.int .i64 0, .int .i64 0, .slice none 0 0]) ?_ 0 _ rfl; (with_reducible repeat (fail)); exact BK234.out⟩, ⟨by repeat ((with_reducible first | exact HB.out | refine below_set ?_ GE234.out))⟩⟩
                · rw [if_neg c47] at H
                  have c47b0 : ((t206.length : Int) == 1) = false := beq_eq_false_iff_ne.mpr c47
                  have c47b1 : ((t206.length : Int) != 1) = true := bne_iff_ne.mpr c47
                  have H' := Aside0.mk H
                  clear H
                  obtain ⟨Ao56, co56, eo56⟩ := Kd.R_slice HO208.out
                  subst eo56
                  go_wp2
                  go_meet
                  case rel => exact ⟨_, (true), (by rfl), H', ⟨by omega⟩, ⟨by (with_reducible repeat (fail)); exact Kd.R_mono (Kd.R_far (p := ⟨gb234, 2, none⟩) (Kd.R_far (p := ⟨gb234, 1, none⟩) (Kd.R_far (p := ⟨gb234, 0, none⟩) (Kd.R_types HO208.out BK234.out (by decide)) (fun _ hk => hk.2) (.int .i64 t228)) (fun _ hk => hk.2) (.int .i64 t229)) (fun _ hk => hk.2) (.slice Ao40 t230.length co40)) (fun _ hk => trivial)⟩, ⟨by (with_reducible repeat (fail)); exact Kd.R_mono (Kd.R_far (p := ⟨gb234, 2, none⟩) (Kd.R_far (p := ⟨gb234, 1, none⟩) (Kd.R_far (p := ⟨gb234, 0, none⟩) (Kd.R_types HO195.out BK234.out (by decide)) (fun _ hk => hk.2) (.int .i64 t228)) (fun _ hk => hk.2) (.int .i64 t229)) (fun _ hk => hk.2) (.slice Ao40 t230.length co40)) (fun _ hk => ⟨hk.1.1.1.2, ⟨hk.1.1.2, hk.1.2⟩⟩)⟩, ⟨by (with_reducible repeat (fail)); exact Kd.R_mono (Kd.R_far (p := ⟨gb234, 2, none⟩) (Kd.R_far (p := ⟨gb234, 1, none⟩) (Kd.R_far (p := ⟨gb234, 0, none⟩) (Kd.R_types HO200.out BK234.out (by decide)) (fun _ hk => hk.2) (.int .i64 t228)) (fun _ hk => hk.2) (.int .i64 t229)) (fun _ hk => hk.2) (.slice Ao40 t230.length co40)) (fun _ hk => ⟨hk.1.1.1.2, ⟨hk.1.1.2, hk.1.2⟩⟩)⟩, ⟨by (with_reducible repeat (fail)); exact Kd.R_mono (Kd.R_far (p := ⟨gb234, 2, none⟩) (Kd.R_far (p := ⟨gb234, 1, none⟩) (Kd.R_far (p := ⟨gb234, 0, none⟩) (Kd.R_types HO225.out BK234.out (by decide)) (fun _ hk => hk.2) (.int .i64 t228)) (fun _ hk => hk.2) (.int .i64 t229)) (fun _ hk => hk.2) (.slice Ao40 t230.length co40)) (fun _ hk => ⟨hk.1.1.1.2, ⟨hk.1.1.2, hk.1.2⟩⟩)⟩, ⟨by (with_reducible repeat (fail)); exact Kd.R_mono (Kd.R_far (p := ⟨gb234, 2, none⟩) (Kd.R_far (p := ⟨gb234, 1, none⟩) (Kd.R_far (p := ⟨gb234, 0, none⟩) (Kd.R_types HO232.out BK234.out (by decide)) (fun _ hk => hk.2) (.int .i64 t228)) (fun _ hk => hk.2) (.int .i64 t229)) (fun _ hk => hk.2) (.slice Ao40 t230.length co40)) (fun _ hk => ⟨hk.1.1.1.2, ⟨hk.1.1.2, hk.1.2⟩⟩)⟩, ⟨by (with_reducible repeat (fail)); refine blk_far ?_ NB201_234.out _; (with_reducible repeat (fail)); refine blk_far ?_ NB201_234.out _; (with_reducible repeat (fail)); refine blk_far ?_ NB201_234.out _; (with_reducible repeat (fail)); exact BK201.out⟩, ⟨by (with_reducible repeat (fail)); refine blk_far ?_ NB202_234.out _; (with_reducible repeat (fail)); refine blk_far ?_ NB202_234.out _; (with_reducible repeat (fail)); refine blk_far ?_ NB202_234.out _; (with_reducible repeat (fail)); exact BK202.out⟩, ⟨by (with_reducible repeat (fail)); refine blk_far ?_ NB227_234.out _; (with_reducible repeat (fail)); refine blk_far ?_ NB227_234.out _; (with_reducible repeat (fail)); refine blk_far ?_ NB227_234.out _; (with_reducible repeat (fail)); exact BK227.out⟩, ⟨by (with_reducible repeat (fail)); refine blk_put (cs := #[.int .i64 t228, .int .i64 t229, .slice none 0 0]) ?_ 2 _ rfl; (with_reducible repeat (fail)); refine blk_put (cs := #[.int .i64 t228, .int .i64 0, .slice none 0 0]) ?_ 1 _ rfl; (with_reducible repeat (fail)); refine blk_put (cs := #[.int .i64 0, .int .i64 0, .slice none 0 0]) ?_ 0 _ rfl; (with_reducible repeat (fail)); exact BK234.out⟩, ⟨by repeat ((with_reducible first | exact HB.out | refine below_set ?_ GE234.out))⟩⟩
              · rw [if_neg c46] at H
                have c46b0 : (t233 == 0) = false := beq_eq_false_iff_ne.mpr c46
                have c46b1 : (t233 != 0) = true := bne_iff_ne.mpr c46
                have H' := Aside0.mk H
                clear H
                go_wp2
                go_meet
                case rel => exact ⟨_, (true), (by rfl), H', ⟨by omega⟩, ⟨by (with_reducible repeat (fail)); exact Kd.R_mono (Kd.R_far (p := ⟨gb234, 2, none⟩) (Kd.R_far (p := ⟨gb234, 1, none⟩) (Kd.R_far (p := ⟨gb234, 0, none⟩) (Kd.R_types HO208.out BK234.out (by decide)) (fun _ hk => hk.2) (.int .i64 t228)) (fun _ hk => hk.2) (.int .i64 t229)) (fun _ hk => hk.2) (.slice Ao40 t230.length co40)) (fun _ hk => trivial)⟩, ⟨by (with_reducible repeat (fail)); exact Kd.R_mono (Kd.R_far (p := ⟨gb234, 2, none⟩) (Kd.R_far (p := ⟨gb234, 1, none⟩) (Kd.R_far (p := ⟨gb234, 0, none⟩) (Kd.R_types HO195.out BK234.out (by decide)) (fun _ hk => hk.2) (.int .i64 t228)) (fun _ hk => hk.2) (.int .i64 t229)) (fun _ hk => hk.2) (.slice Ao40 t230.length co40)) (fun _ hk => ⟨hk.1.1.1.2, ⟨hk.1.1.2, hk.1.2⟩⟩)⟩, ⟨by (with_reducible repeat (fail)); exact Kd.R_mono (Kd.R_far (p := ⟨gb234, 2, none⟩) (Kd.R_far (p := ⟨gb234, 1, none⟩) (Kd.R_far (p := ⟨gb234, 0, none⟩) (Kd.R_types HO200.out BK234.out (by decide)) (fun _ hk => hk.2) (.int .i64 t228)) (fun _ hk => hk.2) (.int .i64 t229)) (fun _ hk => hk.2) (.slice Ao40 t230.length co40)) (fun _ hk => ⟨hk.1.1.1.2, ⟨hk.1.1.2, hk.1.2⟩⟩)⟩, ⟨by (with_reducible repeat (fail)); exact Kd.R_mono (Kd.R_far (p := ⟨gb234, 2, none⟩) (Kd.R_far (p := ⟨gb234, 1, none⟩) (Kd.R_far (p := ⟨gb234, 0, none⟩) (Kd.R_types HO225.out BK234.out (by decide)) (fun _ hk => hk.2) (.int .i64 t228)) (fun _ hk => hk.2) (.int .i64 t229)) (fun _ hk => hk.2) (.slice Ao40 t230.length co40)) (fun _ hk => ⟨hk.1.1.1.2, ⟨hk.1.1.2, hk.1.2⟩⟩)⟩, ⟨by (with_reducible repeat (fail)); exact Kd.R_mono (Kd.R_far (p := ⟨gb234, 2, none⟩) (Kd.R_far (p := ⟨gb234, 1, none⟩) (Kd.R_far (p := ⟨gb234, 0, none⟩) (Kd.R_types HO232.out BK234.out (by decide)) (fun _ hk => hk.2) (.int .i64 t228)) (fun _ hk => hk.2) (.int .i64 t229)) (fun _ hk => hk.2) (.slice Ao40 t230.length co40)) (fun _ hk => ⟨hk.1.1.1.2, ⟨hk.1.1.2, hk.1.2⟩⟩)⟩, ⟨by (with_reducible repeat (fail)); refine blk_far ?_ NB201_234.out _; (with_reducible repeat (fail)); refine blk_far ?_ NB201_234.out _; (with_reducible repeat (fail)); refine blk_far ?_ NB201_234.out _; (with_reducible repeat (fail)); exact BK201.out⟩, ⟨by (with_reducible repeat (fail)); refine blk_far ?_ NB202_234.out _; (with_reducible repeat (fail)); refine blk_far ?_ NB202_234.out _; (with_reducible repeat (fail)); refine blk_far ?_ NB202_234.out _; (with_reducible repeat (fail)); exact BK202.out⟩, ⟨by (with_reducible repeat (fail)); refine blk_far ?_ NB227_234.out _; (with_reducible repeat (fail)); refine blk_far ?_ NB227_234.out _; (with_reducible repeat (fail)); refine blk_far ?_ NB227_234.out _; (with_reducible repeat (fail)); exact BK227.out⟩, ⟨by (with_reducible repeat (fail)); refine blk_put (cs := #[.int .i64 t228, .int .i64 t229, .slice none 0 0]) ?_ 2 _ rfl; (with_reducible repeat (fail)); refine blk_put (cs := #[.int .i64 t228, .int .i64 0, .slice none 0 0]) ?_ 1 _ rfl; (with_reducible repeat (fail)); refine blk_put (cs := #[.int .i64 0, .int .i64 0, .slice none 0 0]) ?_ 0 _ rfl; (with_reducible repeat (fail)); exact BK234.out⟩, ⟨by repeat ((with_reducible first | exact HB.out | refine below_set ?_ GE234.out))⟩⟩
            · rw [if_neg c45] at H
              have c45b0 : (t226 == 0) = false := beq_eq_false_iff_ne.mpr c45
              have c45b1 : (t226 != 0) = true := bne_iff_ne.mpr c45
              have H' := Aside0.mk H
              clear H
              go_wp2
              go_meet
              case rel => exact ⟨_, (true), (by rfl), H', ⟨by omega⟩, ⟨by (with_reducible repeat (fail)); exact Kd.R_mono (Kd.R_far (p := ⟨gb234, 2, none⟩) (Kd.R_far (p := ⟨gb234, 1, none⟩) (Kd.R_far (p := ⟨gb234, 0, none⟩) (Kd.R_types HO208.out BK234.out (by decide)) (fun _ hk => hk.2) (.int .i64 t228)) (fun _ hk => hk.2) (.int .i64 t229)) (fun _ hk => hk.2) (.slice Ao40 t230.length co40)) (fun _ hk => trivial)⟩, ⟨by (with_reducible repeat (fail)); exact Kd.R_mono (Kd.R_far (p := ⟨gb234, 2, none⟩) (Kd.R_far (p := ⟨gb234, 1, none⟩) (Kd.R_far (p := ⟨gb234, 0, none⟩) (Kd.R_types HO195.out BK234.out (by decide)) (fun _ hk => hk.2) (.int .i64 t228)) (fun _ hk => hk.2) (.int .i64 t229)) (fun _ hk => hk.2) (.slice Ao40 t230.length co40)) (fun _ hk => ⟨hk.1.1.1.2, ⟨hk.1.1.2, hk.1.2⟩⟩)⟩, ⟨by (with_reducible repeat (fail)); exact Kd.R_mono (Kd.R_far (p := ⟨gb234, 2, none⟩) (Kd.R_far (p := ⟨gb234, 1, none⟩) (Kd.R_far (p := ⟨gb234, 0, none⟩) (Kd.R_types HO200.out BK234.out (by decide)) (fun _ hk => hk.2) (.int .i64 t228)) (fun _ hk => hk.2) (.int .i64 t229)) (fun _ hk => hk.2) (.slice Ao40 t230.length co40)) (fun _ hk => ⟨hk.1.1.1.2, ⟨hk.1.1.2, hk.1.2⟩⟩)⟩, ⟨by (with_reducible repeat (fail)); exact Kd.R_mono (Kd.R_far (p := ⟨gb234, 2, none⟩) (Kd.R_far (p := ⟨gb234, 1, none⟩) (Kd.R_far (p := ⟨gb234, 0, none⟩) (Kd.R_types HO225.out BK234.out (by decide)) (fun _ hk => hk.2) (.int .i64 t228)) (fun _ hk => hk.2) (.int .i64 t229)) (fun _ hk => hk.2) (.slice Ao40 t230.length co40)) (fun _ hk => ⟨hk.1.1.1.2, ⟨hk.1.1.2, hk.1.2⟩⟩)⟩, ⟨by (with_reducible repeat (fail)); exact Kd.R_mono (Kd.R_far (p := ⟨gb234, 2, none⟩) (Kd.R_far (p := ⟨gb234, 1, none⟩) (Kd.R_far (p := ⟨gb234, 0, none⟩) (Kd.R_types HO232.out BK234.out (by decide)) (fun _ hk => hk.2) (.int .i64 t228)) (fun _ hk => hk.2) (.int .i64 t229)) (fun _ hk => hk.2) (.slice Ao40 t230.length co40)) (fun _ hk => ⟨hk.1.1.1.2, ⟨hk.1.1.2, hk.1.2⟩⟩)⟩, ⟨by (with_reducible repeat (fail)); refine blk_far ?_ NB201_234.out _; (with_reducible repeat (fail)); refine blk_far ?_ NB201_234.out _; (with_reducible repeat (fail)); refine blk_far ?_ NB201_234.out _; (with_reducible repeat (fail)); exact BK201.out⟩, ⟨by (with_reducible repeat (fail)); refine blk_far ?_ NB202_234.out _; (with_reducible repeat (fail)); refine blk_far ?_ NB202_234.out _; (with_reducible repeat (fail)); refine blk_far ?_ NB202_234.out _; (with_reducible repeat (fail)); exact BK202.out⟩, ⟨by (with_reducible repeat (fail)); refine blk_far ?_ NB227_234.out _; (with_reducible repeat (fail)); refine blk_far ?_ NB227_234.out _; (with_reducible repeat (fail)); refine blk_far ?_ NB227_234.out _; (with_reducible repeat (fail)); exact BK227.out⟩, ⟨by (with_reducible repeat (fail)); refine blk_put (cs := #[.int .i64 t228, .int .i64 t229, .slice none 0 0]) ?_ 2 _ rfl; (with_reducible repeat (fail)); refine blk_put (cs := #[.int .i64 t228, .int .i64 0, .slice none 0 0]) ?_ 1 _ rfl; (with_reducible repeat (fail)); refine blk_put (cs := #[.int .i64 0, .int .i64 0, .slice none 0 0]) ?_ 0 _ rfl; (with_reducible repeat (fail)); exact BK234.out⟩, ⟨by repeat ((with_reducible first | exact HB.out | refine below_set ?_ GE234.out))⟩⟩
          · rw [if_neg c44] at H
            have c44b0 : (t220 == 0) = false := beq_eq_false_iff_ne.mpr c44
            have c44b1 : (t220 != 0) = true := bne_iff_ne.mpr c44
            have H' := Aside0.mk H
            clear H
            go_wp2
            go_meet
            case rel => exact ⟨_, (true), (by rfl), H', ⟨by omega⟩, ⟨by (with_reducible repeat (fail)); exact Kd.R_mono (Kd.R_far (p := ⟨gb234, 2, none⟩) (Kd.R_far (p := ⟨gb234, 1, none⟩) (Kd.R_far (p := ⟨gb234, 0, none⟩) (Kd.R_types HO208.out BK234.out (by decide)) (fun _ hk => hk.2) (.int .i64 t228)) (fun _ hk => hk.2) (.int .i64 t229)) (fun _ hk => hk.2) (.slice Ao40 t230.length co40)) (fun _ hk => trivial)⟩, ⟨by (with_reducible repeat (fail)); exact Kd.R_mono (Kd.R_far (p := ⟨gb234, 2, none⟩) (Kd.R_far (p := ⟨gb234, 1, none⟩) (Kd.R_far (p := ⟨gb234, 0, none⟩) (Kd.R_types HO195.out BK234.out (by decide)) (fun _ hk => hk.2) (.int .i64 t228)) (fun _ hk => hk.2) (.int .i64 t229)) (fun _ hk => hk.2) (.slice Ao40 t230.length co40)) (fun _ hk => ⟨hk.1.1.1.2, ⟨hk.1.1.2, hk.1.2⟩⟩)⟩, ⟨by (with_reducible repeat (fail)); exact Kd.R_mono (Kd.R_far (p := ⟨gb234, 2, none⟩) (Kd.R_far (p := ⟨gb234, 1, none⟩) (Kd.R_far (p := ⟨gb234, 0, none⟩) (Kd.R_types HO200.out BK234.out (by decide)) (fun _ hk => hk.2) (.int .i64 t228)) (fun _ hk => hk.2) (.int .i64 t229)) (fun _ hk => hk.2) (.slice Ao40 t230.length co40)) (fun _ hk => ⟨hk.1.1.1.2, ⟨hk.1.1.2, hk.1.2⟩⟩)⟩, ⟨by (with_reducible repeat (fail)); exact Kd.R_mono (Kd.R_far (p := ⟨gb234, 2, none⟩) (Kd.R_far (p := ⟨gb234, 1, none⟩) (Kd.R_far (p := ⟨gb234, 0, none⟩) (Kd.R_types HO225.out BK234.out (by decide)) (fun _ hk => hk.2) (.int .i64 t228)) (fun _ hk => hk.2) (.int .i64 t229)) (fun _ hk => hk.2) (.slice Ao40 t230.length co40)) (fun _ hk => ⟨hk.1.1.1.2, ⟨hk.1.1.2, hk.1.2⟩⟩)⟩, ⟨by (with_reducible repeat (fail)); exact Kd.R_mono (Kd.R_far (p := ⟨gb234, 2, none⟩) (Kd.R_far (p := ⟨gb234, 1, none⟩) (Kd.R_far (p := ⟨gb234, 0, none⟩) (Kd.R_types HO232.out BK234.out (by decide)) (fun _ hk => hk.2) (.int .i64 t228)) (fun _ hk => hk.2) (.int .i64 t229)) (fun _ hk => hk.2) (.slice Ao40 t230.length co40)) (fun _ hk => ⟨hk.1.1.1.2, ⟨hk.1.1.2, hk.1.2⟩⟩)⟩, ⟨by (with_reducible repeat (fail)); refine blk_far ?_ NB201_234.out _; (with_reducible repeat (fail)); refine blk_far ?_ NB201_234.out _; (with_reducible repeat (fail)); refine blk_far ?_ NB201_234.out _; (with_reducible repeat (fail)); exact BK201.out⟩, ⟨by (with_reducible repeat (fail)); refine blk_far ?_ NB202_234.out _; (with_reducible repeat (fail)); refine blk_far ?_ NB202_234.out _; (with_reducible repeat (fail)); refine blk_far ?_ NB202_234.out _; (with_reducible repeat (fail)); exact BK202.out⟩, ⟨by (with_reducible repeat (fail)); refine blk_far ?_ NB227_234.out _; (with_reducible repeat (fail)); refine blk_far ?_ NB227_234.out _; (with_reducible repeat (fail)); refine blk_far ?_ NB227_234.out _; (with_reducible repeat (fail)); exact BK227.out⟩, ⟨by (with_reducible repeat (fail)); refine blk_put (cs := #[.int .i64 t228, .int .i64 t229, .slice none 0 0]) ?_ 2 _ rfl; (with_reducible repeat (fail)); refine blk_put (cs := #[.int .i64 t228, .int .i64 0, .slice none 0 0]) ?_ 1 _ rfl; (with_reducible repeat (fail)); refine blk_put (cs := #[.int .i64 0, .int .i64 0, .slice none 0 0]) ?_ 0 _ rfl; (with_reducible repeat (fail)); exact BK234.out⟩, ⟨by repeat ((with_reducible first | exact HB.out | refine below_set ?_ GE234.out))⟩⟩
        · rw [if_neg c43] at H
          have c43b0 : (t218 == 0) = false := beq_eq_false_iff_ne.mpr c43
          have c43b1 : (t218 != 0) = true := bne_iff_ne.mpr c43
          have H' := Aside0.mk H
          clear H
          go_wp2
          go_meet
          case rel => exact ⟨_, (true), (by rfl), H', ⟨by omega⟩, ⟨by (with_reducible repeat (fail)); exact Kd.R_mono (Kd.R_far (p := ⟨gb234, 2, none⟩) (Kd.R_far (p := ⟨gb234, 1, none⟩) (Kd.R_far (p := ⟨gb234, 0, none⟩) (Kd.R_types HO208.out BK234.out (by decide)) (fun _ hk => hk.2) (.int .i64 t228)) (fun _ hk => hk.2) (.int .i64 t229)) (fun _ hk => hk.2) (.slice Ao40 t230.length co40)) (fun _ hk => trivial)⟩, ⟨by (with_reducible repeat (fail)); exact Kd.R_mono (Kd.R_far (p := ⟨gb234, 2, none⟩) (Kd.R_far (p := ⟨gb234, 1, none⟩) (Kd.R_far (p := ⟨gb234, 0, none⟩) (Kd.R_types HO195.out BK234.out (by decide)) (fun _ hk => hk.2) (.int .i64 t228)) (fun _ hk => hk.2) (.int .i64 t229)) (fun _ hk => hk.2) (.slice Ao40 t230.length co40)) (fun _ hk => ⟨hk.1.1.1.2, ⟨hk.1.1.2, hk.1.2⟩⟩)⟩, ⟨by (with_reducible repeat (fail)); exact Kd.R_mono (Kd.R_far (p := ⟨gb234, 2, none⟩) (Kd.R_far (p := ⟨gb234, 1, none⟩) (Kd.R_far (p := ⟨gb234, 0, none⟩) (Kd.R_types HO200.out BK234.out (by decide)) (fun _ hk => hk.2) (.int .i64 t228)) (fun _ hk => hk.2) (.int .i64 t229)) (fun _ hk => hk.2) (.slice Ao40 t230.length co40)) (fun _ hk => ⟨hk.1.1.1.2, ⟨hk.1.1.2, hk.1.2⟩⟩)⟩, ⟨by (with_reducible repeat (fail)); exact Kd.R_mono (Kd.R_far (p := ⟨gb234, 2, none⟩) (Kd.R_far (p := ⟨gb234, 1, none⟩) (Kd.R_far (p := ⟨gb234, 0, none⟩) (Kd.R_types HO225.out BK234.out (by decide)) (fun _ hk => hk.2) (.int .i64 t228)) (fun _ hk => hk.2) (.int .i64 t229)) (fun _ hk => hk.2) (.slice Ao40 t230.length co40)) (fun _ hk => ⟨hk.1.1.1.2, ⟨hk.1.1.2, hk.1.2⟩⟩)⟩, ⟨by (with_reducible repeat (fail)); exact Kd.R_mono (Kd.R_far (p := ⟨gb234, 2, none⟩) (Kd.R_far (p := ⟨gb234, 1, none⟩) (Kd.R_far (p := ⟨gb234, 0, none⟩) (Kd.R_types HO232.out BK234.out (by decide)) (fun _ hk => hk.2) (.int .i64 t228)) (fun _ hk => hk.2) (.int .i64 t229)) (fun _ hk => hk.2) (.slice Ao40 t230.length co40)) (fun _ hk => ⟨hk.1.1.1.2, ⟨hk.1.1.2, hk.1.2⟩⟩)⟩, ⟨by (with_reducible repeat (fail)); refine blk_far ?_ NB201_234.out _; (with_reducible repeat (fail)); refine blk_far ?_ NB201_234.out _; (with_reducible repeat (fail)); refine blk_far ?_ NB201_234.out _; (with_reducible repeat (fail)); exact BK201.out⟩, ⟨by (with_reducible repeat (fail)); refine blk_far ?_ NB202_234.out _; (with_reducible repeat (fail)); refine blk_far ?_ NB202_234.out _; (with_reducible repeat (fail)); refine blk_far ?_ NB202_234.out _; (with_reducible repeat (fail)); exact BK202.out⟩, ⟨by (with_reducible repeat (fail)); refine blk_far ?_ NB227_234.out _; (with_reducible repeat (fail)); refine blk_far ?_ NB227_234.out _; (with_reducible repeat (fail)); refine blk_far ?_ NB227_234.out _; (with_reducible repeat (fail)); exact BK227.out⟩, ⟨by (with_reducible repeat (fail)); refine blk_put (cs := #[.int .i64 t228, .int .i64 t229, .slice none 0 0]) ?_ 2 _ rfl; (with_reducible repeat (fail)); refine blk_put (cs := #[.int .i64 t228, .int .i64 0, .slice none 0 0]) ?_ 1 _ rfl; (with_reducible repeat (fail)); refine blk_put (cs := #[.int .i64 0, .int .i64 0, .slice none 0 0]) ?_ 0 _ rfl; (with_reducible repeat (fail)); exact BK234.out⟩, ⟨by repeat ((with_reducible first | exact HB.out | refine below_set ?_ GE234.out))⟩⟩
      · rw [if_neg c42] at H
        have c42b0 : (t216 == 0) = false := beq_eq_false_iff_ne.mpr c42
        have c42b1 : (t216 != 0) = true := bne_iff_ne.mpr c42
        have H' := Aside0.mk H
        clear H
        go_wp2
        go_meet
        case rel => exact ⟨_, (true), (by rfl), H', ⟨by omega⟩, ⟨by (with_reducible repeat (fail)); exact Kd.R_mono (Kd.R_far (p := ⟨gb234, 2, none⟩) (Kd.R_far (p := ⟨gb234, 1, none⟩) (Kd.R_far (p := ⟨gb234, 0, none⟩) (Kd.R_types HO208.out BK234.out (by decide)) (fun _ hk => hk.2) (.int .i64 t228)) (fun _ hk => hk.2) (.int .i64 t229)) (fun _ hk => hk.2) (.slice Ao40 t230.length co40)) (fun _ hk => trivial)⟩, ⟨by (with_reducible repeat (fail)); exact Kd.R_mono (Kd.R_far (p := ⟨gb234, 2, none⟩) (Kd.R_far (p := ⟨gb234, 1, none⟩) (Kd.R_far (p := ⟨gb234, 0, none⟩) (Kd.R_types HO195.out BK234.out (by decide)) (fun _ hk => hk.2) (.int .i64 t228)) (fun _ hk => hk.2) (.int .i64 t229)) (fun _ hk => hk.2) (.slice Ao40 t230.length co40)) (fun _ hk => ⟨hk.1.1.1.2, ⟨hk.1.1.2, hk.1.2⟩⟩)⟩, ⟨by (with_reducible repeat (fail)); exact Kd.R_mono (Kd.R_far (p := ⟨gb234, 2, none⟩) (Kd.R_far (p := ⟨gb234, 1, none⟩) (Kd.R_far (p := ⟨gb234, 0, none⟩) (Kd.R_types HO200.out BK234.out (by decide)) (fun _ hk => hk.2) (.int .i64 t228)) (fun _ hk => hk.2) (.int .i64 t229)) (fun _ hk => hk.2) (.slice Ao40 t230.length co40)) (fun _ hk => ⟨hk.1.1.1.2, ⟨hk.1.1.2, hk.1.2⟩⟩)⟩, ⟨by (with_reducible repeat (fail)); exact Kd.R_mono (Kd.R_far (p := ⟨gb234, 2, none⟩) (Kd.R_far (p := ⟨gb234, 1, none⟩) (Kd.R_far (p := ⟨gb234, 0, none⟩) (Kd.R_types HO225.out BK234.out (by decide)) (fun _ hk => hk.2) (.int .i64 t228)) (fun _ hk => hk.2) (.int .i64 t229)) (fun _ hk => hk.2) (.slice Ao40 t230.length co40)) (fun _ hk => ⟨hk.1.1.1.2, ⟨hk.1.1.2, hk.1.2⟩⟩)⟩, ⟨by (with_reducible repeat (fail)); exact Kd.R_mono (Kd.R_far (p := ⟨gb234, 2, none⟩) (Kd.R_far (p := ⟨gb234, 1, none⟩) (Kd.R_far (p := ⟨gb234, 0, none⟩) (Kd.R_types HO232.out BK234.out (by decide)) (fun _ hk => hk.2) (.int .i64 t228)) (fun _ hk => hk.2) (.int .i64 t229)) (fun _ hk => hk.2) (.slice Ao40 t230.length co40)) (fun _ hk => ⟨hk.1.1.1.2, ⟨hk.1.1.2, hk.1.2⟩⟩)⟩, ⟨by (with_reducible repeat (fail)); refine blk_far ?_ NB201_234.out _; (with_reducible repeat (fail)); refine blk_far ?_ NB201_234.out _; (with_reducible repeat (fail)); refine blk_far ?_ NB201_234.out _; (with_reducible repeat (fail)); exact BK201.out⟩, ⟨by (with_reducible repeat (fail)); refine blk_far ?_ NB202_234.out _; (with_reducible repeat (fail)); refine blk_far ?_ NB202_234.out _; (with_reducible repeat (fail)); refine blk_far ?_ NB202_234.out _; (with_reducible repeat (fail)); exact BK202.out⟩, ⟨by (with_reducible repeat (fail)); refine blk_far ?_ NB227_234.out _; (with_reducible repeat (fail)); refine blk_far ?_ NB227_234.out _; (with_reducible repeat (fail)); refine blk_far ?_ NB227_234.out _; (with_reducible repeat (fail)); exact BK227.out⟩, ⟨by (with_reducible repeat (fail)); refine blk_put (cs := #[.int .i64 t228, .int .i64 t229, .slice none 0 0]) ?_ 2 _ rfl; (with_reducible repeat (fail)); refine blk_put (cs := #[.int .i64 t228, .int .i64 0, .slice none 0 0]) ?_ 1 _ rfl; (with_reducible repeat (fail)); refine blk_put (cs := #[.int .i64 0, .int .i64 0, .slice none 0 0]) ?_ 0 _ rfl; (with_reducible repeat (fail)); exact BK234.out⟩, ⟨by repeat ((with_reducible first | exact HB.out | refine below_set ?_ GE234.out))⟩⟩
    · rw [if_neg c41] at H
      have c41b0 : (t209 == 0) = false := beq_eq_false_iff_ne.mpr c41
      have c41b1 : (t209 != 0) = true := bne_iff_ne.mpr c41
      (skip)
      have H' := Aside0.mk H
      clear H
      go_wp2
      go_meet
      case rel => exact ⟨_, (true), (by rfl), H', ⟨by omega⟩, ⟨by (with_reducible repeat (fail)); exact Kd.R_mono (Kd.R_far (p := ⟨gb234, 2, none⟩) (Kd.R_far (p := ⟨gb234, 1, none⟩) (Kd.R_far (p := ⟨gb234, 0, none⟩) (Kd.R_types HO208.out BK234.out (by decide)) (fun _ hk => hk.2) (.int .i64 t228)) (fun _ hk => hk.2) (.int .i64 t229)) (fun _ hk => hk.2) (.slice Ao40 t230.length co40)) (fun _ hk => trivial)⟩, ⟨by (with_reducible repeat (fail)); exact Kd.R_mono (Kd.R_far (p := ⟨gb234, 2, none⟩) (Kd.R_far (p := ⟨gb234, 1, none⟩) (Kd.R_far (p := ⟨gb234, 0, none⟩) (Kd.R_types HO195.out BK234.out (by decide)) (fun _ hk => hk.2) (.int .i64 t228)) (fun _ hk => hk.2) (.int .i64 t229)) (fun _ hk => hk.2) (.slice Ao40 t230.length co40)) (fun _ hk => ⟨hk.1.1.1.2, ⟨hk.1.1.2, hk.1.2⟩⟩)⟩, ⟨by (with_reducible repeat (fail)); exact Kd.R_mono (Kd.R_far (p := ⟨gb234, 2, none⟩) (Kd.R_far (p := ⟨gb234, 1, none⟩) (Kd.R_far (p := ⟨gb234, 0, none⟩) (Kd.R_types HO200.out BK234.out (by decide)) (fun _ hk => hk.2) (.int .i64 t228)) (fun _ hk => hk.2) (.int .i64 t229)) (fun _ hk => hk.2) (.slice Ao40 t230.length co40)) (fun _ hk => ⟨hk.1.1.1.2, ⟨hk.1.1.2, hk.1.2⟩⟩)⟩, ⟨by (with_reducible repeat (fail)); exact Kd.R_mono (Kd.R_far (p := ⟨gb234, 2, none⟩) (Kd.R_far (p := ⟨gb234, 1, none⟩) (Kd.R_far (p := ⟨gb234, 0, none⟩) (Kd.R_types HO225.out BK234.out (by decide)) (fun _ hk => hk.2) (.int .i64 t228)) (fun _ hk => hk.2) (.int .i64 t229)) (fun _ hk => hk.2) (.slice Ao40 t230.length co40)) (fun _ hk => ⟨hk.1.1.1.2, ⟨hk.1.1.2, hk.1.2⟩⟩)⟩, ⟨by (with_reducible repeat (fail)); exact Kd.R_mono (Kd.R_far (p := ⟨gb234, 2, none⟩) (Kd.R_far (p := ⟨gb234, 1, none⟩) (Kd.R_far (p := ⟨gb234, 0, none⟩) (Kd.R_types HO232.out BK234.out (by decide)) (fun _ hk => hk.2) (.int .i64 t228)) (fun _ hk => hk.2) (.int .i64 t229)) (fun _ hk => hk.2) (.slice Ao40 t230.length co40)) (fun _ hk => ⟨hk.1.1.1.2, ⟨hk.1.1.2, hk.1.2⟩⟩)⟩, ⟨by (with_reducible repeat (fail)); refine blk_far ?_ NB201_234.out _; (with_reducible repeat (fail)); refine blk_far ?_ NB201_234.out _; (with_reducible repeat (fail)); refine blk_far ?_ NB201_234.out _; (with_reducible repeat (fail)); exact BK201.out⟩, ⟨by (with_reducible repeat (fail)); refine blk_far ?_ NB202_234.out _; (with_reducible repeat (fail)); refine blk_far ?_ NB202_234.out _; (with_reducible repeat (fail)); refine blk_far ?_ NB202_234.out _; (with_reducible repeat (fail)); exact BK202.out⟩, ⟨by (with_reducible repeat (fail)); refine blk_far ?_ NB227_234.out _; (with_reducible repeat (fail)); refine blk_far ?_ NB227_234.out _; (with_reducible repeat (fail)); refine blk_far ?_ NB227_234.out _; (with_reducible repeat (fail)); exact BK227.out⟩, ⟨by (with_reducible repeat (fail)); refine blk_put (cs := #[.int .i64 t228, .int .i64 t229, .slice none 0 0]) ?_ 2 _ rfl; (with_reducible repeat (fail)); refine blk_put (cs := #[.int .i64 t228, .int .i64 0, .slice none 0 0]) ?_ 1 _ rfl; (with_reducible repeat (fail)); refine blk_put (cs := #[.int .i64 0, .int .i64 0, .slice none 0 0]) ?_ 0 _ rfl; (with_reducible repeat (fail)); exact BK234.out⟩, ⟨by repeat ((with_reducible first | exact HB.out | refine below_set ?_ GE234.out))⟩⟩
  case rest =>
    clear HC9 hcz15_0 hcz15_1 hcz15_2 hcz17_0 hcz17_1 hcz17_2 hcz20_0 hcz20_1 hcz20_2 hcz22_0 hcz22_1 hcz22_2 hcz24_0 hcz24_1 hcz24_2 hcz26_0 hcz26_1 hcz26_2 hcz31_0 hcz31_1 hcz31_2 hcz33_0 hcz33_1 hcz33_2 hcz39_0 hcz39_1 hcz39_2 hfz15_0 hfz15_1 hfz15_2 hfz17_0 hfz17_1 hfz17_2 hfz20_0 hfz20_1 hfz20_2 hfz22_0 hfz22_1 hfz22_2 hfz24_0 hfz24_1 hfz24_2 hfz26_0 hfz26_1 hfz26_2 hfz31_0 hfz31_1 hfz31_2 hfz33_0
    clear hfz33_1 hfz33_2 hfz39_0 hfz39_1 hfz39_2
    obtain ⟨kq, x90_8, rfl, HA, HJ8, HO_4, HO_202002, HO_203002, HO_228002, HO_235002, BK201, BK202, BK227, BK234, HB⟩ := hcut
    cases kq with
    | zero => exact absurd HA.out (by simp [exampleHolds0.j0])
    | succ kj8 =>
      have H := HA.out
      clear HA
      simp only [exampleHolds0.j0] at H
      by_cases c57 : x90_8 = true
      · subst c57
        have H1 : (some false) = some true := by rw [if_pos rfl] at H; exact H
        clear H
        have H := H1
        clear H1
        cases H
      · replace c57 := Bool.eq_false_iff.mpr c57
        subst c57
        have H1 : (if 0 < (t206.length : Int) then (if ((((rd_T38 t206 0).f0.f0) == 0 && (((rd_T38 t206 0).f0.f1) == 0 && (((rd_T38 t206 0).f0.f2) == 3 && (((rd_T38 t206 0).f0.f3) == 3)))) && (((rd_T38 t206 0).f1) == 5 && ((((rd_T38 t206 0).f2.f0) == 0 && (((rd_T38 t206 0).f2.f1) == 0))))) = true then ((barscanlaw38_bitmap.f kj8 3 3 (⟨#[49, 49, 49, 49, 49, 49, 49, 49, 49]⟩ : ByteArray)).bind fun bt236 => ((barscanref31_Equal.f kj8 t221 t222 t223 bt236.1 bt236.2.1 bt236.2.2).bind fun t241 => (if t241 = true then ((barscanlaw38_bitmap.f kj8 3 3 (⟨#[48, 48, 48, 48, 48, 48, 48, 48, 48]⟩ : ByteArray)).bind fun bt242 => ((barscanref31_Equal.f kj8 t228 t229 t230 bt242.1 bt242.2.1 bt242.2.2).bind fun t247 => (some t247))) else (some false)))) else (some false)) else (none)) = some true := by rw [if_neg (show ¬ (false = true) by decide)] at H; exact H
        clear H
        have H := H1
        clear H1
        by_cases c58 : 0 < (t206.length : Int)
        · rw [if_pos c58] at H
          have c58b0 : decide (0 < (t206.length : Int)) = true := decide_eq_true c58
          have c58b1 : decide (0 < t206.length) = true := decide_eq_true (by omega)
          clear c58
          by_cases c59 : ((((rd_T38 t206 0).f0.f0) == 0 && (((rd_T38 t206 0).f0.f1) == 0 && (((rd_T38 t206 0).f0.f2) == 3 && (((rd_T38 t206 0).f0.f3) == 3)))) && (((rd_T38 t206 0).f1) == 5 && ((((rd_T38 t206 0).f2.f0) == 0 && (((rd_T38 t206 0).f2.f1) == 0))))) = true
          · rw [if_pos c59] at H
            have c59b0 : ((((rd_T38 t206 0).f0.f0) == 0 && (((rd_T38 t206 0).f0.f1) == 0 && (((rd_T38 t206 0).f0.f2) == 3 && (((rd_T38 t206 0).f0.f3) == 3)))) && (((rd_T38 t206 0).f1) == 5 && ((((rd_T38 t206 0).f2.f0) == 0 && (((rd_T38 t206 0).f2.f1) == 0))))) = true := c59
            clear c59
            replace H := Option.bind_eq_some_iff.mp H
            obtain ⟨⟨t236, t237, t238⟩, A600, H⟩ := H
            replace H : ((barscanref31_Equal.f kj8 t221 t222 t223 t236 t237 t238).bind fun t241 => (if t241 = true then ((barscanlaw38_bitmap.f kj8 3 3 (⟨#[48, 48, 48, 48, 48, 48, 48, 48, 48]⟩ : ByteArray)).bind fun bt242 => ((barscanref31_Equal.f kj8 t228 t229 t230 bt242.1 bt242.2.1 bt242.2.2).bind fun t247 => (some t247))) else (some false))) = some true := H
            have A60 := Aside0.mk A600
            clear A600
            replace H := Option.bind_eq_some_iff.mp H
            obtain ⟨t241, A610, H⟩ := H
            replace H : (if t241 = true then ((barscanlaw38_bitmap.f kj8 3 3 (⟨#[48, 48, 48, 48, 48, 48, 48, 48, 48]⟩ : ByteArray)).bind fun bt242 => ((barscanref31_Equal.f kj8 t228 t229 t230 bt242.1 bt242.2.1 bt242.2.2).bind fun t247 => (some t247))) else (some false)) = some true := H
            have A61 := Aside0.mk A610
            clear A610
            by_cases c62 : t241 = true
            · subst c62
              have H1 : ((barscanlaw38_bitmap.f kj8 3 3 (⟨#[48, 48, 48, 48, 48, 48, 48, 48, 48]⟩ : ByteArray)).bind fun bt242 => ((barscanref31_Equal.f kj8 t228 t229 t230 bt242.1 bt242.2.1 bt242.2.2).bind fun t247 => (some t247))) = some true := by rw [if_pos rfl] at H; exact H
              clear H
              have H := H1
              clear H1
              replace H := Option.bind_eq_some_iff.mp H
              obtain ⟨⟨t242, t243, t244⟩, A630, H⟩ := H
              replace H : ((barscanref31_Equal.f kj8 t228 t229 t230 t242 t243 t244).bind fun t247 => (some t247)) = some true := H
              have A63 := Aside0.mk A630
              clear A630
              replace H := Option.bind_eq_some_iff.mp H
              obtain ⟨t247, A640, H⟩ := H
              replace H : (some t247) = some true := H
              have A64 := Aside0.mk A640
              clear A640
              (obtain rfl := Option.some.inj H)
              try go_wp2
              have n0_ := Aside0.mk (Kd.R_drew HO_4.out)
              have n1_ := Aside0.mk (Kd.R_drew HO_202002.out)
              have n2_ := Aside0.mk (Kd.R_drew HO_203002.out)
              have n3_ := Aside0.mk (Kd.R_drew HO_228002.out)
              have n4_ := Aside0.mk (Kd.R_drew HO_235002.out)
              have n5_ := Aside0.mk (blk_drew BK201.out)
              have n6_ := Aside0.mk (blk_drew BK202.out)
              have n7_ := Aside0.mk (blk_drew BK227.out)
              have n8_ := Aside0.mk (blk_drew BK234.out)
              have n9_ := Aside0.mk (below_drew1 HB.out)
              clear HO_4 HO_202002 HO_203002 HO_228002 HO_235002 BK201 BK202 BK227 BK234 HB
              have HO_4 := n0_
              have HO_202002 := n1_
              have HO_203002 := n2_
              have HO_228002 := n3_
              have HO_235002 := n4_
              have BK201 := n5_
              have BK202 := n6_
              have BK227 := n7_
              have BK234 := n8_
              have HB := n9_
              clear n0_ n1_ n2_ n3_ n4_ n5_ n6_ n7_ n8_ n9_
              obtain ⟨Ao66, co66, eo66⟩ := Kd.R_slice HO_4.out
              (subst eo66)
              have p235 : 0 ≤ (0 : Int) := (by omega)
              have q235 : 0 < (t206.length : Int) := of_decide_eq_true (by (with_reducible assumption))
              obtain ⟨ad235, e235, hx235_0, hx235_1, hx235_2, hx235_3, hx235_4, hx235_5, hx235_6⟩ := at_T38 (Kd.R_reads' HO_4.out).2.2 0 p235 q235
              cases e235
              have qi235 : (0 < t206.length) = True := eq_true (by omega)
              (try rw [show ((0 : Int)).toNat = 0 from rfl] at hx235_0)
              (try rw [show 0 * 7 = 0 from rfl] at hx235_0)
              (try rw [Addr.add_zero'] at hx235_0)
              (try rw [show ((0 : Int)).toNat = 0 from rfl] at hx235_1)
              (try rw [show 0 * 7 = 0 from rfl] at hx235_1)
              (try rw [Addr.add_zero'] at hx235_1)
              (try rw [show ((0 : Int)).toNat = 0 from rfl] at hx235_2)
              (try rw [show 0 * 7 = 0 from rfl] at hx235_2)
              (try rw [Addr.add_zero'] at hx235_2)
              (try rw [show ((0 : Int)).toNat = 0 from rfl] at hx235_3)
              (try rw [show 0 * 7 = 0 from rfl] at hx235_3)
              (try rw [Addr.add_zero'] at hx235_3)
              (try rw [show ((0 : Int)).toNat = 0 from rfl] at hx235_4)
              (try rw [show 0 * 7 = 0 from rfl] at hx235_4)
              (try rw [Addr.add_zero'] at hx235_4)
              (try rw [show ((0 : Int)).toNat = 0 from rfl] at hx235_5)
              (try rw [show 0 * 7 = 0 from rfl] at hx235_5)
              (try rw [Addr.add_zero'] at hx235_5)
              (try rw [show ((0 : Int)).toNat = 0 from rfl] at hx235_6)
              (try rw [show 0 * 7 = 0 from rfl] at hx235_6)
              (try rw [Addr.add_zero'] at hx235_6)
              replace p235 := eq_true p235
              replace q235 := eq_true q235
              refine start_ (n := 17) (S := fun w' => w'.cell? ⟨gb227, 0, none⟩ = some (.int .i64 t221) ∧ w'.cell? ⟨gb227, 1, none⟩ = some (.int .i64 t222) ∧ w'.cell? ⟨gb227, 2, none⟩ = some (.slice Ao32 t223.length co32) ∧ w'.cell? ⟨gb234, 0, none⟩ = some (.int .i64 t228) ∧ w'.cell? ⟨gb234, 1, none⟩ = some (.int .i64 t229) ∧ w'.cell? ⟨gb234, 2, none⟩ = some (.slice Ao40 t230.length co40) ∧ w'.cell? ad235 = some (.int .i64 ((rd_T38 t206 0).f0.f0)) ∧ w'.cell? ⟨ad235.block, ad235.off + 1, none⟩ = some (.int .i64 ((rd_T38 t206 0).f0.f1)) ∧ w'.cell? ⟨ad235.block, ad235.off + 2, none⟩ = some (.int .i64 ((rd_T38 t206 0).f0.f2)) ∧ w'.cell? ⟨ad235.block, ad235.off + 3, none⟩ = some (.int .i64 ((rd_T38 t206 0).f0.f3)) ∧ w'.cell? ⟨ad235.block, ad235.off + 4, none⟩ = some (.int .i64 ((rd_T38 t206 0).f1)) ∧ w'.cell? ⟨ad235.block, ad235.off + 5, none⟩ = some (.int .i64 ((rd_T38 t206 0).f2.f0)) ∧ w'.cell? ⟨ad235.block, ad235.off + 6, none⟩ = some (.int .i64 ((rd_T38 t206 0).f2.f1))) (ds := []) #[false, false, false, false, false, false, false, false, false, false, false, false, false, false, false, false, false] (by kernel_rfl) rfl rfl ⟨(blk_cell BK227.out 0).trans rfl, (blk_cell BK227.out 1).trans rfl, (blk_cell BK227.out 2).trans rfl, (blk_cell BK234.out 0).trans rfl, (blk_cell BK234.out 1).trans rfl, (blk_cell BK234.out 2).trans rfl, hx235_0, hx235_1, hx235_2, hx235_3, hx235_4, hx235_5, hx235_6⟩ (fun hHeld => ?_); refine with_tabW exampleHolds0.tab10 exampleHolds0.bits10 (fun HT_ HW_ => ?_)
              generalize wc.drew = w65 at HO_4 HO_202002 HO_203002 HO_228002 HO_235002 BK201 BK202 BK227 BK234 HB hx235_0 hx235_1 hx235_2 hx235_3 hx235_4 hx235_5 hx235_6 hHeld ⊢
              refine pure_ (i := 0) (N := some 91) (v := ?_) (a' := ?_) #[true, false, false, false, false, false, false, false, false, false, false, false, false, false, false, false, false] rfl rfl (any_of HT_.out (by kernel_rfl)) (fun _ _ _ h => h) (Or.inl ⟨by rfl, ?_⟩) ?_ ?_
              rotate_left
              · intro w'
                go_simp
                with_reducible rfl
              rotate_left
              · simp only [Zs]
                rfl
              refine pure_ (i := 1) (N := some 92) (v := ?_) (a' := ?_) #[true, true, false, false, false, false, false, false, false, false, false, false, false, false, false, false, false] rfl rfl (any_of HT_.out (by kernel_rfl)) (fun _ _ _ h => h) (Or.inl ⟨by rfl, ?_⟩) ?_ ?_
              rotate_left
              · intro w'
                go_simp
                with_reducible rfl
              rotate_left
              · simp only [Zs]
                rfl
              refine pure_ (i := 3) (N := some 94) (v := ?_) (a' := ?_) #[true, true, false, true, false, false, false, false, false, false, false, false, false, false, false, false, false] rfl rfl (any_of HT_.out (by kernel_rfl)) (fun _ _ _ h => h) (Or.inl ⟨by rfl, ?_⟩) ?_ ?_
              rotate_left
              · intro w'
                go_simp
                with_reducible rfl
              rotate_left
              · simp only [Zs]
                rfl
              refine pure_ (i := 4) (N := some 95) (v := ?_) (a' := ?_) #[true, true, false, true, true, false, false, false, false, false, false, false, false, false, false, false, false] rfl rfl (any_of HT_.out (by kernel_rfl)) (fun _ _ _ h => h) (Or.inl ⟨by rfl, ?_⟩) ?_ ?_
              rotate_left
              · intro w'
                go_simp
                with_reducible rfl
              rotate_left
              · simp only [Zs]
                rfl
              refine take_ (i := 2) (N := some 93) (v := ?_) (a' := ?_) #[true, true, true, true, true, false, false, false, false, false, false, false, false, false, false, false, false] rfl rfl (take_ofW HT_.out HW_.out (by kernel_rfl)) (fun _ _ _ h => h) (Or.inl ⟨by rfl, ?_⟩) hHeld ?_ ?_
              rotate_left
              · rintro w' ⟨s0, s1, s2, s3, s4, s5, s6, s7, s8, s9, s10, s11, s12⟩
                go_simp
                with_reducible rfl
              rotate_left
              · simp only [Zs]
                rfl
              refine pure_ (i := 5) (N := some 96) (v := ?_) (a' := ?_) #[true, true, true, true, true, true, false, false, false, false, false, false, false, false, false, false, false] rfl rfl (any_of HT_.out (by kernel_rfl)) (fun _ _ _ h => h) (Or.inl ⟨by rfl, ?_⟩) ?_ ?_
              rotate_left
              · intro w'
                go_simp
                with_reducible rfl
              rotate_left
              · simp only [Zs]
                rfl
              refine pure_ (i := 6) (N := some 97) (v := ?_) (a' := ?_) #[true, true, true, true, true, true, true, false, false, false, false, false, false, false, false, false, false] rfl rfl (any_of HT_.out (by kernel_rfl)) (fun _ _ _ h => h) (Or.inl ⟨by rfl, ?_⟩) ?_ ?_
              rotate_left
              · intro w'
                go_simp
                with_reducible rfl
              rotate_left
              · simp only [Zs]
                rfl
              refine take_ (i := 7) (N := some 98) (v := ?_) (a' := ?_) #[true, true, true, true, true, true, true, true, false, false, false, false, false, false, false, false, false] rfl rfl (take_ofW HT_.out HW_.out (by kernel_rfl)) (fun _ _ _ h => h) (Or.inl ⟨by rfl, ?_⟩) hHeld ?_ ?_
              rotate_left
              · rintro w' ⟨s0, s1, s2, s3, s4, s5, s6, s7, s8, s9, s10, s11, s12⟩
                go_simp
                with_reducible rfl
              rotate_left
              · simp only [Zs]
                rfl
              refine one_ (i := 8) (N := some 99) #[true, true, true, true, true, true, true, true, true, false, false, false, false, false, false, false, false] rfl rfl (one_of HT_.out (by kernel_rfl)) (by decide) (fun K hK => ?_)
              refine goes_ Try.func34 (by kernel_rfl) rfl #[.int .i64 3, .int .i64 3, .string (⟨#[49, 49, 49, 49, 49, 49, 49, 49, 49]⟩ : ByteArray)] (by rfl) rfl rfl (by (try simp only [List.map_toArray, List.map_cons, List.map_nil]); rfl) ?_
              with_reducible refine (barscanlaw38_bitmap.calls kj8 3 3 (⟨#[49, 49, 49, 49, 49, 49, 49, 49, 49]⟩ : ByteArray) t236 t237 t238 _ A60.out).mono ?_
              rintro e w67 ⟨v239, rfl, ho0, hb⟩
              have HS6_ := (hb.cell (World.block_lt_of_cell? _ _ (hHeld.2.2.2.2.2.2.1))).trans (hHeld.2.2.2.2.2.2.1)
              have HS7_ := (hb.cell (World.block_lt_of_cell? _ _ (hHeld.2.2.2.2.2.2.2.1))).trans (hHeld.2.2.2.2.2.2.2.1)
              have HS8_ := (hb.cell (World.block_lt_of_cell? _ _ (hHeld.2.2.2.2.2.2.2.2.1))).trans (hHeld.2.2.2.2.2.2.2.2.1)
              have HS9_ := (hb.cell (World.block_lt_of_cell? _ _ (hHeld.2.2.2.2.2.2.2.2.2.1))).trans (hHeld.2.2.2.2.2.2.2.2.2.1)
              have HS10_ := (hb.cell (World.block_lt_of_cell? _ _ (hHeld.2.2.2.2.2.2.2.2.2.2.1))).trans (hHeld.2.2.2.2.2.2.2.2.2.2.1)
              have HS11_ := (hb.cell (World.block_lt_of_cell? _ _ (hHeld.2.2.2.2.2.2.2.2.2.2.2.1))).trans (hHeld.2.2.2.2.2.2.2.2.2.2.2.1)
              have HS12_ := (hb.cell (World.block_lt_of_cell? _ _ (hHeld.2.2.2.2.2.2.2.2.2.2.2.2))).trans (hHeld.2.2.2.2.2.2.2.2.2.2.2.2)
              refine ⟨_, rfl, ?_⟩
              have n0_ := Aside0.mk (Kd.R_below (by (with_reducible repeat (fail)); exact HO_4.out) hb)
              have n1_ := Aside0.mk (Kd.R_elder' (by (with_reducible repeat (fail)); exact HO_202002.out) (Kd.R_base ho0) hb)
              have n2_ := Aside0.mk (Kd.R_elder' (by (with_reducible repeat (fail)); exact HO_203002.out) (Kd.R_base ho0) hb)
              have n3_ := Aside0.mk (Kd.R_elder' (by (with_reducible repeat (fail)); exact HO_228002.out) (Kd.R_base ho0) hb)
              have n4_ := Aside0.mk (Kd.R_elder' (by (with_reducible repeat (fail)); exact HO_235002.out) (Kd.R_base ho0) hb)
              have n5_ := Aside0.mk (Kd.R_lower (Kd.R_new' (Kd.R_new' (Kd.R_new' (Kd.R_new' ho0 (Kd.R_lt (by (with_reducible repeat (fail)); exact HO_202002.out))) (Kd.R_lt (by (with_reducible repeat (fail)); exact HO_203002.out))) (Kd.R_lt (by (with_reducible repeat (fail)); exact HO_228002.out))) (Kd.R_lt (by (with_reducible repeat (fail)); exact HO_235002.out))) (below_size (by repeat ((with_reducible exact HB.out)))))
              have n6_ := Aside0.mk (blk_below (g := gb201) (o := .cells #[.int .i64 t191, .int .i64 t192, .slice Ao16 t193.length co16] 24 (0, 0)) (by (with_reducible repeat (fail)); exact BK201.out) hb)
              have n7_ := Aside0.mk (blk_below (g := gb202) (o := .cells #[.int .i64 t196, .int .i64 t197, .slice Ao18 t198.length co18] 24 (0, 0)) (by (with_reducible repeat (fail)); exact BK202.out) hb)
              have n8_ := Aside0.mk (blk_below (g := gb227) (o := .cells #[.int .i64 t221, .int .i64 t222, .slice Ao32 t223.length co32] 24 (0, 0)) (by (with_reducible repeat (fail)); exact BK227.out) hb)
              have n9_ := Aside0.mk (blk_below (g := gb234) (o := .cells #[.int .i64 t228, .int .i64 t229, .slice Ao40 t230.length co40] 24 (0, 0)) (by (with_reducible repeat (fail)); exact BK234.out) hb)
              have n10_ := Aside0.mk (below_step (by repeat ((with_reducible exact HB.out))) hb)
              clear HO_4 HO_202002 HO_203002 HO_228002 HO_235002 BK201 BK202 BK227 BK234 HB
              have HO_4 := n0_
              have HO_202002 := n1_
              have HO_203002 := n2_
              have HO_228002 := n3_
              have HO_235002 := n4_
              have HO240 := n5_
              have BK201 := n6_
              have BK202 := n7_
              have BK227 := n8_
              have BK234 := n9_
              have HB := n10_
              clear n0_ n1_ n2_ n3_ n4_ n5_ n6_ n7_ n8_ n9_ n10_
              (try clear hb)
              (try clear hb2)
              (try clear hk)
              (try clear hi)
              (try clear ho0)
              obtain ⟨Ao68, co68, eo68⟩ := Kd.R_slice HO240.out
              (subst eo68)
              refine hK.out _ _ ⟨(blk_cell BK227.out 0).trans rfl, (blk_cell BK227.out 1).trans rfl, (blk_cell BK227.out 2).trans rfl, (blk_cell BK234.out 0).trans rfl, (blk_cell BK234.out 1).trans rfl, (blk_cell BK234.out 2).trans rfl, HS6_, HS7_, HS8_, HS9_, HS10_, HS11_, HS12_⟩ (fun hHeld => ?_)
              clear hK K
              refine norm_ (a' := ?_) ?_ ?_
              rotate_left
              · show Act.put _ (some 99) _ = _
                simp only [Zs]
                rfl
              refine one_ (i := 9) (N := some 100) #[true, true, true, true, true, true, true, true, true, true, false, false, false, false, false, false, false] rfl rfl (one_of HT_.out (by kernel_rfl)) (by decide) (fun K hK => ?_)
              refine goes_ Try.func21 (by kernel_rfl) rfl #[.agg #[.int .i64 t221, .int .i64 t222, .slice Ao32 t223.length co32], .agg #[.int .i64 t236, .int .i64 t237, .slice Ao68 t238.length co68]] (by rfl) rfl rfl (by (try simp only [List.map_toArray, List.map_cons, List.map_nil]); rfl) ?_
              with_reducible refine (barscanref31_Equal.calls kj8 t221 t222 _ _ t223 t236 t237 _ _ t238 true _ ?side1 ?side2 ?side3 ?side4 A61.out).mono ?_
              (case side1 => repeat ((exact (Kd.R_reads' HO_228002.out).2.2)))
              (case side2 => exact (Kd.R_reads' HO_228002.out).2.1)
              (case side3 => repeat ((exact (Kd.R_reads' HO240.out).2.2)))
              (case side4 => exact (Kd.R_reads' HO240.out).2.1)
              rintro e w69 ⟨rfl, hb⟩
              have HS6_ := (hb.cell (World.block_lt_of_cell? _ _ (hHeld.2.2.2.2.2.2.1))).trans (hHeld.2.2.2.2.2.2.1)
              have HS7_ := (hb.cell (World.block_lt_of_cell? _ _ (hHeld.2.2.2.2.2.2.2.1))).trans (hHeld.2.2.2.2.2.2.2.1)
              have HS8_ := (hb.cell (World.block_lt_of_cell? _ _ (hHeld.2.2.2.2.2.2.2.2.1))).trans (hHeld.2.2.2.2.2.2.2.2.1)
              have HS9_ := (hb.cell (World.block_lt_of_cell? _ _ (hHeld.2.2.2.2.2.2.2.2.2.1))).trans (hHeld.2.2.2.2.2.2.2.2.2.1)
              have HS10_ := (hb.cell (World.block_lt_of_cell? _ _ (hHeld.2.2.2.2.2.2.2.2.2.2.1))).trans (hHeld.2.2.2.2.2.2.2.2.2.2.1)
              have HS11_ := (hb.cell (World.block_lt_of_cell? _ _ (hHeld.2.2.2.2.2.2.2.2.2.2.2.1))).trans (hHeld.2.2.2.2.2.2.2.2.2.2.2.1)
              have HS12_ := (hb.cell (World.block_lt_of_cell? _ _ (hHeld.2.2.2.2.2.2.2.2.2.2.2.2))).trans (hHeld.2.2.2.2.2.2.2.2.2.2.2.2)
              refine ⟨_, rfl, ?_⟩
              have n0_ := Aside0.mk (Kd.R_below (by (with_reducible repeat (fail)); exact HO_4.out) hb)
              have n1_ := Aside0.mk (Kd.R_below (by (with_reducible repeat (fail)); exact HO_202002.out) hb)
              have n2_ := Aside0.mk (Kd.R_below (by (with_reducible repeat (fail)); exact HO_203002.out) hb)
              have n3_ := Aside0.mk (Kd.R_below (by (with_reducible repeat (fail)); exact HO_228002.out) hb)
              have n4_ := Aside0.mk (Kd.R_below (by (with_reducible repeat (fail)); exact HO_235002.out) hb)
              have n5_ := Aside0.mk (Kd.R_below (by (with_reducible repeat (fail)); exact HO240.out) hb)
              have n6_ := Aside0.mk (blk_below (g := gb201) (o := .cells #[.int .i64 t191, .int .i64 t192, .slice Ao16 t193.length co16] 24 (0, 0)) (by (with_reducible repeat (fail)); exact BK201.out) hb)
              have n7_ := Aside0.mk (blk_below (g := gb202) (o := .cells #[.int .i64 t196, .int .i64 t197, .slice Ao18 t198.length co18] 24 (0, 0)) (by (with_reducible repeat (fail)); exact BK202.out) hb)
              have n8_ := Aside0.mk (blk_below (g := gb227) (o := .cells #[.int .i64 t221, .int .i64 t222, .slice Ao32 t223.length co32] 24 (0, 0)) (by (with_reducible repeat (fail)); exact BK227.out) hb)
              have n9_ := Aside0.mk (blk_below (g := gb234) (o := .cells #[.int .i64 t228, .int .i64 t229, .slice Ao40 t230.length co40] 24 (0, 0)) (by (with_reducible repeat (fail)); exact BK234.out) hb)
              have n10_ := Aside0.mk (below_step (by repeat ((with_reducible exact HB.out))) hb)
              clear HO_4 HO_202002 HO_203002 HO_228002 HO_235002 HO240 BK201 BK202 BK227 BK234 HB
              have HO_4 := n0_
              have HO_202002 := n1_
              have HO_203002 := n2_
              have HO_228002 := n3_
              have HO_235002 := n4_
              have HO240 := n5_
              have BK201 := n6_
              have BK202 := n7_
              have BK227 := n8_
              have BK234 := n9_
              have HB := n10_
              clear n0_ n1_ n2_ n3_ n4_ n5_ n6_ n7_ n8_ n9_ n10_
              (try clear hb)
              (try clear hb2)
              (try clear hk)
              (try clear hi)
              refine hK.out _ _ ⟨(blk_cell BK227.out 0).trans rfl, (blk_cell BK227.out 1).trans rfl, (blk_cell BK227.out 2).trans rfl, (blk_cell BK234.out 0).trans rfl, (blk_cell BK234.out 1).trans rfl, (blk_cell BK234.out 2).trans rfl, HS6_, HS7_, HS8_, HS9_, HS10_, HS11_, HS12_⟩ (fun hHeld => ?_)
              clear hK K
              refine norm_ (a' := ?_) ?_ ?_
              rotate_left
              · show Act.put _ (some 100) _ = _
                simp only [Zs]
                rfl
              refine pure_ (i := 10) (N := some 101) (v := ?_) (a' := ?_) #[true, true, true, true, true, true, true, true, true, true, true, false, false, false, false, false, false] rfl rfl (any_of HT_.out (by kernel_rfl)) (fun _ _ _ h => h) (Or.inl ⟨by rfl, ?_⟩) ?_ ?_
              rotate_left
              · intro w'
                go_simp
                with_reducible rfl
              rotate_left
              · simp only [Zs]
                rfl
              refine pure_ (i := 11) (N := some 102) (v := ?_) (a' := ?_) #[true, true, true, true, true, true, true, true, true, true, true, true, false, false, false, false, false] rfl rfl (any_of HT_.out (by kernel_rfl)) (fun _ _ _ h => h) (Or.inl ⟨by rfl, ?_⟩) ?_ ?_
              rotate_left
              · intro w'
                go_simp
                with_reducible rfl
              rotate_left
              · simp only [Zs]
                rfl
              refine take_ (i := 12) (N := some 103) (v := ?_) (a' := ?_) #[true, true, true, true, true, true, true, true, true, true, true, true, true, false, false, false, false] rfl rfl (take_ofW HT_.out HW_.out (by kernel_rfl)) (fun _ _ _ h => h) (Or.inl ⟨by rfl, ?_⟩) hHeld ?_ ?_
              rotate_left
              · rintro w' ⟨s0, s1, s2, s3, s4, s5, s6, s7, s8, s9, s10, s11, s12⟩
                go_simp
                with_reducible rfl
              rotate_left
              · simp only [Zs]
                rfl
              refine one_ (i := 13) (N := some 104) #[true, true, true, true, true, true, true, true, true, true, true, true, true, true, false, false, false] rfl rfl (one_of HT_.out (by kernel_rfl)) (by decide) (fun K hK => ?_)
              refine goes_ Try.func34 (by kernel_rfl) rfl #[.int .i64 3, .int .i64 3, .string (⟨#[48, 48, 48, 48, 48, 48, 48, 48, 48]⟩ : ByteArray)] (by rfl) rfl rfl (by (try simp only [List.map_toArray, List.map_cons, List.map_nil]); rfl) ?_
              with_reducible refine (barscanlaw38_bitmap.calls kj8 3 3 (⟨#[48, 48, 48, 48, 48, 48, 48, 48, 48]⟩ : ByteArray) t242 t243 t244 _ A63.out).mono ?_
              rintro e w70 ⟨v245, rfl, ho0, hb⟩
              have HS6_ := (hb.cell (World.block_lt_of_cell? _ _ (hHeld.2.2.2.2.2.2.1))).trans (hHeld.2.2.2.2.2.2.1)
              have HS7_ := (hb.cell (World.block_lt_of_cell? _ _ (hHeld.2.2.2.2.2.2.2.1))).trans (hHeld.2.2.2.2.2.2.2.1)
              have HS8_ := (hb.cell (World.block_lt_of_cell? _ _ (hHeld.2.2.2.2.2.2.2.2.1))).trans (hHeld.2.2.2.2.2.2.2.2.1)
              have HS9_ := (hb.cell (World.block_lt_of_cell? _ _ (hHeld.2.2.2.2.2.2.2.2.2.1))).trans (hHeld.2.2.2.2.2.2.2.2.2.1)
              have HS10_ := (hb.cell (World.block_lt_of_cell? _ _ (hHeld.2.2.2.2.2.2.2.2.2.2.1))).trans (hHeld.2.2.2.2.2.2.2.2.2.2.1)
              have HS11_ := (hb.cell (World.block_lt_of_cell? _ _ (hHeld.2.2.2.2.2.2.2.2.2.2.2.1))).trans (hHeld.2.2.2.2.2.2.2.2.2.2.2.1)
              have HS12_ := (hb.cell (World.block_lt_of_cell? _ _ (hHeld.2.2.2.2.2.2.2.2.2.2.2.2))).trans (hHeld.2.2.2.2.2.2.2.2.2.2.2.2)
              refine ⟨_, rfl, ?_⟩
              have n0_ := Aside0.mk (Kd.R_below (by (with_reducible repeat (fail)); exact HO_4.out) hb)
              have n1_ := Aside0.mk (Kd.R_elder' (by (with_reducible repeat (fail)); exact HO_202002.out) (Kd.R_base ho0) hb)
              have n2_ := Aside0.mk (Kd.R_elder' (by (with_reducible repeat (fail)); exact HO_203002.out) (Kd.R_base ho0) hb)
              have n3_ := Aside0.mk (Kd.R_elder' (by (with_reducible repeat (fail)); exact HO_228002.out) (Kd.R_base ho0) hb)
              have n4_ := Aside0.mk (Kd.R_elder' (by (with_reducible repeat (fail)); exact HO_235002.out) (Kd.R_base ho0) hb)
              have n5_ := Aside0.mk (Kd.R_elder' (by (with_reducible repeat (fail)); exact HO240.out) (Kd.R_base ho0) hb)
              have n6_ := Aside0.mk (Kd.R_lower (Kd.R_new' (Kd.R_new' (Kd.R_new' (Kd.R_new' (Kd.R_new' ho0 (Kd.R_lt (by (with_reducible repeat (fail)); exact HO_202002.out))) (Kd.R_lt (by (with_reducible repeat (fail)); exact HO_203002.out))) (Kd.R_lt (by (with_reducible repeat (fail)); exact HO_228002.out))) (Kd.R_lt (by (with_reducible repeat (fail)); exact HO_235002.out))) (Kd.R_lt (by (with_reducible repeat (fail)); exact HO240.out))) (below_size (by repeat ((with_reducible exact HB.out)))))
              have n7_ := Aside0.mk (blk_below (g := gb201) (o := .cells #[.int .i64 t191, .int .i64 t192, .slice Ao16 t193.length co16] 24 (0, 0)) (by (with_reducible repeat (fail)); exact BK201.out) hb)
              have n8_ := Aside0.mk (blk_below (g := gb202) (o := .cells #[.int .i64 t196, .int .i64 t197, .slice Ao18 t198.length co18] 24 (0, 0)) (by (with_reducible repeat (fail)); exact BK202.out) hb)
              have n9_ := Aside0.mk (blk_below (g := gb227) (o := .cells #[.int .i64 t221, .int .i64 t222, .slice Ao32 t223.length co32] 24 (0, 0)) (by (with_reducible repeat (fail)); exact BK227.out) hb)
              have n10_ := Aside0.mk (blk_below (g := gb234) (o := .cells #[.int .i64 t228, .int .i64 t229, .slice Ao40 t230.length co40] 24 (0, 0)) (by (with_reducible repeat (fail)); exact BK234.out) hb)
              have n11_ := Aside0.mk (below_step (by repeat ((with_reducible exact HB.out))) hb)
              clear HO_4 HO_202002 HO_203002 HO_228002 HO_235002 HO240 BK201 BK202 BK227 BK234 HB
              have HO_4 := n0_
              have HO_202002 := n1_
              have HO_203002 := n2_
              have HO_228002 := n3_
              have HO_235002 := n4_
              have HO240 := n5_
              have HO246 := n6_
              have BK201 := n7_
              have BK202 := n8_
              have BK227 := n9_
              have BK234 := n10_
              have HB := n11_
              clear n0_ n1_ n2_ n3_ n4_ n5_ n6_ n7_ n8_ n9_ n10_ n11_
              (try clear hb)
              (try clear hb2)
              (try clear hk)
              (try clear hi)
              (try clear ho0)
              obtain ⟨Ao71, co71, eo71⟩ := Kd.R_slice HO246.out
              (subst eo71)
              refine hK.out _ _ ⟨(blk_cell BK227.out 0).trans rfl, (blk_cell BK227.out 1).trans rfl, (blk_cell BK227.out 2).trans rfl, (blk_cell BK234.out 0).trans rfl, (blk_cell BK234.out 1).trans rfl, (blk_cell BK234.out 2).trans rfl, HS6_, HS7_, HS8_, HS9_, HS10_, HS11_, HS12_⟩ (fun hHeld => ?_)
              clear hK K
              refine norm_ (a' := ?_) ?_ ?_
              rotate_left
              · show Act.put _ (some 104) _ = _
                simp only [Zs]
                rfl
              refine one_ (i := 14) (N := some 105) #[true, true, true, true, true, true, true, true, true, true, true, true, true, true, true, false, false] rfl rfl (one_of HT_.out (by kernel_rfl)) (by decide) (fun K hK => ?_)
              refine goes_ Try.func21 (by kernel_rfl) rfl #[.agg #[.int .i64 t228, .int .i64 t229, .slice Ao40 t230.length co40], .agg #[.int .i64 t242, .int .i64 t243, .slice Ao71 t244.length co71]] (by rfl) rfl rfl (by (try simp only [List.map_toArray, List.map_cons, List.map_nil]); rfl) ?_
              with_reducible refine (barscanref31_Equal.calls kj8 t228 t229 _ _ t230 t242 t243 _ _ t244 _ _ ?side1 ?side2 ?side3 ?side4 A64.out).mono ?_
              (case side1 => repeat ((exact (Kd.R_reads' HO_235002.out).2.2)))
              (case side2 => exact (Kd.R_reads' HO_235002.out).2.1)
              (case side3 => repeat ((exact (Kd.R_reads' HO246.out).2.2)))
              (case side4 => exact (Kd.R_reads' HO246.out).2.1)
              rintro e w72 ⟨rfl, hb⟩
              have HS6_ := (hb.cell (World.block_lt_of_cell? _ _ (hHeld.2.2.2.2.2.2.1))).trans (hHeld.2.2.2.2.2.2.1)
              have HS7_ := (hb.cell (World.block_lt_of_cell? _ _ (hHeld.2.2.2.2.2.2.2.1))).trans (hHeld.2.2.2.2.2.2.2.1)
              have HS8_ := (hb.cell (World.block_lt_of_cell? _ _ (hHeld.2.2.2.2.2.2.2.2.1))).trans (hHeld.2.2.2.2.2.2.2.2.1)
              have HS9_ := (hb.cell (World.block_lt_of_cell? _ _ (hHeld.2.2.2.2.2.2.2.2.2.1))).trans (hHeld.2.2.2.2.2.2.2.2.2.1)
              have HS10_ := (hb.cell (World.block_lt_of_cell? _ _ (hHeld.2.2.2.2.2.2.2.2.2.2.1))).trans (hHeld.2.2.2.2.2.2.2.2.2.2.1)
              have HS11_ := (hb.cell (World.block_lt_of_cell? _ _ (hHeld.2.2.2.2.2.2.2.2.2.2.2.1))).trans (hHeld.2.2.2.2.2.2.2.2.2.2.2.1)
              have HS12_ := (hb.cell (World.block_lt_of_cell? _ _ (hHeld.2.2.2.2.2.2.2.2.2.2.2.2))).trans (hHeld.2.2.2.2.2.2.2.2.2.2.2.2)
              refine ⟨_, rfl, ?_⟩
              have n0_ := Aside0.mk (Kd.R_below (by (with_reducible repeat (fail)); exact HO_4.out) hb)
              have n1_ := Aside0.mk (Kd.R_below (by (with_reducible repeat (fail)); exact HO_202002.out) hb)
              have n2_ := Aside0.mk (Kd.R_below (by (with_reducible repeat (fail)); exact HO_203002.out) hb)
              have n3_ := Aside0.mk (Kd.R_below (by (with_reducible repeat (fail)); exact HO_228002.out) hb)
              have n4_ := Aside0.mk (Kd.R_below (by (with_reducible repeat (fail)); exact HO_235002.out) hb)
              have n5_ := Aside0.mk (Kd.R_below (by (with_reducible repeat (fail)); exact HO240.out) hb)
              have n6_ := Aside0.mk (Kd.R_below (by (with_reducible repeat (fail)); exact HO246.out) hb)
              have n7_ := Aside0.mk (blk_below (g := gb201) (o := .cells #[.int .i64 t191, .int .i64 t192, .slice Ao16 t193.length co16] 24 (0, 0)) (by (with_reducible repeat (fail)); exact BK201.out) hb)
              have n8_ := Aside0.mk (blk_below (g := gb202) (o := .cells #[.int .i64 t196, .int .i64 t197, .slice Ao18 t198.length co18] 24 (0, 0)) (by (with_reducible repeat (fail)); exact BK202.out) hb)
              have n9_ := Aside0.mk (blk_below (g := gb227) (o := .cells #[.int .i64 t221, .int .i64 t222, .slice Ao32 t223.length co32] 24 (0, 0)) (by (with_reducible repeat (fail)); exact BK227.out) hb)
              have n10_ := Aside0.mk (blk_below (g := gb234) (o := .cells #[.int .i64 t228, .int .i64 t229, .slice Ao40 t230.length co40] 24 (0, 0)) (by (with_reducible repeat (fail)); exact BK234.out) hb)
              have n11_ := Aside0.mk (below_step (by repeat ((with_reducible exact HB.out))) hb)
              clear HO_4 HO_202002 HO_203002 HO_228002 HO_235002 HO240 HO246 BK201 BK202 BK227 BK234 HB
              have HO_4 := n0_
              have HO_202002 := n1_
              have HO_203002 := n2_
              have HO_228002 := n3_
              have HO_235002 := n4_
              have HO240 := n5_
              have HO246 := n6_
              have BK201 := n7_
              have BK202 := n8_
              have BK227 := n9_
              have BK234 := n10_
              have HB := n11_
              clear n0_ n1_ n2_ n3_ n4_ n5_ n6_ n7_ n8_ n9_ n10_ n11_
              (try clear hb)
              (try clear hb2)
              (try clear hk)
              (try clear hi)
              refine hK.out _ _ ⟨(blk_cell BK227.out 0).trans rfl, (blk_cell BK227.out 1).trans rfl, (blk_cell BK227.out 2).trans rfl, (blk_cell BK234.out 0).trans rfl, (blk_cell BK234.out 1).trans rfl, (blk_cell BK234.out 2).trans rfl, HS6_, HS7_, HS8_, HS9_, HS10_, HS11_, HS12_⟩ (fun hHeld => ?_)
              clear hK K
              refine norm_ (a' := ?_) ?_ ?_
              rotate_left
              · show Act.put _ (some 105) _ = _
                simp only [Zs]
                rfl
              refine pure_ (i := 15) (N := some 106) (v := ?_) (a' := ?_) #[true, true, true, true, true, true, true, true, true, true, true, true, true, true, true, true, false] rfl rfl (any_of HT_.out (by kernel_rfl)) (fun _ _ _ h => h) (Or.inl ⟨by rfl, ?_⟩) ?_ ?_
              rotate_left
              · intro w'
                go_simp
                with_reducible rfl
              rotate_left
              · simp only [Zs]
                rfl
              refine pure_ (i := 16) (N := some 0) (v := ?_) (a' := ?_) #[true, true, true, true, true, true, true, true, true, true, true, true, true, true, true, true, true] rfl rfl (any_of HT_.out (by kernel_rfl)) (fun _ _ _ h => h) (Or.inl ⟨by rfl, ?_⟩) ?_ ?_
              rotate_left
              · intro w'
                go_simp
                with_reducible rfl
              rotate_left
              · simp only [Zs]
                rfl
              refine done_ (done_of HT_.out (by kernel_rfl)) ?_
              try go_wp2
              go_ret
              exact ⟨by rfl, by repeat ((with_reducible exact HB.out))⟩
            · replace c62 := Bool.eq_false_iff.mpr c62
              subst c62
              have H1 : (some false) = some true := by rw [if_neg (show ¬ (false = true) by decide)] at H; exact H
              clear H
              have H := H1
              clear H1
              cases H
          · rw [if_neg c59] at H
            have c59b0 : ((((rd_T38 t206 0).f0.f0) == 0 && (((rd_T38 t206 0).f0.f1) == 0 && (((rd_T38 t206 0).f0.f2) == 3 && (((rd_T38 t206 0).f0.f3) == 3)))) && (((rd_T38 t206 0).f1) == 5 && ((((rd_T38 t206 0).f2.f0) == 0 && (((rd_T38 t206 0).f2.f1) == 0))))) = false := by simpa using c59
            clear c59
            cases H
        · rw [if_neg c58] at H
          exact absurd H (by simp)

end Go.Proofs.Ytahibhipffojlaa.M
