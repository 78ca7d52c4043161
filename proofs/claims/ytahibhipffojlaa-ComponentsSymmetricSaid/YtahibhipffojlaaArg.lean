/- A law's arguments, opened: a bitmap, a row of numbers, a blob. -/
import Derived.Test.YtahibhipffojlaaMx0
import Derived.Lib.SmallJoins
import Derived.Deep.Grids
import Derived.ChangeSlices
import Derived.OpenShut
import Derived.Carry
set_option linter.unusedSimpArgs false
set_option linter.unusedVariables false
namespace Go.Proofs.Ytahibhipffojlaa.Arg
open Go.Deep Go.Joins Go.ChangeShapes Go.WideShapes Go.ChangeAt Go.RowKit Go.Proofs.YtahibhipffojlaaW.PrintWords Go.Proofs.Ytahibhipffojlaa.M
variable {H : Type} {enc : TypeId × Value → H} {w : World} {base : Nat} {held : Bool} {r : Reach} {v : Value} {d : DataW H} {p : List MemPlace}

theorem laidOut : laidOutB Try.prog = true := by kernel_rfl
theorem bools_row {n : Nat} {c : Value} {y : DataW H × List MemPlace} (h : DataW.trod enc Try.prog w base (fun _ => true) held n 22 [c] = some y) :
    ∃ A l cap, c = .slice A l.length cap ∧ Kd.C Kd.bool w A l.length l ∧ l.length ≤ cap := by
  rcases open_bools Try.underlying22 Try.underlying4 (by kernel_rfl) h with ⟨e, _⟩ | ⟨a, len, cap, B, e, _, hl, hm, _, hc⟩
  · injection e with e
    exact ⟨none, [], 0, e, ⟨rfl, by simp, fun h => by simp at h⟩, Nat.le_refl _⟩
  · injection e with e
    refine ⟨some a, (List.range len).map B, cap, by rw [List.length_map, List.length_range]; exact e, ⟨rfl, ?_, fun _ => ⟨a, rfl, fun j x hx => ?_⟩⟩, by rw [List.length_map, List.length_range]; exact hl⟩
    · rw [List.length_map, List.length_range]; unfold maxLen at hm; omega
    · rw [List.getElem?_map, Option.map_eq_some_iff] at hx
      obtain ⟨i, hi, rfl⟩ := hx
      obtain ⟨hj, hji⟩ := List.getElem?_eq_some_iff.1 hi
      rw [List.length_range] at hj
      rw [List.getElem_range] at hji
      subst hji
      refine ⟨[.bool (B j)], rfl, rfl, fun i u hu => ?_⟩
      rcases i with _ | i
      · injection hu with hu
        subst hu
        rw [show (Kd.bool.sz : Nat) = 1 from rfl, Nat.mul_one]
        exact hc j (by omega)
      · simp at hu
theorem ints_row {n : Nat} {cs : List Value} {y : DataW H × List MemPlace} (h : DataW.trod enc Try.prog w base (fun _ => true) held n 27 cs = some y) :
    ∃ A l cap, cs = [.slice A l.length cap] ∧ Kd.C (Kd.int .i64) w A l.length l ∧ l.length ≤ cap := by
  rcases open_ints Try.underlying27 Try.underlying3 (by kernel_rfl) h with ⟨e, _⟩ | ⟨a, len, cap, zs, e, _, hl, hm, hz, _, hc, _⟩
  · exact ⟨none, [], 0, e, ⟨rfl, by simp, fun h => by simp at h⟩, Nat.le_refl _⟩
  · subst e
    simp only [if_true] at hz
    refine ⟨some a, zs.take len, cap, by rw [List.length_take, Nat.min_eq_left (by omega)], ⟨rfl, ?_, fun _ => ⟨a, rfl, fun j x hx => ?_⟩⟩, by rw [List.length_take]; omega⟩
    · rw [List.length_take]; unfold maxLen at hm; omega
    · rw [List.getElem?_take] at hx
      split at hx
      case isFalse => cases hx
      rename_i hj
      refine ⟨[.int .i64 x], rfl, rfl, fun i u hu => ?_⟩
      rcases i with _ | i
      · injection hu with hu
        subst hu
        rw [show ((Kd.int .i64).sz : Nat) = 1 from rfl, Nat.mul_one]
        have h1 := hc j (by omega)
        rw [List.getD_eq_getElem?_getD, hx, Option.getD_some] at h1
        exact h1
      · simp at hu
theorem bits_arg {b0 : Nat} (hv : Value.okWide Try.prog w .any b0 24 v) (h : DataW.Trod enc Try.prog w base (fun _ => true) held 24 v d p) :
    ∃ a b A l cap, v = .agg #[.int .i64 a, .int .i64 b, .slice A l.length cap] ∧ Kd.C Kd.bool w A l.length l ∧ l.length ≤ cap := by
  obtain ⟨c0, c1, c2, y0, y1, y2, m, rfl, rfl, rfl, hy0, hy1, hy2⟩ := open_agg3 Try.underlying24 (by kernel_rfl) (by kernel_rfl) hv h
  obtain ⟨x, e0, rfl, wx⟩ := DataW.trod_int Try.underlying3 hy0
  obtain ⟨y, e1, rfl, wy⟩ := DataW.trod_int Try.underlying3 hy1
  obtain ⟨A, l, cap, rfl, hC, hl⟩ := bools_row hy2
  simp at e0 e1
  subst e0 e1
  exact ⟨x, y, A, l, cap, rfl, hC, hl⟩
theorem ints_arg {b0 : Nat} (hv : Value.okWide Try.prog w .any b0 27 v) (h : DataW.Trod enc Try.prog w base (fun _ => true) held 27 v d p) :
    ∃ A l cap, v = .slice A l.length cap ∧ Kd.C (Kd.int .i64) w A l.length l ∧ l.length ≤ cap := by
  obtain ⟨a0, len, cap, rfl⟩ := okWide_slice Try.underlying27 hv
  obtain ⟨fuel, hf⟩ := h
  obtain ⟨A, l, c, e, hC, hl⟩ := ints_row hf
  simp only [Value.cells, List.cons.injEq, and_true] at e
  exact ⟨A, l, c, e, hC, hl⟩
theorem blob_arg {b0 : Nat} (hv : Value.okWide Try.prog w .any b0 38 v) (h : DataW.Trod enc Try.prog w base (fun _ => true) held 38 v d p) :
    ∃ a0 a1 a2 a3 a4 a5 a6, v = .agg #[.int .i64 a0, .int .i64 a1, .int .i64 a2, .int .i64 a3, .int .i64 a4, .int .i64 a5, .int .i64 a6] := by
  obtain ⟨cs, rfl, hsz⟩ := okWide_struct Try.underlying38 hv
  have h7 : cs.size = 7 := hsz.trans (by kernel_rfl)
  obtain ⟨c0, c1, c2, c3, c4, c5, c6, rfl⟩ : ∃ c0 c1 c2 c3 c4 c5 c6, cs = #[c0, c1, c2, c3, c4, c5, c6] := by
    rcases cs with ⟨cs⟩
    match cs, h7 with
    | [c0, c1, c2, c3, c4, c5, c6], _ => exact ⟨c0, c1, c2, c3, c4, c5, c6, rfl⟩
  obtain ⟨fuel, hf⟩ := h
  obtain ⟨y0, y1, y2, n, _, _, h0, h1, h2⟩ := trod_struct3 Try.underlying38 hf
  have k34 : Try.prog.cellsOf 34 = 4 := by kernel_rfl
  have k36 : Try.prog.cellsOf 36 = 2 := by kernel_rfl
  have k3 : Try.prog.cellsOf 3 = 1 := by kernel_rfl
  obtain ⟨z0, z1, z2, z3, m, _, _, g0, g1, g2, g3⟩ := trod_struct4 Try.underlying34 h0
  obtain ⟨u0, u1, m2, _, _, q0, q1⟩ := trod_struct2 Try.underlying36 h2
  simp only [k34, k36, k3, Value.cells] at g0 g1 g2 g3 h1 q0 q1
  obtain ⟨a0, e0, _, _⟩ := DataW.trod_int Try.underlying3 g0
  obtain ⟨a1, e1, _, _⟩ := DataW.trod_int Try.underlying3 g1
  obtain ⟨a2, e2, _, _⟩ := DataW.trod_int Try.underlying3 g2
  obtain ⟨a3, e3, _, _⟩ := DataW.trod_int Try.underlying3 g3
  obtain ⟨a4, e4, _, _⟩ := DataW.trod_int Try.underlying3 h1
  obtain ⟨a5, e5, _, _⟩ := DataW.trod_int Try.underlying3 q0
  obtain ⟨a6, e6, _, _⟩ := DataW.trod_int Try.underlying3 q1
  simp at e0 e1 e2 e3 e4 e5 e6
  subst e0 e1 e2 e3 e4 e5 e6
  exact ⟨a0, a1, a2, a3, a4, a5, a6, rfl⟩
end Go.Proofs.Ytahibhipffojlaa.Arg
