/- A law's arguments, opened: a list of boxes, a box. -/
import Derived.Test.YtdkiembkigadkaaMx0
import Derived.Lib.SmallJoins
import Derived.Deep.Grids
import Derived.Deep.Slices
import Derived.ChangeSlices
import Derived.OpenShut
import Derived.Carry
set_option linter.unusedSimpArgs false
set_option linter.unusedVariables false
namespace Go.Proofs.Ytdkiembkigadkaa.Arg
open Go.Deep Go.Joins Go.ChangeShapes Go.WideShapes Go.ChangeAt Go.RowKit Go.Proofs.YtdkiembkigadkaaW.PrintWords Go.Proofs.Ytdkiembkigadkaa.M
variable {H : Type} {enc : TypeId × Value → H} {w : World} {base : Nat} {held : Bool} {r : Reach} {v : Value} {d : DataW H} {p : List MemPlace}

set_option maxRecDepth 100000 in
theorem laidOut : laidOutB Try.prog = true := by kernel_rfl
instance : Inhabited S31 := ⟨z31⟩

set_option maxRecDepth 100000 in
theorem box_cells {n : Nat} {cs : List Value} {y : DataW H × List MemPlace} (h : DataW.trod enc Try.prog w base (fun _ => true) held n 31 cs = some y) (hl : cs.length = 4) :
    ∃ b : S31, cs = [.int .i64 b.f0, .int .i64 b.f1, .int .i64 b.f2, .int .i64 b.f3] := by
  have k3 : Try.prog.cellsOf 3 = 1 := by kernel_rfl
  obtain ⟨z0, z1, z2, z3, m, _, _, g0, g1, g2, g3⟩ := trod_struct4 Try.underlying31 h
  match cs, hl with
  | [c0, c1, c2, c3], _ =>
    simp only [k3] at g0 g1 g2 g3
    obtain ⟨a0, e0, _, _⟩ := DataW.trod_int Try.underlying3 g0
    obtain ⟨a1, e1, _, _⟩ := DataW.trod_int Try.underlying3 g1
    obtain ⟨a2, e2, _, _⟩ := DataW.trod_int Try.underlying3 g2
    obtain ⟨a3, e3, _, _⟩ := DataW.trod_int Try.underlying3 g3
    simp at e0 e1 e2 e3
    subst e0 e1 e2 e3
    exact ⟨⟨a0, a1, a2, a3⟩, rfl⟩
set_option maxRecDepth 100000 in
theorem boxes_row {n : Nat} {cs : List Value} {y : DataW H × List MemPlace} (h : DataW.trod enc Try.prog w base (fun _ => true) held n 22 cs = some y) :
    ∃ A l cap, cs = [.slice A l.length cap] ∧ Kd.C k31 w A l.length l ∧ l.length ≤ cap := by
  have k31c : Try.prog.cellsOf 31 = 4 := by kernel_rfl
  rcases open_slice Try.underlying22 h with ⟨e, _⟩ | ⟨a, len, cap, m, n, D, Pl, e, _, hl, hm, hmm, _, hx⟩
  · exact ⟨none, [], 0, e, ⟨rfl, by simp, fun h => by simp at h⟩, Nat.le_refl _⟩
  · have each : ∀ i, i < m → ∃ b : S31, ∀ (j : Nat) u, [Value.int .i64 b.f0, .int .i64 b.f1, .int .i64 b.f2, .int .i64 b.f3][j]? = some u → w.cell? (a.add (i * 4 + j)) = some u := by
      intro i hi
      obtain ⟨cs', h1, h2⟩ := hx i hi
      rw [k31c] at h1
      obtain ⟨_, hlen, hcell⟩ := World.cells?_some h1
      obtain ⟨b, rfl⟩ := box_cells h2 hlen
      refine ⟨b, fun j u hu => ?_⟩
      have hj : j < 4 := (List.getElem?_eq_some_iff.1 hu).1
      have := hcell j (by omega)
      rw [Go.Deep.add_add] at this
      rw [this, ← hu]
    obtain ⟨q, hq⟩ := choose_lt each
    simp only [if_true] at hmm
    rw [hmm] at hq
    refine ⟨some a, (List.range len).map q, cap, by rw [List.length_map, List.length_range]; exact e, ⟨rfl, ?_, fun _ => ⟨a, rfl, fun j x hx => ?_⟩⟩, by rw [List.length_map, List.length_range]; exact hl⟩
    · rw [List.length_map, List.length_range]; unfold maxLen at hm; omega
    · rw [List.getElem?_map, Option.map_eq_some_iff] at hx
      obtain ⟨i, hi, rfl⟩ := hx
      obtain ⟨hj, hji⟩ := List.getElem?_eq_some_iff.1 hi
      rw [List.length_range] at hj
      rw [List.getElem_range] at hji
      subst hji
      exact ⟨[.int .i64 (q j).f0, .int .i64 (q j).f1, .int .i64 (q j).f2, .int .i64 (q j).f3], rfl, k31_mk w (q j), fun i u hu => hq j (by omega) i u hu⟩
set_option maxRecDepth 100000 in
theorem boxes_arg {b0 : Nat} (hv : Value.okWide Try.prog w .any b0 22 v) (h : DataW.Trod enc Try.prog w base (fun _ => true) held 22 v d p) :
    ∃ A l cap, v = .slice A l.length cap ∧ Kd.C k31 w A l.length l ∧ l.length ≤ cap := by
  obtain ⟨a0, len, cap, rfl⟩ := okWide_slice Try.underlying22 hv
  obtain ⟨fuel, hf⟩ := h
  obtain ⟨A, l, c, e, hC, hl⟩ := boxes_row hf
  simp only [Value.cells, List.cons.injEq, and_true] at e
  exact ⟨A, l, c, e, hC, hl⟩
set_option maxRecDepth 100000 in
theorem box_arg {b0 : Nat} (hv : Value.okWide Try.prog w .any b0 31 v) (h : DataW.Trod enc Try.prog w base (fun _ => true) held 31 v d p) :
    ∃ a0 a1 a2 a3, v = .agg #[.int .i64 a0, .int .i64 a1, .int .i64 a2, .int .i64 a3] := by
  obtain ⟨cs, rfl, hsz⟩ := okWide_struct Try.underlying31 hv
  have h4 : cs.size = 4 := hsz.trans (by kernel_rfl)
  obtain ⟨c0, c1, c2, c3, rfl⟩ : ∃ c0 c1 c2 c3, cs = #[c0, c1, c2, c3] := by
    rcases cs with ⟨cs⟩
    match cs, h4 with
    | [c0, c1, c2, c3], _ => exact ⟨c0, c1, c2, c3, rfl⟩
  obtain ⟨fuel, hf⟩ := h
  have k3 : Try.prog.cellsOf 3 = 1 := by kernel_rfl
  obtain ⟨z0, z1, z2, z3, m, _, _, g0, g1, g2, g3⟩ := trod_struct4 Try.underlying31 hf
  simp only [k3, Value.cells] at g0 g1 g2 g3
  obtain ⟨a0, e0, _, _⟩ := DataW.trod_int Try.underlying3 g0
  obtain ⟨a1, e1, _, _⟩ := DataW.trod_int Try.underlying3 g1
  obtain ⟨a2, e2, _, _⟩ := DataW.trod_int Try.underlying3 g2
  obtain ⟨a3, e3, _, _⟩ := DataW.trod_int Try.underlying3 g3
  simp at e0 e1 e2 e3
  subst e0 e1 e2 e3
  exact ⟨a0, a1, a2, a3, rfl⟩
end Go.Proofs.Ytdkiembkigadkaa.Arg
