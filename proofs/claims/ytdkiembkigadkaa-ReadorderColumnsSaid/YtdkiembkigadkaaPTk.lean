/- Plain facts for the walk of readorder.Sort: what is left while the boxes are taken. -/
import Derived.Test.YtdkiembkigadkaaSortL
set_option linter.unusedSimpArgs false
set_option linter.unusedVariables false
namespace Go.Proofs.Ytdkiembkigadkaa.Map
open Go.Proofs.Ytdkiembkigadkaa
theorem left_len {n : Nat} {bf : Nat → Nat → Bool} {tk : List Nat} (O : P.Ord n bf tk) : ((List.range n).filter fun i => decide (i ∉ tk)).length + tk.length = n := by
  have hp : ((List.range n).filter fun i => decide (i ∈ tk)).Perm tk := (List.perm_ext_iff_of_nodup (List.nodup_range.filter _) O.nd).2 fun x => by
    rw [List.mem_filter, List.mem_range]
    constructor
    · rintro ⟨_, h⟩
      simpa using h
    · intro h
      exact ⟨O.lt x h, by simpa using h⟩
  have h1 := List.length_eq_countP_add_countP (fun i => decide (i ∈ tk)) (l := List.range n)
  rw [List.length_range, List.countP_eq_length_filter, List.countP_eq_length_filter, hp.length_eq] at h1
  have e : (fun a => decide ¬decide (a ∈ tk) = true) = fun i : Nat => decide (i ∉ tk) := by
    funext a
    simp
  rw [e] at h1
  omega
theorem present_tk {n : Nat} {bf : Nat → Nat → Bool} {tk : List Nat} (O : P.Ord n bf tk) (c : Nat → Nat) : (present n fun j => if j ∈ tk then none else some (c j)) = ((List.range n).filter fun i => decide (i ∉ tk)).map (fun k => ((k : Nat) : Int)) := by
  unfold present
  congr 2
  funext k
  by_cases h : k ∈ tk <;> simp [h]
/-- what the search in the map says of the next box -/
theorem next_found {n : Nat} {bf : Nat → Nat → Bool} {tk : List Nat} {L : List Nat} (hL : (List.range n).filter (fun i => decide (i ∉ tk)) = L) {q k : Nat} (hq : L[q]? = some k) (hk : P.cnt bf tk k n = 0) (hb : ∀ p, p < q → ∀ j, L[p]? = some j → P.cnt bf tk j n ≠ 0) :
    P.next n bf tk = some k := by
  rw [P.next_eq, hL]
  have hlt : q < L.length := (List.getElem?_eq_some_iff.1 hq).1
  rw [List.find?_eq_some_iff_getElem]
  refine ⟨by simpa using hk, q, hlt, (List.getElem?_eq_some_iff.1 hq).2, fun j hj => ?_⟩
  have := hb j hj _ (List.getElem?_eq_getElem (by omega))
  simpa using this
theorem next_none {n : Nat} {bf : Nat → Nat → Bool} {tk : List Nat} {L : List Nat} (hL : (List.range n).filter (fun i => decide (i ∉ tk)) = L) (hb : ∀ p, p < L.length → ∀ j, L[p]? = some j → P.cnt bf tk j n ≠ 0) : P.next n bf tk = none := by
  rw [P.next_eq, hL, List.find?_eq_none]
  intro x hx
  obtain ⟨p, hp, e⟩ := List.mem_iff_getElem.1 hx
  have := hb p hp x (by rw [List.getElem?_eq_getElem hp, e])
  simpa using this
theorem run_next {n : Nat} {bf : Nat → Nat → Bool} {tk : List Nat} {k m : Nat} (h : P.next n bf tk = some k) : P.run n bf (m + 1) tk = P.run n bf m (tk ++ [k]) := by
  rw [P.run, h, Option.bind_some]
theorem run_none {n : Nat} {bf : Nat → Nat → Bool} {tk : List Nat} {m : Nat} (h : P.next n bf tk = none) : P.run n bf (m + 1) tk = none := by
  rw [P.run, h, Option.bind_none]
end Go.Proofs.Ytdkiembkigadkaa.Map
