/- Merged of POrd, PCnt. -/
/- POrd -/
namespace Go.Proofs.Ytdkiembkigadkaa.P
set_option linter.unusedVariables false

section
variable (n : Nat) (bf : Nat → Nat → Bool)
/-- i is left, and none that is left comes before it -/
def free (tk : List Nat) (i : Nat) : Bool := decide (i ∉ tk) && (List.range n).all fun k => decide (k ∈ tk) || !bf k i
def next (tk : List Nat) : Option Nat := (List.range n).find? (free n bf tk)
def run : Nat → List Nat → Option (List Nat)
  | 0, out => some out
  | m + 1, out => (next n bf out).bind fun i => run m (out ++ [i])
def sortF : Option (List Nat) := run n bf n []
/-- what holds of the boxes that are read so far -/
structure Ord (out : List Nat) : Prop where
  nd : out.Nodup
  lt : ∀ x ∈ out, x < n
  fr : ∀ p, (hp : p < out.length) → ∀ k, k < n → k ∉ out.take p → bf k out[p] = false
end
section
variable {n : Nat} {bf : Nat → Nat → Bool}
theorem Ord.start : Ord n bf [] := ⟨List.nodup_nil, fun x hx => (by cases hx), fun p hp => absurd hp (Nat.not_lt_zero _)⟩
theorem free_iff {tk : List Nat} {i : Nat} : free n bf tk i = true ↔ (i ∉ tk ∧ ∀ k, k < n → k ∉ tk → bf k i = false) := by
  unfold free
  rw [Bool.and_eq_true, decide_eq_true_eq, List.all_eq_true]
  constructor
  · rintro ⟨h1, h2⟩
    refine ⟨h1, fun k hk hkt => ?_⟩
    have := h2 k (List.mem_range.2 hk)
    rw [Bool.or_eq_true, decide_eq_true_eq] at this
    rcases this with h | h
    · exact absurd h hkt
    · simpa using h
  · rintro ⟨h1, h2⟩
    refine ⟨h1, fun k hk => ?_⟩
    rw [Bool.or_eq_true, decide_eq_true_eq]
    by_cases q : k ∈ tk
    · exact .inl q
    · exact .inr (by rw [h2 k (List.mem_range.1 hk) q]; rfl)
theorem next_some {tk : List Nat} {i : Nat} (h : next n bf tk = some i) : i < n ∧ free n bf tk i = true ∧ ∀ j, j < i → free n bf tk j = false := by
  unfold next at h
  refine ⟨List.mem_range.1 (List.mem_of_find?_eq_some h), List.find?_some h, fun j hj => ?_⟩
  have hi := List.mem_range.1 (List.mem_of_find?_eq_some h)
  rw [List.find?_range_eq_some] at h
  simpa using h.2.2 j hj
theorem Ord.add {out : List Nat} {i : Nat} (O : Ord n bf out) (h : next n bf out = some i) : Ord n bf (out ++ [i]) := by
  obtain ⟨h1, h2, _⟩ := next_some h
  obtain ⟨h3, h4⟩ := free_iff.1 h2
  refine ⟨?_, fun x hx => ?_, fun p hp k hk hkt => ?_⟩
  · rw [List.nodup_append]
    refine ⟨O.nd, by simp, fun a ha b hb => ?_⟩
    rw [List.mem_singleton] at hb
    subst hb
    rintro rfl
    exact h3 ha
  · rcases List.mem_append.1 hx with hx | hx
    · exact O.lt x hx
    · rw [List.mem_singleton] at hx; subst hx; exact h1
  · rw [List.length_append, List.length_singleton] at hp
    by_cases q : p < out.length
    · rw [List.getElem_append_left q]
      rw [List.take_append_of_le_length (Nat.le_of_lt q)] at hkt
      exact O.fr p q k hk hkt
    · have e : p = out.length := by omega
      subst e
      rw [List.getElem_append_right (Nat.le_refl _)]
      rw [List.take_left'  rfl] at hkt
      simpa using h4 k hk hkt
theorem run_ord : ∀ (m : Nat) (out r : List Nat), Ord n bf out → run n bf m out = some r → Ord n bf r ∧ r.length = out.length + m := by
  intro m
  induction m with
  | zero => intro out r O h; injection h with h; subst h; exact ⟨O, rfl⟩
  | succ m ih =>
    intro out r O h
    rw [run] at h
    cases e : next n bf out with
    | none => rw [e] at h; cases h
    | some i =>
      rw [e, Option.bind_some] at h
      obtain ⟨h1, h2⟩ := ih _ r (O.add e) h
      rw [List.length_append, List.length_singleton] at h2
      exact ⟨h1, by omega⟩
/-- the order has each number once, and none comes before an earlier one -/
theorem sortF_ord {r : List Nat} (h : sortF n bf = some r) : r.length = n ∧ r.Nodup ∧ (∀ x ∈ r, x < n) ∧ ∀ p q, (hp : p < q) → (hq : q < r.length) → bf r[q] (r[p]'(Nat.lt_trans hp hq)) = false := by
  obtain ⟨O, hl⟩ := run_ord n [] r Ord.start h
  refine ⟨by simpa using hl, O.nd, O.lt, fun p q hp hq => O.fr p (Nat.lt_trans hp hq) _ (O.lt _ (List.getElem_mem hq)) fun hm => ?_⟩
  obtain ⟨j, hj, e⟩ := List.mem_iff_getElem.1 hm
  rw [List.length_take] at hj
  rw [List.getElem_take] at e
  exact (List.pairwise_iff_getElem.1 O.nd) j q (by omega) hq (by omega) e
end
end Go.Proofs.Ytdkiembkigadkaa.P

/- PCnt -/
namespace Go.Proofs.Ytdkiembkigadkaa.P
set_option linter.unusedVariables false
/-- of the first m, how many are left and come before i -/
def cnt (bf : Nat → Nat → Bool) (tk : List Nat) (i : Nat) : Nat → Nat
  | 0 => 0
  | m + 1 => cnt bf tk i m + if decide (m ∉ tk) && bf m i then 1 else 0
section
variable {bf : Nat → Nat → Bool}
theorem cnt_le (tk : List Nat) (i : Nat) : ∀ m, cnt bf tk i m ≤ m
  | 0 => Nat.le_refl _
  | m + 1 => by
    have := cnt_le tk i m
    rw [cnt]
    split <;> omega
theorem cnt_zero (tk : List Nat) (i : Nat) : ∀ m, cnt bf tk i m = 0 ↔ ∀ k, k < m → k ∉ tk → bf k i = false
  | 0 => by simp [cnt]
  | m + 1 => by
    rw [cnt, Nat.add_eq_zero_iff, cnt_zero tk i m]
    constructor
    · rintro ⟨h1, h2⟩ k hk hkt
      by_cases q : k = m
      · subst q
        cases hb : bf k i
        · rfl
        · simp [hkt, hb] at h2
      · exact h1 k (by omega) hkt
    · intro h
      refine ⟨fun k hk => h k (by omega), ?_⟩
      by_cases q : m ∈ tk
      · simp [q]
      · simp [h m (by omega) q]
theorem cnt_snoc (tk : List Nat) (x i : Nat) (hx : x ∉ tk) : ∀ m, cnt bf (tk ++ [x]) i m + (if x < m ∧ bf x i = true then 1 else 0) = cnt bf tk i m
  | 0 => by simp [cnt]
  | m + 1 => by
    have ih := cnt_snoc tk x i hx m
    rw [cnt, cnt, ← ih]
    by_cases q : x = m
    · subst q
      have h1 : ¬ (x < x ∧ bf x i = true) := by omega
      have h2 : x ∈ tk ++ [x] := by simp
      rw [if_neg h1]
      cases hb : bf x i <;> simp [hx, hb]
    · have e : decide (m ∉ tk ++ [x]) = decide (m ∉ tk) := by
        simp [show ¬ m = x from fun h => q h.symm]
      rw [e]
      have e2 : (x < m + 1 ∧ bf x i = true) ↔ (x < m ∧ bf x i = true) := ⟨fun h => ⟨by omega, h.2⟩, fun h => ⟨by omega, h.2⟩⟩
      simp only [e2]
      omega
end
section
variable {n : Nat} {bf : Nat → Nat → Bool}
theorem free_cnt {tk : List Nat} {i : Nat} : free n bf tk i = true ↔ (i ∉ tk ∧ cnt bf tk i n = 0) := by
  rw [free_iff, cnt_zero]
/-- what the program's search finds: the first of the ones that are left, in order, with no box before it -/
theorem next_eq (tk : List Nat) : next n bf tk = ((List.range n).filter fun i => decide (i ∉ tk)).find? fun i => decide (cnt bf tk i n = 0) := by
  unfold next
  rw [List.find?_filter]
  congr 1
  funext i
  rw [Bool.eq_iff_iff, free_cnt]
  simp
end
end Go.Proofs.Ytdkiembkigadkaa.P
