/- Plain facts for components.numbered: the keys of a map that were met, sorted; the map from keys to their places. -/
import Derived.Test.YtahibhipffojlaaUnite
import Derived.Maps.RangeWalk
import Derived.Sort.KeysCollected
set_option linter.unusedSimpArgs false
set_option linter.unusedVariables false
namespace Go.Proofs.Ytahibhipffojlaa.Num
open Go.RowKit Go.Maps Go.Proofs.YtahibhipffojlaaW.PrintLast Go.Proofs.YtahibhipffojlaaW.PrintWords Go.Proofs.YtahibhipffojlaaW.PrintMore Go.Proofs.Ytahibhipffojlaa.M Go.Proofs.Ytahibhipffojlaa.Map

abbrev leI : Int → Int → Bool := fun x y => decide (x ≤ y)

/-- the keys that a map has -/
def present (M : List (Option S38)) : List Int := ((List.range M.length).filter fun k => (M.getD k none).isSome).map fun k => ((k : Nat) : Int)

/-- ss: the keys met so far -/
structure Coll (M : List (Option S38)) (left : Lit → Bool) (ss : List Int) : Prop where
  nd : ss.Nodup
  inn : ∀ x ∈ ss, ∃ k : Nat, x = k ∧ (M.getD k none).isSome = true ∧ left (key k) = false
  out : ∀ k : Nat, (M.getD k none).isSome = true → left (key k) = false → (k : Int) ∈ ss

theorem sameKey_key (j k : Nat) : (key j).sameKey (key k) = decide (j = k) := by
  unfold key Lit.sameKey
  by_cases h : j = k
  · subst h; simp
  · have : ¬ ((j : Int) = (k : Int)) := by omega
    simp [h, this]

theorem Coll.start {M : List (Option S38)} {D : D1} (h : MRel M D) : Coll M (has D) [] :=
  ⟨List.nodup_nil, fun x hx => (by simp at hx), fun k h1 h2 => by rw [h.has k, h1] at h2; cases h2⟩

theorem Coll.step {M : List (Option S38)} {left : Lit → Bool} {ss : List Int} (h : Coll M left ss) (k : Nat) (hk : (M.getD k none).isSome = true) (hl : left (key k) = true) : Coll M (fun z => left z && !z.sameKey (key k)) (ss ++ [(k : Int)]) := by
  refine ⟨?_, ?_, ?_⟩
  · refine List.nodup_append.2 ⟨h.nd, by simp, fun a ha b hb => ?_⟩
    simp at hb
    subst hb
    obtain ⟨j, rfl, _, h3⟩ := h.inn a ha
    intro e
    have : j = k := by omega
    subst this
    rw [hl] at h3; cases h3
  · intro x hx
    rcases List.mem_append.1 hx with hx | hx
    · obtain ⟨j, e, h2, h3⟩ := h.inn x hx
      exact ⟨j, e, h2, by rw [h3]; rfl⟩
    · simp at hx
      exact ⟨k, hx, hk, by rw [sameKey_key]; simp⟩
  · intro j hj hl2
    rw [sameKey_key] at hl2
    by_cases e : j = k
    · subst e; simp
    · have : left (key j) = false := by simpa [e] using hl2
      exact List.mem_append.2 (.inl (h.out j hj this))

theorem mem_present {M : List (Option S38)} {x : Int} : x ∈ present M ↔ ∃ k : Nat, x = k ∧ (M.getD k none).isSome = true := by
  unfold present
  simp only [List.mem_map, List.mem_filter, List.mem_range]
  constructor
  · rintro ⟨k, ⟨h1, h2⟩, rfl⟩
    exact ⟨k, rfl, h2⟩
  · rintro ⟨k, rfl, h2⟩
    refine ⟨k, ⟨?_, h2⟩, rfl⟩
    rcases Nat.lt_or_ge k M.length with h | h
    · exact h
    · rw [List.getD_eq_getElem?_getD, List.getElem?_eq_none h] at h2
      cases h2

theorem present_lt {M : List (Option S38)} : (present M).Pairwise (· < ·) := by
  unfold present
  rw [List.pairwise_map]
  refine List.Pairwise.filter _ ?_
  exact List.pairwise_lt_range.imp (fun h => by omega)

theorem present_nodup {M : List (Option S38)} : (present M).Nodup := present_lt.imp (fun h => by omega)

theorem present_length {M : List (Option S38)} : (present M).length ≤ M.length := by
  unfold present
  rw [List.length_map]
  exact Nat.le_trans (List.length_filter_le _ _) (by simp)

theorem Coll.sorted {M : List (Option S38)} {left : Lit → Bool} {ss : List Int} (h : Coll M left ss) (hl : ∀ kl, left kl = false) : ss.mergeSort leI = present M := by
  have tr : ∀ a b c : Int, leI a b = true → leI b c = true → leI a c = true := fun a b c h1 h2 => by simp only [leI, decide_eq_true_eq] at *; omega
  have tot : ∀ a b : Int, (leI a b || leI b a) = true := fun a b => by simp only [leI, Bool.or_eq_true, decide_eq_true_eq]; omega
  have hp : ss.Perm (present M) := (List.perm_ext_iff_of_nodup h.nd present_nodup).2 fun x => by
    rw [mem_present]
    constructor
    · intro hx
      obtain ⟨k, e, h2, _⟩ := h.inn x hx
      exact ⟨k, e, h2⟩
    · rintro ⟨k, rfl, h2⟩
      exact h.out k h2 (hl _)
  refine List.Perm.eq_of_pairwise (le := fun a b => leI a b = true) (fun a b _ _ h1 h2 => ?_) (List.pairwise_mergeSort tr tot ss) (present_lt.imp (fun h => by simp only [leI, decide_eq_true_eq]; omega)) ((List.mergeSort_perm ss leI).trans hp)
  simp only [leI, decide_eq_true_eq] at h1 h2
  omega

/-- the map from a row's entries to their places, of the first i -/
def numD (r : List Int) : Nat → D1
  | 0 => .map []
  | i + 1 => (numD r i).put (.int .i64 (r.getD i 0)) (.lit (.int .i64 (i : Int)))
theorem put_isMap {D : D1} (h : IsMap D) {k : Lit} {d : D1} : IsMap (D.put k d) := by
  obtain ⟨es, rfl⟩ := h
  exact ⟨_, rfl⟩
theorem numD_map (r : List Int) (i : Nat) : IsMap (numD r i) := by
  cases i with
  | zero => exact ⟨_, rfl⟩
  | succ i =>
    obtain ⟨es, h⟩ := numD_map r i
    exact put_isMap ⟨es, h⟩
theorem nodup_getD {r : List Int} (hn : r.Nodup) {i j : Nat} (hi : i < r.length) (hj : j < r.length) (e : r.getD i 0 = r.getD j 0) : i = j := by
  rw [List.getD_eq_getElem?_getD, List.getD_eq_getElem?_getD, List.getElem?_eq_getElem hi, List.getElem?_eq_getElem hj] at e
  exact (List.getElem_inj hn).1 e
theorem numD_at (r : List Int) (hn : r.Nodup) : ∀ i, i ≤ r.length → ∀ j, j < i → ∀ z, (numD r i).atKey (.int .i64 (r.getD j 0)) z = .lit (.int .i64 (j : Int)) := by
  intro i
  induction i with
  | zero => intro _ j hj; omega
  | succ i ih =>
    intro hi j hj z
    show ((numD r i).put (.int .i64 (r.getD i 0)) (.lit (.int .i64 (i : Int)))).atKey (.int .i64 (r.getD j 0)) z = _
    by_cases e : j = i
    · subst e
      exact atKey_put_same (k := Lit.int .i64 (r.getD j 0)) (numD_map r j) trivial _ _
    · rw [atKey_put_other]
      · exact ih (by omega) j (by omega) z
      · intro h
        simp only [Lit.int.injEq, true_and] at h
        exact e (nodup_getD hn (by omega) (by omega) h)

/-- the place of a root among the keys -/
def rank (M : List (Option S38)) (x : Int) : Int := (((present M).idxOf x : Nat) : Int)
def outs (M : List (Option S38)) : List S38 := (present M).map fun k => (M.getD k.toNat none).getD z38
/-- the labels as numbers -/
def renum (M : List (Option S38)) (rt : List Int) (l : Int) : Int := if 0 ≤ l then rank M (rt.getD l.toNat 0) else l
theorem rank_at {M : List (Option S38)} {k : Nat} (h : (M.getD k none).isSome = true) : ∃ j : Nat, rank M k = j ∧ j < (present M).length ∧ (present M).getD j 0 = k := by
  have hm : (k : Int) ∈ present M := mem_present.2 ⟨k, rfl, h⟩
  have hl := List.idxOf_lt_length_of_mem hm
  refine ⟨_, rfl, hl, ?_⟩
  rw [List.getD_eq_getElem?_getD, List.getElem?_eq_getElem hl, Option.getD_some, List.getElem_idxOf]
end Go.Proofs.Ytahibhipffojlaa.Num
