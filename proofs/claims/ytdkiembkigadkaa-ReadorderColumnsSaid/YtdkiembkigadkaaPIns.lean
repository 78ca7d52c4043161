/- Sorting by insertion under the order from top to bottom; what is sorted so is one. -/
namespace Go.Proofs.Ytdkiembkigadkaa.P
set_option linter.unusedVariables false
def ins (ab : Int → Int → Bool) (x : Int) : List Int → List Int
  | [] => [x]
  | y :: ys => if ab y x = true then y :: ins ab x ys else x :: y :: ys
def isort (ab : Int → Int → Bool) (l : List Int) : List Int := l.foldl (fun s x => ins ab x s) []
/-- a strict order of all numbers -/
structure Tot (ab : Int → Int → Bool) : Prop where
  tr : ∀ x y z, ab x y = true → ab y z = true → ab x z = true
  ir : ∀ x, ab x x = false
  to : ∀ x y, ab x y = false → ab y x = false → x = y
section
variable {ab : Int → Int → Bool}
theorem ins_perm (x : Int) : ∀ l, (ins ab x l).Perm (x :: l)
  | [] => List.Perm.refl _
  | y :: ys => by
    rw [ins]
    split
    · exact ((ins_perm x ys).cons y).trans (List.Perm.swap x y ys)
    · exact List.Perm.refl _
theorem foldl_ins_perm : ∀ (l s : List Int), (l.foldl (fun s x => ins ab x s) s).Perm (l ++ s)
  | [], s => List.Perm.refl _
  | x :: xs, s => by
    rw [List.foldl_cons]
    refine (foldl_ins_perm xs _).trans ?_
    refine ((ins_perm x s).append_left xs).trans ?_
    exact List.perm_middle
theorem isort_perm (l : List Int) : (isort ab l).Perm l := by
  have := foldl_ins_perm (ab := ab) l []
  rwa [List.append_nil] at this
theorem Tot.le_trans (T : Tot ab) {x y z : Int} (h1 : ab y x = false) (h2 : ab z y = false) : ab z x = false := by
  cases h : ab z x
  · rfl
  · cases h3 : ab x y
    · have := T.to x y h3 h1
      subst this
      rw [h] at h2; cases h2
    · rw [T.tr z x y h h3] at h2; cases h2
theorem ins_sorted (T : Tot ab) (x : Int) : ∀ l, l.Pairwise (fun a b => ab b a = false) → (ins ab x l).Pairwise (fun a b => ab b a = false)
  | [], _ => by rw [ins]; exact List.pairwise_singleton _ _
  | y :: ys, h => by
    obtain ⟨h1, h2⟩ := List.pairwise_cons.1 h
    rw [ins]
    split
    · next q =>
      refine List.pairwise_cons.2 ⟨fun z hz => ?_, ins_sorted T x ys h2⟩
      rcases List.mem_cons.1 ((ins_perm x ys).mem_iff.1 hz) with rfl | hz
      · cases h3 : ab z y
        · rfl
        · have := T.tr _ _ _ q h3
          rw [T.ir] at this; cases this
      · exact h1 z hz
    · next q =>
      have q' : ab y x = false := by simpa using q
      refine List.pairwise_cons.2 ⟨fun z hz => ?_, h⟩
      rcases List.mem_cons.1 hz with rfl | hz
      · exact q'
      · exact T.le_trans q' (h1 z hz)
theorem foldl_ins_sorted (T : Tot ab) : ∀ (l s : List Int), s.Pairwise (fun a b => ab b a = false) → (l.foldl (fun s x => ins ab x s) s).Pairwise (fun a b => ab b a = false)
  | [], s, h => h
  | x :: xs, s, h => by rw [List.foldl_cons]; exact foldl_ins_sorted T xs _ (ins_sorted T x s h)
theorem isort_sorted (T : Tot ab) (l : List Int) : (isort ab l).Pairwise (fun a b => ab b a = false) := foldl_ins_sorted T l [] List.Pairwise.nil
theorem sorted_eq (T : Tot ab) {l r : List Int} (hp : r.Perm l) (hs : r.Pairwise (fun a b => ab b a = false)) : r = isort ab l :=
  List.Perm.eq_of_pairwise (le := fun a b => ab b a = false) (fun a b _ _ h1 h2 => T.to a b h2 h1) hs (isort_sorted T l) (hp.trans (isort_perm l).symm)
theorem isort_congr {l r : List Int} (T : Tot ab) (hp : r.Perm l) : isort ab r = isort ab l := sorted_eq T ((isort_perm r).trans hp) (isort_sorted T r)
theorem isort_length (l : List Int) : (isort ab l).length = l.length := (isort_perm l).length_eq
theorem mem_isort {l : List Int} {x : Int} : x ∈ isort ab l ↔ x ∈ l := (isort_perm l).mem_iff
end
/-- by y, then by x, then by the number itself -/
def abv (Y X : Int → Int) (i k : Int) : Bool := if Y i = Y k then (if X i = X k then decide (i < k) else decide (X i < X k)) else decide (Y i < Y k)
theorem abv_iff {Y X : Int → Int} {i k : Int} : abv Y X i k = true ↔ (Y i < Y k ∨ (Y i = Y k ∧ (X i < X k ∨ (X i = X k ∧ i < k)))) := by
  unfold abv
  split
  · split
    · simp only [decide_eq_true_eq]; omega
    · simp only [decide_eq_true_eq]; omega
  · simp only [decide_eq_true_eq]; omega
theorem abv_tot (Y X : Int → Int) : Tot (abv Y X) where
  tr x y z h1 h2 := by rw [abv_iff] at *; omega
  ir x := by
    cases h : abv Y X x x
    · rfl
    · rw [abv_iff] at h; omega
  to x y h1 h2 := by
    have h3 : ¬ abv Y X x y = true := by simp [h1]
    have h4 : ¬ abv Y X y x = true := by simp [h2]
    rw [abv_iff] at h3 h4
    omega
/-- by x alone, then by the number -/
def lef (X : Int → Int) (i k : Int) : Bool := if X i = X k then decide (i < k) else decide (X i < X k)
theorem lef_iff {X : Int → Int} {i k : Int} : lef X i k = true ↔ (X i < X k ∨ (X i = X k ∧ i < k)) := by
  unfold lef
  split <;> (simp only [decide_eq_true_eq]; omega)
theorem lef_tot (X : Int → Int) : Tot (lef X) where
  tr x y z h1 h2 := by rw [lef_iff] at *; omega
  ir x := by
    cases h : lef X x x
    · rfl
    · rw [lef_iff] at h; omega
  to x y h1 h2 := by
    have h3 : ¬ lef X x y = true := by simp [h1]
    have h4 : ¬ lef X y x = true := by simp [h2]
    rw [lef_iff] at h3 h4
    omega
end Go.Proofs.Ytdkiembkigadkaa.P
