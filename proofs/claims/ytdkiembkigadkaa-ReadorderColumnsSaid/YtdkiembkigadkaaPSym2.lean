/- Merged of PSym, PInsS. -/
import Derived.Sort.Lot0
import Derived.Sort.LotA
import Derived.Sort.WalkA
/- PSym -/
set_option linter.unusedSimpArgs false
set_option linter.unusedVariables false
namespace Go.Proofs.Ytdkiembkigadkaa.P
open Go.Sort
variable {α : Type} [Inhabited α]
/-- n places from a on change with those from b on -/
def swR (d : Array α) (a b : Nat) : Nat → Array α
  | 0 => d
  | n + 1 => swp (swR d a b n) (a + n) (b + n)
theorem size_swR (d : Array α) (a b : Nat) : ∀ n, (swR d a b n).size = d.size
  | 0 => rfl
  | n + 1 => by rw [swR, size_swp, size_swR d a b n]
theorem swR_get (d : Array α) (a b : Nat) : ∀ n, a + n ≤ b → b + n ≤ d.size → ∀ t, (swR d a b n)[t]! = if a ≤ t ∧ t < a + n then d[b + (t - a)]! else if b ≤ t ∧ t < b + n then d[a + (t - b)]! else d[t]! := by
  intro n
  induction n with
  | zero => intro _ _ t; rw [if_neg (by omega), if_neg (by omega)]; rfl
  | succ n ih =>
    intro h1 h2 t
    have hi := ih (by omega) (by omega)
    have hz := size_swR d a b n
    rw [swR, swp_get _ (by omega) (by omega)]
    by_cases e1 : t = a + n
    · subst e1
      simp only [hi, if_true]
      repeat' split
      all_goals first | omega | (simp only [Nat.add_sub_cancel_left]; done) | (congr 1; omega)
    · by_cases e2 : t = b + n
      · subst e2
        simp only [hi, if_true]
        repeat' split
        all_goals first | omega | (simp only [Nat.add_sub_cancel_left]; done) | (congr 1; omega)
      · simp only [hi]
        repeat' split
        all_goals first | omega | rfl | (congr 1; omega)
theorem swR_perm (d : Array α) (a b lo hi : Nat) : ∀ n, lo ≤ a → a + n ≤ hi → lo ≤ b → b + n ≤ hi → hi ≤ d.size → PermIn lo hi d (swR d a b n) := by
  intro n
  induction n with
  | zero => intro _ _ _ _ _; exact permIn_refl _ _ _
  | succ n ih =>
    intro h1 h2 h3 h4 h5
    exact permIn_trans _ _ _ _ _ (ih h1 (by omega) h3 (by omega) h5) (swp_permIn _ _ _ _ _ (by omega) (by omega) (by omega) (by omega) (by rw [size_swR]; exact h5))
/-- what a rotation puts at place t: [m, b) before [a, m) -/
def rotV (a m b : Nat) (d : Array α) (t : Nat) : α := if a ≤ t ∧ t < b then (if t < a + (b - m) then d[t + (m - a)]! else d[t - (b - m)]!) else d[t]!
theorem rotV_gt (d : Array α) (m i j : Nat) (h : j < i) (hi : i ≤ m) (hz : m + j ≤ d.size) (t : Nat) : rotV (m - i) m (m + j) d t = rotV (m - (i - j)) m (m + j) (swR d (m - i) m j) t := by
  unfold rotV
  simp only [swR_get d (m - i) m j (by omega) hz]
  repeat' split
  all_goals first | omega | rfl | (congr 1; omega)
theorem rotV_lt (d : Array α) (m i j : Nat) (h : i < j) (hi : i ≤ m) (hz : m + j ≤ d.size) (t : Nat) : rotV (m - i) m (m + j) d t = rotV (m - i) m (m + (j - i)) (swR d (m - i) (m + j - i) i) t := by
  unfold rotV
  simp only [swR_get d (m - i) (m + j - i) i (by omega) (by omega)]
  repeat' split
  all_goals first | omega | rfl | (congr 1; omega)
theorem rotV_eq (d : Array α) (m i : Nat) (hi : i ≤ m) (hz : m + i ≤ d.size) (t : Nat) : rotV (m - i) m (m + i) d t = (swR d (m - i) m i)[t]! := by
  unfold rotV
  rw [swR_get d (m - i) m i (by omega) hz]
  repeat' split
  all_goals first | omega | rfl | (congr 1; omega)
/-- one place moved up (to i - 1), what lies between moved down -/
def shU (d : Array α) (a : Nat) : Nat → Array α
  | 0 => d
  | n + 1 => swp (shU d a n) (a + n) (a + n + 1)
theorem size_shU (d : Array α) (a : Nat) : ∀ n, (shU d a n).size = d.size
  | 0 => rfl
  | n + 1 => by rw [shU, size_swp, size_shU d a n]
theorem shU_get (d : Array α) (a : Nat) : ∀ n, a + n < d.size → ∀ t, (shU d a n)[t]! = rotV a (a + 1) (a + n + 1) d t := by
  intro n
  induction n with
  | zero => intro _ t; unfold rotV; rw [shU]; repeat' split
            all_goals first | omega | rfl | (congr 1; omega)
  | succ n ih =>
    intro h1 t
    have hi := ih (by omega)
    have hz := size_shU d a n
    rw [shU, swp_get _ (by omega) (by omega)]
    simp only [hi]
    unfold rotV
    by_cases e1 : t = a + n
    · subst e1
      repeat' split
      all_goals first | omega | rfl | (congr 1; omega)
    · by_cases e2 : t = a + n + 1
      · subst e2
        repeat' split
        all_goals first | omega | rfl | (congr 1; omega)
      · repeat' split
        all_goals first | omega | rfl | (congr 1; omega)
theorem shU_perm (d : Array α) (a lo hi : Nat) : ∀ n, lo ≤ a → a + n < hi → hi ≤ d.size → PermIn lo hi d (shU d a n) := by
  intro n
  induction n with
  | zero => intro _ _ _; exact permIn_refl _ _ _
  | succ n ih =>
    intro h1 h2 h5
    exact permIn_trans _ _ _ _ _ (ih h1 (by omega) h5) (swp_permIn _ _ _ _ _ (by omega) (by omega) (by omega) (by omega) (by rw [size_shU]; exact h5))
/-- the place m moved down n places, what lies between moved up -/
def shD (d : Array α) (m : Nat) : Nat → Array α
  | 0 => d
  | n + 1 => swp (shD d m n) (m - n) (m - n - 1)
theorem size_shD (d : Array α) (a : Nat) : ∀ n, (shD d a n).size = d.size
  | 0 => rfl
  | n + 1 => by rw [shD, size_swp, size_shD d a n]
theorem shD_get (d : Array α) (m : Nat) (hm : m < d.size) : ∀ n, n ≤ m → ∀ t, (shD d m n)[t]! = rotV (m - n) m (m + 1) d t := by
  intro n
  induction n with
  | zero => intro _ t; unfold rotV; rw [shD]; repeat' split
            all_goals first | omega | rfl | (congr 1; omega)
  | succ n ih =>
    intro h1 t
    have hi := ih (by omega)
    have hz := size_shD d m n
    rw [shD, swp_get _ (by omega) (by omega)]
    simp only [hi]
    unfold rotV
    by_cases e1 : t = m - n
    · subst e1
      repeat' split
      all_goals first | omega | rfl | (congr 1; omega)
    · by_cases e2 : t = m - n - 1
      · subst e2
        repeat' split
        all_goals first | omega | rfl | (congr 1; omega)
      · repeat' split
        all_goals first | omega | rfl | (congr 1; omega)
theorem shD_perm (d : Array α) (m lo hi : Nat) : ∀ n, lo + n ≤ m → m < hi → hi ≤ d.size → PermIn lo hi d (shD d m n) := by
  intro n
  induction n with
  | zero => intro _ _ _; exact permIn_refl _ _ _
  | succ n ih =>
    intro h1 h2 h5
    exact permIn_trans _ _ _ _ _ (ih (by omega) h2 h5) (swp_permIn _ _ _ _ _ (by omega) (by omega) (by omega) (by omega) (by rw [size_shD]; exact h5))
section
variable (K : α → Int)
/-- ascending by key on [a, b) -/
def So (a b : Nat) (d : Array α) : Prop := ∀ i j, a ≤ i → i < j → j < b → K d[i]! ≤ K d[j]!
variable {K}
theorem So.le {a b : Nat} {d : Array α} (h : So K a b d) {i j : Nat} (h1 : a ≤ i) (h2 : i ≤ j) (h3 : j < b) : K d[i]! ≤ K d[j]! := by
  by_cases e : i = j
  · subst e; exact Int.le_refl _
  · exact h i j h1 (by omega) h3
/-- one element before a sorted row: behind its shift all is sorted -/
theorem one_up {d e : Array α} {a b i : Nat} (h : So K (a + 1) b d) (hi : a + 1 ≤ i) (hb : i ≤ b) (h1 : ∀ t, a + 1 ≤ t → t < i → K d[t]! < K d[a]!) (h2 : ∀ t, i ≤ t → t < b → K d[a]! ≤ K d[t]!) (he : ∀ t, e[t]! = rotV a (a + 1) i d t) : So K a b e := by
  intro p q hp hpq hq
  rw [he, he]
  unfold rotV
  repeat' split
  all_goals first
    | omega
    | (refine h.le ?_ ?_ ?_ <;> omega)
    | (rename_i g1 g2 g3 g4
       have e1 : q - (i - (a + 1)) = a := by omega
       rw [e1]
       exact Int.le_of_lt (h1 _ (by omega) (by omega)))
    | (have e1 : p - (i - (a + 1)) = a := by omega
       rw [e1]
       exact h2 _ (by omega) (by omega))
/-- one element behind a sorted row -/
theorem one_down {d e : Array α} {a m i : Nat} (h : So K a m d) (hi : a ≤ i) (hb : i ≤ m) (h1 : ∀ t, a ≤ t → t < i → K d[t]! ≤ K d[m]!) (h2 : ∀ t, i ≤ t → t < m → K d[m]! < K d[t]!) (he : ∀ t, e[t]! = rotV i m (m + 1) d t) : So K a (m + 1) e := by
  intro p q hp hpq hq
  rw [he, he]
  unfold rotV
  repeat' split
  all_goals first
    | omega
    | (refine h.le ?_ ?_ ?_ <;> omega)
    | (have e1 : q + (m - i) = m := by omega
       rw [e1]
       exact h1 _ (by omega) (by omega))
    | (have e1 : p + (m - i) = m := by omega
       rw [e1]
       exact Int.le_of_lt (h2 _ (by omega) (by omega)))
/-- behind the cut at s and the rotation of [s, m, e): two halves that are sorted in two parts each, all of the left one not more than all of the right one -/
structure Cut (K : α → Int) (a mid b s e : Nat) (r : Array α) : Prop where
  l1 : So K a s r
  l2 : So K s mid r
  r1 : So K mid e r
  r2 : So K e b r
  lr : ∀ p q, a ≤ p → p < mid → mid ≤ q → q < b → K r[p]! ≤ K r[q]!
theorem cut_of {d r : Array α} {a m b mid s e lo hi : Nat} (hS : So K a m d) (hT : So K m b d) (ham : a < m) (hmb : m < b) (hs1 : lo ≤ s) (hs2 : s ≤ hi) (hlo : a ≤ lo) (hhi : hi ≤ m)
    (hmid : s + e = mid + m) (hm1 : a ≤ mid) (hm2 : mid ≤ b) (hsm : s ≤ mid) (hme : m ≤ e) (heb : e ≤ b)
    (hlo' : lo = a ∨ lo + b = mid + m) (hhi' : hi = m ∨ hi = mid)
    (h1 : lo < s → K d[s - 1]! ≤ K d[e]!) (h2 : s < hi → K d[e - 1]! < K d[s]!) (hr : ∀ t, r[t]! = rotV s m e d t) : Cut K a mid b s e r := by
  have hA : s < m → m < e → K d[e - 1]! ≤ K d[s]! := fun g1 g2 => by
    rcases hhi' with h | h
    · exact Int.le_of_lt (h2 (by omega))
    · exact Int.le_of_lt (h2 (by omega))
  have hB : a < s → e < b → K d[s - 1]! ≤ K d[e]! := fun g1 g2 => by
    rcases hlo' with h | h
    · exact h1 (by omega)
    · exact h1 (by omega)
  refine ⟨?_, ?_, ?_, ?_, ?_⟩
  · intro p q hp hpq hq
    rw [hr, hr]
    unfold rotV
    rw [if_neg (by omega), if_neg (by omega)]
    exact hS.le hp (by omega) (by omega)
  · intro p q hp hpq hq
    rw [hr, hr]
    unfold rotV
    rw [if_pos (by omega), if_pos (by omega), if_pos (by omega), if_pos (by omega)]
    exact hT.le (by omega) (by omega) (by omega)
  · intro p q hp hpq hq
    rw [hr, hr]
    unfold rotV
    rw [if_pos (by omega), if_neg (by omega), if_pos (by omega), if_neg (by omega)]
    exact hS.le (by omega) (by omega) (by omega)
  · intro p q hp hpq hq
    rw [hr, hr]
    unfold rotV
    rw [if_neg (by omega), if_neg (by omega)]
    exact hT.le (by omega) (by omega) (by omega)
  · intro p q hp hpm hmq hq
    rw [hr, hr]
    unfold rotV
    by_cases c1 : p < s
    · rw [if_neg (by omega)]
      by_cases c2 : q < e
      · rw [if_pos (by omega), if_neg (by omega)]
        exact hS.le (by omega) (by omega) (by omega)
      · rw [if_neg (by omega)]
        have g1 := hS.le (i := p) (j := s - 1) (by omega) (by omega) (by omega)
        have g2 := hB (by omega) (by omega)
        have g3 := hT.le (i := e) (j := q) (by omega) (by omega) (by omega)
        omega
    · rw [if_pos (by omega), if_pos (by omega)]
      by_cases c2 : q < e
      · rw [if_pos (by omega), if_neg (by omega)]
        have g1 := hT.le (i := p + (m - s)) (j := e - 1) (by omega) (by omega) (by omega)
        have g2 := hA (by omega) (by omega)
        have g3 := hS.le (i := s) (j := q - (e - m)) (by omega) (by omega) (by omega)
        omega
      · rw [if_neg (by omega)]
        exact hT.le (by omega) (by omega) (by omega)
theorem So.congr {d e : Array α} {a b : Nat} (h : So K a b d) (he : ∀ t, a ≤ t → t < b → e[t]! = d[t]!) : So K a b e := fun p q hp hpq hq => by
  rw [he p hp (by omega), he q (by omega) hq]
  exact h p q hp hpq hq
/-- both halves sorted: all is -/
theorem halves {d1 d2 d3 : Array α} {a mid b : Nat} (h0 : ∀ p q, a ≤ p → p < mid → mid ≤ q → q < b → K d1[p]! ≤ K d1[q]!) (ham : a ≤ mid) (hmb : mid ≤ b) (hz : b ≤ d1.size) (p1 : PermIn a mid d1 d2) (s1 : So K a mid d2) (p2 : PermIn mid b d2 d3) (s2 : So K mid b d3) : So K a b d3 := by
  obtain ⟨z1, o1, _⟩ := id p1
  obtain ⟨z2, o2, _⟩ := id p2
  have h1 : ∀ p q, a ≤ p → p < mid → mid ≤ q → q < b → K d2[p]! ≤ K d2[q]! := by
    intro p q h2 h3 h4 h5
    have := permIn_all d1 d2 a mid (fun x => K x ≤ K d1[q]!) (by omega) p1 (fun i g1 g2 => h0 i q g1 g2 h4 h5) p h2 h3
    rw [o1 q (by omega)]
    exact this
  have h2 : ∀ p q, a ≤ p → p < mid → mid ≤ q → q < b → K d3[p]! ≤ K d3[q]! := by
    intro p q g2 g3 g4 g5
    have := permIn_all d2 d3 mid b (fun x => K d2[p]! ≤ K x) (by omega) p2 (fun i e1 e2 => h1 p i g2 g3 e1 e2) q g4 g5
    rw [o2 p (by omega)]
    exact this
  intro p q hp hpq hq
  by_cases c1 : q < mid
  · rw [o2 p (by omega), o2 q (by omega)]
    exact s1 p q hp hpq c1
  · by_cases c2 : p < mid
    · exact h2 p q hp c2 (by omega) hq
    · exact s2 p q (by omega) hpq hq
end
end Go.Proofs.Ytdkiembkigadkaa.P

/- PInsS -/
set_option linter.unusedSimpArgs false
set_option linter.unusedVariables false
namespace Go.Proofs.Ytdkiembkigadkaa.P
open Go.Sort
variable {α : Type} [Inhabited α]
theorem inner_perm (lt : α → α → Bool) (a : Nat) : ∀ (j : Nat) (d : Array α), a ≤ j → j < d.size → PermIn a (j + 1) d (insInner lt a j d) := by
  intro j
  induction j with
  | zero => intro d _ _; rw [insInner]; exact permIn_refl _ _ _
  | succ j ih =>
    intro d ha hj
    rw [insInner]
    split
    · rename_i h
      rw [Bool.and_eq_true, decide_eq_true_eq] at h
      refine permIn_trans _ _ _ _ _ (swp_permIn d a (j + 1 + 1) (j + 1) j (by omega) (by omega) (by omega) (by omega) (by omega)) ?_
      exact permIn_mono _ _ _ _ _ _ (Nat.le_refl _) (by omega) (by rw [size_swp]; omega) (ih _ (by omega) (by rw [size_swp]; omega))
    · exact permIn_refl _ _ _
section
variable {l1 l2 : α → α → Bool} {I : α → Nat}
theorem inner_eq (hK : ∀ x y, I y < I x → l1 x y = l2 x y) (a : Nat) : ∀ (j : Nat) (d : Array α), j < d.size → (∀ t, a ≤ t → t < j → I d[t]! < I d[j]!) → insInner l1 a j d = insInner l2 a j d := by
  intro j
  induction j with
  | zero => intro d _ _; rw [insInner, insInner]
  | succ j ih =>
    intro d hj hI
    rw [insInner, insInner]
    by_cases ha : j + 1 > a
    · rw [hK _ _ (hI j (by omega) (by omega))]
      split
      · refine ih _ (by rw [size_swp]; omega) fun t h1 h2 => ?_
        rw [swp_get _ hj (by omega), swp_get _ hj (by omega), if_neg (by omega), if_neg (by omega), if_pos rfl]
        exact hI t h1 (by omega)
      · rfl
    · rw [decide_eq_false ha, Bool.false_and, Bool.false_and]
      rfl
theorem outer_eq (hK : ∀ x y, I y < I x → l1 x y = l2 x y) (a b : Nat) : ∀ (m i : Nat) (d : Array α), b - i = m → a ≤ i → b ≤ d.size → (∀ p q, a ≤ p → p < q → i ≤ q → q < b → I d[p]! < I d[q]!) → insOuter l1 a b i d = insOuter l2 a b i d := by
  intro m
  induction m with
  | zero =>
    intro i d hm _ _ _
    rw [insOuter_stop l1 _ _ _ _ (by omega), insOuter_stop l2 _ _ _ _ (by omega)]
  | succ m ih =>
    intro i d hm ha hb hI
    rw [insOuter_go l1 _ _ _ _ (by omega), insOuter_go l2 _ _ _ _ (by omega), ← inner_eq hK a i d (by omega) fun t h1 h2 => hI t i h1 h2 (Nat.le_refl _) (by omega)]
    have hp := inner_perm l1 a i d ha (by omega)
    obtain ⟨z, o, _⟩ := id hp
    refine ih (i + 1) _ (by omega) (by omega) (by omega) fun p q h1 h2 h3 h4 => ?_
    rw [o q (by omega)]
    by_cases hpi : p ≤ i
    · exact permIn_all d _ a (i + 1) (fun x => I x < I d[q]!) (by omega) hp (fun t g1 g2 => hI t q g1 (by omega) (by omega) h4) p h1 (by omega)
    · rw [o p (by omega)]
      exact hI p q h1 h2 (by omega) h4
theorem insertion_eq (hK : ∀ x y, I y < I x → l1 x y = l2 x y) (a b : Nat) (d : Array α) (hb : b ≤ d.size) (hI : ∀ p q, a ≤ p → p < q → q < b → I d[p]! < I d[q]!) : insertionSort l1 d a b = insertionSort l2 d a b :=
  outer_eq hK a b _ (a + 1) d rfl (by omega) hb fun p q h1 h2 _ h4 => hI p q h1 h2 h4
/-- what stands before a multiple of s is less than what stands behind it -/
def Sep (I : α → Nat) (n x : Nat) (d : Array α) : Prop := ∀ p q, p < x → x ≤ q → q < n → I d[p]! < I d[q]!
theorem Sep.perm {n x a b : Nat} {d r : Array α} (h : Sep I n x d) (hp : PermIn a b d r) (hx : x ≤ a ∨ b ≤ x) (hb : b ≤ d.size) (hbn : b ≤ n) : Sep I n x r := by
  obtain ⟨z, o, _⟩ := id hp
  intro p q h1 h2 h3
  by_cases hpi : a ≤ p ∧ p < b
  · rw [o q (by omega)]
    exact permIn_all d r a b (fun y => I y < I d[q]!) hb hp (fun t g1 g2 => h t q (by omega) h2 h3) p hpi.1 hpi.2
  · rw [o p (by omega)]
    by_cases hqi : a ≤ q ∧ q < b
    · exact permIn_all d r a b (fun y => I d[p]! < I y) hb hp (fun t g1 g2 => h p t h1 (by omega) (by omega)) q hqi.1 hqi.2
    · rw [o q (by omega)]
      exact h p q h1 h2 h3
end
end Go.Proofs.Ytdkiembkigadkaa.P
