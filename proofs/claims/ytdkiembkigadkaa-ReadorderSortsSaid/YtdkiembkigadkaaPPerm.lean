/- Sort's answer is an order: the law. -/
import Derived.Test.YtdkiembkigadkaaPRel
import Derived.Test.YtdkiembkigadkaaMx9
set_option linter.unusedSimpArgs false
set_option linter.unusedVariables false
namespace Go.Proofs.Ytdkiembkigadkaa.M
open Go.RowKit Go.Proofs.YtdkiembkigadkaaW.PrintLast Go.Proofs.YtdkiembkigadkaaW.PrintWords Go.Proofs.YtdkiembkigadkaaW.PrintMore
def castL (r : List Nat) : List Int := r.map (fun i => ((i : Nat) : Int))
@[simp] theorem castL_length (r : List Nat) : (castL r).length = r.length := List.length_map _
theorem rd_castL {r : List Nat} {j : Nat} (h : j < r.length) : rd (castL r) (j : Int) = ((r[j] : Nat) : Int) := by
  unfold castL rd
  simp [h]
theorem getD_set {α : Type} (z : α) (xs : List α) (a : Nat) (v : α) (b : Nat) (h : a ≠ b) : (xs.set a v).getD b z = xs.getD b z := by
  simp [List.getD, List.getElem?_set, h]
theorem once_l0 (r : List Nat) (n : Nat) (hn : n < 1000000) (hl : r.length = n) (hnd : r.Nodup) (hlt : ∀ x ∈ r, x < n) : ∀ (m i k : Nat) (seen : List Bool), i + m = r.length → m < k → seen.length = n →
    (∀ j, i ≤ j → (hj : j < r.length) → seen.getD r[j] false = false) → barscanlaw50_once.l0 k (n : Int) seen (castL r) ((castL r).length : Int) (i : Int) = some true := by
  intro m
  induction m with
  | zero =>
    intro i k seen hi hk hs hf
    match k, hk with
    | k + 1, _ =>
      unfold barscanlaw50_once.l0
      rw [if_neg (by rw [castL_length]; omega)]
  | succ m ih =>
    intro i k seen hi hk hs hf
    match k, hk with
    | k + 1, hk =>
      have hir : i < r.length := by omega
      have hx := hlt _ (List.getElem_mem hir)
      unfold barscanlaw50_once.l0
      rw [if_pos (by rw [castL_length]; omega), if_pos (by omega), if_pos (by rw [castL_length]; omega)]
      simp only [rd_castL hir]
      rw [if_neg (by omega), if_neg (by omega), if_pos (by omega), if_pos (by omega)]
      have hfi := hf i (Nat.le_refl _) hir
      rw [if_neg (by unfold rdOf; simp only [Int.toNat_natCast]; rw [hfi]; simp)]
      rw [step_i (by omega)]
      refine ih (i + 1) k _ (by omega) (by omega) (by simp [hs]) fun j hj hjr => ?_
      have hne : r[i] ≠ r[j] := (List.pairwise_iff_getElem.1 hnd) i j hir hjr (by omega)
      rw [Int.toNat_natCast, getD_set _ _ _ _ _ hne]
      exact hf j (by omega) hjr
theorem once_true (r : List Nat) (n k : Nat) (hn : n < 1000000) (hk : n < k) (hl : r.length = n) (hnd : r.Nodup) (hlt : ∀ x ∈ r, x < n) : barscanlaw50_once.f k (castL r) (n : Int) = some true := by
  unfold barscanlaw50_once.f
  rw [if_pos (by rw [castL_length]; omega), if_pos (by omega), if_pos (by omega)]
  refine once_l0 r n hn hl hnd hlt n 0 k _ (by omega) hk (by simp) fun j _ hj => ?_
  have := hlt _ (List.getElem_mem hj)
  simp [List.getD, List.getElem?_replicate, this]
section
variable {l : List S31} {r : List Nat}
theorem perm_l1 (hN : r.length ≤ 60) (hlt : ∀ x ∈ r, x < l.length) (hb : ∀ p q, (hp : p < q) → (hq : q < r.length) → bfN l r[q] (r[p]'(Nat.lt_trans hp hq)) = false) (i : Nat) (hi : i < r.length) (F : Nat)
    (hF : ∀ k, F < k → barscanlaw50_ReadorderPermutes.l0 k l (castL r) ((castL r).length : Int) ((i + 1 : Nat) : Int) = some true) :
    ∀ (m c k : Nat), c + m = i → m + 1 + F < k → barscanlaw50_ReadorderPermutes.l1 k l (castL r) (i : Int) ((castL r).length : Int) (i : Int) (i : Int) (c : Int) = some true := by
  intro m
  induction m with
  | zero =>
    intro c k hc hk
    match k, hk with
    | k + 1, hk =>
      unfold barscanlaw50_ReadorderPermutes.l1
      rw [if_neg (by omega), step_i (by omega)]
      exact hF k (by omega)
  | succ m ih =>
    intro c k hc hk
    match k, hk with
    | k + 1, hk =>
      have hcr : c < r.length := by omega
      have hx := hlt _ (List.getElem_mem hi)
      have hy := hlt _ (List.getElem_mem hcr)
      unfold barscanlaw50_ReadorderPermutes.l1
      rw [if_pos (by omega), if_pos (by omega), if_pos (by rw [castL_length]; omega)]
      simp only [rd_castL hi, rd_castL hcr]
      rw [if_pos (by omega), if_pos (by omega), if_pos (by omega), if_pos (by rw [castL_length]; omega), if_pos (by omega), if_pos (by omega)]
      have hbf : bfB (rd_T31 l ((r[i] : Nat) : Int)) (rd_T31 l ((r[c] : Nat) : Int)) = false := hb c i (by omega) hi
      rw [Before_f, hbf, Bool.and_false, Bool.and_false, Option.bind_some, if_neg (by simp), step_i (by omega)]
      exact ih (c + 1) k (by omega) (by omega)
theorem perm_l0 (hN : r.length ≤ 60) (hlt : ∀ x ∈ r, x < l.length) (hb : ∀ p q, (hp : p < q) → (hq : q < r.length) → bfN l r[q] (r[p]'(Nat.lt_trans hp hq)) = false) :
    ∀ (m i k : Nat), i + m = r.length → m * (r.length + 3) < k → barscanlaw50_ReadorderPermutes.l0 k l (castL r) ((castL r).length : Int) (i : Int) = some true := by
  intro m
  induction m with
  | zero =>
    intro i k hi hk
    match k, hk with
    | k + 1, _ =>
      unfold barscanlaw50_ReadorderPermutes.l0
      rw [if_neg (by rw [castL_length]; omega)]
      rfl
  | succ m ih =>
    intro i k hi hk
    rw [Nat.succ_mul] at hk
    match k, hk with
    | k + 1, hk =>
      unfold barscanlaw50_ReadorderPermutes.l0
      rw [if_pos (by rw [castL_length]; omega)]
      exact perm_l1 hN hlt hb i (by omega) (m * (r.length + 3)) (fun k hk => ih (i + 1) k (by omega) hk) i 0 k (by omega) (by omega)
end
theorem permutes_true (l : List S31) : barscanlaw50_ReadorderPermutes.f 10000 l = some true := by
  unfold barscanlaw50_ReadorderPermutes.f
  split
  · rfl
  rename_i hl
  have hl' : l.length ≤ 60 := by omega
  have hc : check.f l 0 = some 3 ∨ check.f l 0 = some 0 := by
    unfold check.f
    rw [if_neg (by omega)]
    split
    · exact .inl rfl
    · exact .inr rfl
  unfold sortR.f
  rcases hc with hc | hc
  · rw [hc]; rfl
  · rw [hc, Option.bind_some, if_pos rfl, Option.bind_some]
    cases hs : P.sortF l.length (bfN l) with
    | none => rfl
    | some r =>
      obtain ⟨h1, h2, h3, h4⟩ := P.sortF_ord hs
      have hN : r.length ≤ 60 := by omega
      show (if (0 : Int) = 0 then (barscanlaw50_once.f 10000 (castL r) (l.length : Int)).bind _ else _) = _
      rw [if_pos rfl, once_true r l.length 10000 (by omega) (by omega) h1 h2 h3, Option.bind_some, if_pos rfl]
      refine perm_l0 hN (fun x hx => h3 x hx) h4 r.length 0 10000 (by omega) ?_
      have : r.length * (r.length + 3) ≤ 60 * 63 := Nat.mul_le_mul hN (by omega)
      omega
end Go.Proofs.Ytdkiembkigadkaa.M
