/- Plain facts on a table of parents: each entry points to itself or to an earlier one, and the root that it leads to. -/
import Derived.Below
set_option linter.unusedSimpArgs false
set_option linter.unusedVariables false
namespace Go.Proofs.Ytahibhipffojlaa.Uf

/-- p: the parents; rt: the root of each entry -/
structure Par (p rt : List Int) : Prop where
  len : p.length = rt.length
  lo : ∀ a : Nat, a < p.length → 0 ≤ p.getD a 0
  hi : ∀ a : Nat, a < p.length → p.getD a 0 ≤ a
  self : ∀ a : Nat, a < p.length → p.getD a 0 = a → rt.getD a 0 = a
  up : ∀ a : Nat, a < p.length → p.getD a 0 ≠ a → rt.getD a 0 = rt.getD (p.getD a 0).toNat 0

theorem Par.root {p rt : List Int} (h : Par p rt) : ∀ n a : Nat, a < n → a < p.length → 0 ≤ rt.getD a 0 ∧ rt.getD a 0 ≤ a ∧ p.getD (rt.getD a 0).toNat 0 = rt.getD a 0 := by
  intro n
  induction n with
  | zero => intro a h; omega
  | succ n ih =>
    intro a ha hl
    by_cases e : p.getD a 0 = a
    · rw [h.self a hl e]
      refine ⟨by omega, by omega, ?_⟩
      rw [Int.toNat_natCast, e]
    · rw [h.up a hl e]
      have h0 := h.lo a hl
      have h1 := h.hi a hl
      have := ih (p.getD a 0).toNat (by omega) (by omega)
      omega

theorem getD_set {xs : List Int} {i j : Nat} {x : Int} : (xs.set i x).getD j 0 = if i = j ∧ i < xs.length then x else xs.getD j 0 := by
  rw [List.getD_eq_getElem?_getD, List.getElem?_set, List.getD_eq_getElem?_getD]
  by_cases h : i = j
  · subst h
    by_cases hl : i < xs.length
    · simp [hl]
    · simp [hl]
  · simp [h]

/-- the path to the root is shortened -/
theorem Par.short {p rt : List Int} (h : Par p rt) (a : Nat) (ha : a < p.length) : Par (p.set a (rt.getD a 0)) rt := by
  have R := h.root (a + 1) a (by omega) ha
  refine ⟨by simp [h.len], fun b hb => ?_, fun b hb => ?_, fun b hb => ?_, fun b hb => ?_⟩ <;> rw [List.length_set] at hb <;> rw [getD_set] <;> by_cases e : a = b <;> simp only [e, ha, true_and, and_true, false_and, if_true, if_false, hb]
  · subst e; omega
  · exact h.lo b hb
  · subst e; omega
  · exact h.hi b hb
  · intro k; exact k
  · exact h.self b hb
  · intro _
    subst e
    have R2 := h.root (a + 1) (rt.getD a 0).toNat (by omega) (by omega)
    have := h.self (rt.getD a 0).toNat (by omega) (by omega)
    omega
  · exact h.up b hb

/-- one entry more, that points to itself -/
theorem Par.more {p rt : List Int} (h : Par p rt) : Par (p ++ [(p.length : Int)]) (rt ++ [(p.length : Int)]) := by
  have hl := h.len
  have g : ∀ (xs : List Int) (b : Nat) (x : Int), (xs ++ [x]).getD b 0 = if b = xs.length then x else xs.getD b 0 := by
    intro xs b x
    rw [List.getD_eq_getElem?_getD, List.getElem?_append, List.getD_eq_getElem?_getD]
    split
    · rw [if_neg (by omega)]
    · split
      · next e => rw [e]; simp
      · rw [List.getElem?_eq_none (by simp; omega), List.getElem?_eq_none (by omega)]
  refine ⟨by simp [hl], fun b hb => ?_, fun b hb => ?_, fun b hb => ?_, fun b hb => ?_⟩ <;> rw [List.length_append, List.length_singleton] at hb <;> rw [g] <;> by_cases e : b = p.length <;> simp only [e, if_true, if_false]
  · omega
  · exact h.lo b (by omega)
  · omega
  · exact h.hi b (by omega)
  · intro _; rw [g, if_pos (by omega)]
  · intro k; rw [g, if_neg (by omega)]; exact h.self b (by omega) k
  · intro k; exact absurd rfl k
  · intro k
    have h0 := h.lo b (by omega)
    have h1 := h.hi b (by omega)
    rw [g, g, if_neg (by omega), if_neg (by omega)]; exact h.up b (by omega) k

/-- one root is put under an earlier one -/
theorem Par.join {p rt : List Int} (h : Par p rt) (a b : Nat) (hab : a < b) (hb : b < p.length) (ra : p.getD a 0 = a) (rb : p.getD b 0 = b) : Par (p.set b a) (rt.map fun x => if x = (b : Int) then (a : Int) else x) := by
  have hl := h.len
  have gm : ∀ c : Nat, c < p.length → (rt.map fun x => if x = (b : Int) then (a : Int) else x).getD c 0 = if rt.getD c 0 = b then (a : Int) else rt.getD c 0 := by
    intro c hc
    rw [List.getD_eq_getElem?_getD, List.getElem?_map, List.getD_eq_getElem?_getD]
    rw [List.getElem?_eq_getElem (by omega)]
    rfl
  have ea := h.self a (by omega) ra
  have eb := h.self b hb rb
  have gs : ∀ c : Nat, (p.set b (a : Int)).getD c 0 = if b = c then (a : Int) else p.getD c 0 := fun c => by rw [getD_set]; simp only [hb, and_true]
  refine ⟨by simp [hl], fun c hc => ?_, fun c hc => ?_, fun c hc => ?_, fun c hc => ?_⟩ <;> rw [List.length_set] at hc <;> rw [gs] <;> by_cases e : b = c
  · rw [if_pos e]; omega
  · rw [if_neg e]; exact h.lo c hc
  · rw [if_pos e]; omega
  · rw [if_neg e]; exact h.hi c hc
  · rw [if_pos e]; intro k; omega
  · rw [if_neg e]; intro k
    have := h.self c hc k
    rw [gm c hc, this, if_neg (by omega)]
  · rw [if_pos e]; intro k
    subst e
    rw [gm b hb, eb, if_pos rfl, Int.toNat_natCast, gm a (by omega), ea, if_neg (by omega)]
  · rw [if_neg e]; intro k
    have h0 := h.lo c hc
    have h1 := h.hi c hc
    rw [gm c hc, gm _ (by omega), h.up c hc k]
end Go.Proofs.Ytahibhipffojlaa.Uf
