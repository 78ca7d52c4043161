/- Maps from numbers to numbers, as readorder.Sort keeps one: what a list of numbers that may be missing tells. -/
import Derived.Test.YtdkiembkigadkaaRSt
import Derived.Test.YtdkiembkigadkaaMx0
import Derived.Test.YtdkiembkigadkaaPTks
import Derived.Maps.OwnOps
import Derived.Lib.Hide
set_option linter.unusedSimpArgs false
set_option linter.unusedVariables false
namespace Go.Proofs.Ytdkiembkigadkaa.Map
open Go.RowKit Go.Maps Go.Proofs.YtdkiembkigadkaaW.PrintLast Go.Proofs.YtdkiembkigadkaaW.PrintWords Go.Proofs.YtdkiembkigadkaaW.PrintMore Go.Proofs.Ytdkiembkigadkaa.M
abbrev D0 := DataW Unit
def key (k : Nat) : Lit := .int .i64 k
theorem key_lit (k : Nat) : WideAt.IsKeyLit (key k) := trivial
theorem key_ne {j k : Nat} (h : j ≠ k) : key j ≠ key k := by
  intro e
  unfold key at e
  simp only [Lit.int.injEq, true_and] at e
  exact h (by omega)
theorem sameKey_key (j k : Nat) : (key j).sameKey (key k) = decide (j = k) := by
  unfold key Lit.sameKey
  by_cases h : j = k
  · subst h; simp
  · have : ¬ ((j : Int) = (k : Int)) := by omega
    simp [h, this]
def encN (x : Nat) : D0 := .lit (.int .i64 (x : Int))
/-- D has just what f tells, of the numbers below n -/
structure MRel (n : Nat) (f : Nat → Option Nat) (D : D0) : Prop where
  has : ∀ k : Nat, Maps.has D (key k) = (decide (k < n) && (f k).isSome)
  only : ∀ kl, Maps.has D kl = true → ∃ k : Nat, k < n ∧ kl = key k
  at_ : ∀ (k : Nat) (b : Nat), k < n → f k = some b → ∀ z, D.atKey (key k) z = encN b
theorem MRel.empty (f : Nat → Option Nat) : MRel 0 f (.map []) := ⟨fun k => by simp [Maps.has_eq], fun kl h => by simp [Maps.has_eq] at h, fun k b h => by omega⟩
theorem MRel.congr {n : Nat} {f g : Nat → Option Nat} {D : D0} (h : MRel n f D) (he : ∀ k, k < n → g k = f k) : MRel n g D :=
  ⟨fun k => by
    rw [h.has k]
    by_cases hk : k < n
    · rw [he k hk]
    · simp [hk], h.only, fun k b hk hb z => h.at_ k b hk (by rw [← he k hk]; exact hb) z⟩
theorem MRel.put {n : Nat} {f : Nat → Option Nat} {D : D0} (h : MRel n f D) (hD : Maps.IsMap D) {k : Nat} (hk : k < n) (b : Nat) : MRel n (fun j => if j = k then some b else f j) (D.put (key k) (encN b)) := by
  refine ⟨fun j => ?_, fun kl hkl => ?_, fun j c hj hc z => ?_⟩
  · by_cases e : j = k
    · subst e; rw [Maps.has_put_same hD (key_lit _)]; simp [hk]
    · rw [Maps.has_put_other (key_ne e), h.has]; simp [e]
  · by_cases e : kl = key k
    · exact ⟨k, hk, e⟩
    · rw [Maps.has_put_other e] at hkl
      exact h.only kl hkl
  · by_cases e : j = k
    · subst e
      simp at hc
      subst hc
      exact Maps.atKey_put_same hD (key_lit _) _ _
    · simp [e] at hc
      rw [Maps.atKey_put_other (key_ne e)]
      exact h.at_ j c hj hc z
theorem MRel.more {n : Nat} {f : Nat → Option Nat} {D : D0} (h : MRel n f D) (hD : Maps.IsMap D) (b : Nat) : MRel (n + 1) (fun j => if j = n then some b else f j) (D.put (key n) (encN b)) := by
  refine ⟨fun j => ?_, fun kl hkl => ?_, fun j c hj hc z => ?_⟩
  · by_cases e : j = n
    · subst e; rw [Maps.has_put_same hD (key_lit _)]; simp
    · rw [Maps.has_put_other (key_ne e), h.has]
      simp only [e, if_false]
      congr 1
      simp only [decide_eq_decide]
      omega
  · by_cases e : kl = key n
    · exact ⟨n, by omega, e⟩
    · rw [Maps.has_put_other e] at hkl
      obtain ⟨j, hj, e2⟩ := h.only kl hkl
      exact ⟨j, by omega, e2⟩
  · by_cases e : j = n
    · subst e
      simp at hc
      subst hc
      exact Maps.atKey_put_same hD (key_lit _) _ _
    · simp [e] at hc
      rw [Maps.atKey_put_other (key_ne e)]
      exact h.at_ j c (by omega) hc z
theorem MRel.del {n : Nat} {f : Nat → Option Nat} {D : D0} (h : MRel n f D) {k : Nat} (hk : k < n) : MRel n (fun j => if j = k then none else f j) (D.del (key k)) := by
  refine ⟨fun j => ?_, fun kl hkl => ?_, fun j c hj hc z => ?_⟩
  · by_cases e : j = k
    · subst e; rw [Maps.has_del_same]; simp
    · rw [Maps.has_del_other (key_ne e), h.has]; simp [e]
  · by_cases e : kl = key k
    · subst e; rw [Maps.has_del_same] at hkl; cases hkl
    · rw [Maps.has_del_other e] at hkl
      exact h.only kl hkl
  · by_cases e : j = k
    · subst e
      simp at hc
    · simp [e] at hc
      rw [Maps.atKey_del_other (key_ne e)]
      exact h.at_ j c hj hc z
theorem law3 : Keyed Try.prog 3 := int_keyed Try.underlying3
theorem keyOf3 (k : Nat) (hk : k ≤ 1000000000) : keyOf Try.prog 3 (.int .i64 (k : Int)) = some (key k) := keyOf_int_mk Try.underlying3 (WalkArith.wf_i64 (by omega))
theorem EI_mk (x : Nat) (hx : x ≤ 1000000000) : (plainElem Try.prog 3) (.int .i64 (x : Int)) = some (encN x, []) := plainElem_int Try.underlying3 (WalkArith.wf_i64 (by omega))
theorem isMap_of {w : World} {b n : Nat} {D : D0} (h : w.ownsMap Try.prog 3 (plainElem Try.prog 3) b n D) : Maps.IsMap D := by
  obtain ⟨es, clock, _, _, _, rfl⟩ := h
  exact ⟨_, rfl⟩
/-- Block b of w is the map that f tells; at most c stores of new keys have been made. -/
def MapN (w : World) (b c n : Nat) (f : Nat → Option Nat) : Prop := ∃ q D, q ≤ c ∧ w.ownsMap Try.prog 3 (plainElem Try.prog 3) b q D ∧ MRel n f D
section
variable {w w' : World} {b c n : Nat} {f : Nat → Option Nat}
theorem MapN.lt (h : MapN w b c n f) : b < w.heap.size := by obtain ⟨q, D, _, ho, _⟩ := h; exact ho.lt
theorem MapN.kept {row : Option Nat} (h : MapN w b c n f) (hg : w.grownBy w' row) (hne : some b ≠ row) : MapN w' b c n f := by
  obtain ⟨q, D, hn, ho, hr⟩ := h
  exact ⟨q, D, hn, ho.kept hg hne, hr⟩
theorem MapN.same (h : MapN w b c n f) (hb : w'.heap[b]? = w.heap[b]?) : MapN w' b c n f := by
  obtain ⟨q, D, hn, ⟨es, clock, h1, h2⟩, hr⟩ := h
  exact ⟨q, D, hn, ⟨es, clock, hb.trans h1, h2⟩, hr⟩
theorem MapN.below {B : Nat} (h : MapN w b c n f) (hb : Below B w w') (hB : b < B) : MapN w' b c n f := h.same (hb.block b hB)
theorem MapN.below' (h : MapN w b c n f) (hb : Below w.heap.size w w') : MapN w' b c n f := h.same (hb.block b h.lt)
theorem MapN.isCells (h : MapN w b c n f) {g t : Nat} {cs : Array Value} {fr : Nat × Nat} (hg : w.heap[g]? = some (.cells cs t fr)) : b ≠ g := by
  rintro rfl
  obtain ⟨q, D, _, ⟨es, clock, h1, _⟩, _⟩ := h
  rw [h1] at hg
  cases hg
theorem MapN.mono {c' : Nat} (h : MapN w b c n f) (hc : c ≤ c') : MapN w b c' n f := by
  obtain ⟨q, D, hn, ho, hr⟩ := h
  exact ⟨q, D, by omega, ho, hr⟩
theorem MapN.congr {g : Nat → Option Nat} (h : MapN w b c n f) (he : ∀ k, k < n → g k = f k) : MapN w b c n g := by
  obtain ⟨q, D, hn, ho, hr⟩ := h
  exact ⟨q, D, hn, ho, hr.congr he⟩
theorem owns_look {q : Nat} {D : D0} (ho : w.ownsMap Try.prog 3 (plainElem Try.prog 3) b q D) (hr : MRel n f D) (k x : Nat) (hk : k ≤ 1000000000) (hn : k < n) (hx : f k = some x) : (Instr.lookup 45 (.map (some b)) (.int .i64 (k : Int)) false).run Try.prog w = .ok (.int .i64 (x : Int)) w := by
  obtain ⟨y, hrun, hy, _⟩ := ho.lookup_int law3 Try.underlying45 Try.underlying3 (Try.zeroValue3 w) (keyOf3 k hk)
  have h2 : (DataW.lit (.int .i64 (x : Int)) : D0) = .lit (.int .i64 y) := (hr.at_ k x hn hx _).symm.trans hy
  have h3 := (Lit.int.inj (DataW.lit.inj h2)).2
  subst h3
  exact hrun
theorem MapN.look (h : MapN w b c n f) (k x : Nat) (hk : k ≤ 1000000000) (hn : k < n) (hx : f k = some x) : (Instr.lookup 45 (.map (some b)) (.int .i64 (k : Int)) false).run Try.prog w = .ok (.int .i64 (x : Int)) w := by
  obtain ⟨q, D, _, ho, hr⟩ := h
  exact owns_look ho hr k x hk hn hx
theorem MapN.put_ (h : MapN w b c n f) (hc : c ≤ 1000000000) (k x : Nat) (hk : k ≤ 1000000000) (hx : x ≤ 1000000000) (hn : k < n) :
    ∃ w', (Instr.mapUpdate 45 (.map (some b)) (.int .i64 (k : Int)) (.int .i64 (x : Int))).run Try.prog w = .ok () w' ∧ MapN w' b (c + 1) n (fun j => if j = k then some x else f j) ∧ w.grownBy w' (some b) := by
  obtain ⟨q, D, hq, ho, hr⟩ := h
  obtain ⟨w', hrun, ho', hg⟩ := ho.update law3 Try.underlying45 (by unfold maxLen; omega) (keyOf3 k hk) (EI_mk x hx)
  exact ⟨w', hrun, ⟨q + 1, _, by omega, ho', hr.put (isMap_of ho) hn x⟩, hg⟩
theorem MapN.more_ (h : MapN w b c n f) (hc : c ≤ 1000000000) (x : Nat) (hk : n ≤ 1000000000) (hx : x ≤ 1000000000) :
    ∃ w', (Instr.mapUpdate 45 (.map (some b)) (.int .i64 (n : Int)) (.int .i64 (x : Int))).run Try.prog w = .ok () w' ∧ MapN w' b (c + 1) (n + 1) (fun j => if j = n then some x else f j) ∧ w.grownBy w' (some b) := by
  obtain ⟨q, D, hq, ho, hr⟩ := h
  obtain ⟨w', hrun, ho', hg⟩ := ho.update law3 Try.underlying45 (by unfold maxLen; omega) (keyOf3 n hk) (EI_mk x hx)
  exact ⟨w', hrun, ⟨q + 1, _, by omega, ho', hr.more (isMap_of ho) x⟩, hg⟩
theorem MapN.del_ (h : MapN w b c n f) (k : Nat) (hk : k ≤ 1000000000) (hn : k < n) (ty : TypeId) :
    ∃ w', (Builtin.delete_ #[45, 3] ty #[.map (some b), .int .i64 (k : Int)]).run Try.prog w = .ok (.tuple #[]) w' ∧ MapN w' b c n (fun j => if j = k then none else f j) ∧ w.grownBy w' (some b) := by
  obtain ⟨q, D, hq, ho, hr⟩ := h
  obtain ⟨w', hrun, ho', ht⟩ := ho.drop law3 Try.underlying45 (keyOf3 k hk) ty
  refine ⟨w', hrun, ⟨q, _, hq, ho', hr.del hn⟩, ?_⟩
  obtain ⟨es, clock, es', clock', h1, rfl⟩ := ht
  exact ⟨rfl, rfl, rfl, by simp [ChangeMaps.setBlock], fun i _ hi => ChangeMaps.heap_setBlock_other h1 _ (fun e => hi (by rw [e]))⟩
theorem MapN.made (w : World) (f : Nat → Option Nat) : MapN (w.alloc (.map #[] 0)) w.heap.size 0 0 f := ⟨0, _, Nat.le_refl _, World.ownsMap_made w Try.prog 3 (plainElem Try.prog 3), MRel.empty f⟩
end
end Go.Proofs.Ytdkiembkigadkaa.Map
