/- A map from numbers to blobs, told as a list of what each number has. -/
import Derived.Test.YtahibhipffojlaaJoin
import Derived.Maps.Own
import Derived.Maps.OwnOps
import Derived.Maps.OwnSet
import Derived.Maps.RangeWalk
set_option linter.unusedSimpArgs false
set_option linter.unusedVariables false
namespace Go.Proofs.Ytahibhipffojlaa.Map
open Go.RowKit Go.Maps Go.Proofs.Ytahibhipffojlaa.M Go.Proofs.Ytahibhipffojlaa.Join

abbrev D1 : Type := DataW Unit
def bval (b : S38) : Value := .agg (bcells b)
def encB (b : S38) : D1 := .agg [.lit (.int .i64 b.f0.f0), .lit (.int .i64 b.f0.f1), .lit (.int .i64 b.f0.f2), .lit (.int .i64 b.f0.f3), .lit (.int .i64 b.f1), .lit (.int .i64 b.f2.f0), .lit (.int .i64 b.f2.f1)]
open Classical in
noncomputable def blobR (v : Value) : Option (D1 × List MemPlace) := if h : ∃ b, v = bval b then some (encB (Classical.choose h), []) else none
theorem S38_ext {a b : S38} (h0 : a.f0.f0 = b.f0.f0) (h1 : a.f0.f1 = b.f0.f1) (h2 : a.f0.f2 = b.f0.f2) (h3 : a.f0.f3 = b.f0.f3) (h4 : a.f1 = b.f1) (h5 : a.f2.f0 = b.f2.f0) (h6 : a.f2.f1 = b.f2.f1) : a = b := by
  obtain ⟨⟨a0, a1, a2, a3⟩, a4, ⟨a5, a6⟩⟩ := a
  obtain ⟨⟨b0, b1, b2, b3⟩, b4, ⟨b5, b6⟩⟩ := b
  simp only at h0 h1 h2 h3 h4 h5 h6
  subst h0; subst h1; subst h2; subst h3; subst h4; subst h5; subst h6
  rfl
theorem bval_inj {a b : S38} (h : bval a = bval b) : a = b := by
  simp only [bval, bcells, Value.agg.injEq, Array.mk.injEq, List.cons.injEq, Value.int.injEq] at h
  exact S38_ext h.1.2 h.2.1.2 h.2.2.1.2 h.2.2.2.1.2 h.2.2.2.2.1.2 h.2.2.2.2.2.1.2 h.2.2.2.2.2.2.1.2
theorem encB_inj {a b : S38} (h : encB a = encB b) : a = b := by
  simp only [encB, DataW.agg.injEq, List.cons.injEq, DataW.lit.injEq, Lit.int.injEq] at h
  exact S38_ext h.1.2 h.2.1.2 h.2.2.1.2 h.2.2.2.1.2 h.2.2.2.2.1.2 h.2.2.2.2.2.1.2 h.2.2.2.2.2.2.1.2
theorem blobR_mk (b : S38) : blobR (bval b) = some (encB b, []) := by
  have h : ∃ b', bval b = bval b' := ⟨b, rfl⟩
  unfold blobR
  rw [dif_pos h, ← bval_inj (Classical.choose_spec h)]
theorem blobR_inv {v : Value} {d : D1} {ps : List MemPlace} (h : blobR v = some (d, ps)) : ∃ b, v = bval b ∧ d = encB b ∧ ps = [] := by
  unfold blobR at h
  split at h
  · next hb =>
    simp only [Option.some.injEq, Prod.mk.injEq] at h
    exact ⟨_, Classical.choose_spec hb, h.1.symm, h.2.symm⟩
  · cases h

def key (k : Nat) : Lit := .int .i64 k
theorem key_lit (k : Nat) : WideAt.IsKeyLit (key k) := trivial
theorem key_ne {j k : Nat} (h : j ≠ k) : key j ≠ key k := by
  intro e
  unfold key at e
  simp only [Lit.int.injEq, true_and] at e
  exact h (by omega)

/-- D has just what M tells -/
structure MRel (M : List (Option S38)) (D : D1) : Prop where
  has : ∀ k : Nat, Maps.has D (key k) = (M.getD k none).isSome
  only : ∀ kl, Maps.has D kl = true → ∃ k : Nat, k < M.length ∧ kl = key k
  at_ : ∀ (k : Nat) (b : S38), M.getD k none = some b → ∀ z, D.atKey (key k) z = encB b

theorem getD_set' {α : Type} {xs : List α} {i j : Nat} {x d : α} : (xs.set i x).getD j d = if i = j ∧ i < xs.length then x else xs.getD j d := by
  rw [List.getD_eq_getElem?_getD, List.getElem?_set, List.getD_eq_getElem?_getD]
  by_cases h : i = j
  · subst h
    by_cases hl : i < xs.length <;> simp [hl]
  · simp [h]
theorem getD_snoc {α : Type} {xs : List α} {j : Nat} {x d : α} : (xs ++ [x]).getD j d = if j = xs.length then x else xs.getD j d := by
  rw [List.getD_eq_getElem?_getD, List.getElem?_append, List.getD_eq_getElem?_getD]
  split
  · rw [if_neg (by omega)]
  · split
    · next e => rw [e]; simp
    · rw [List.getElem?_eq_none (by simp; omega), List.getElem?_eq_none (by omega)]

theorem MRel.empty : MRel [] (.map []) := ⟨fun k => by simp [Maps.has_eq], fun kl h => by simp [Maps.has_eq] at h, fun k b h => by simp at h⟩
theorem MRel.put {M : List (Option S38)} {D : D1} (h : MRel M D) (hD : Maps.IsMap D) {k : Nat} (hk : k < M.length) (b : S38) : MRel (M.set k (some b)) (D.put (key k) (encB b)) := by
  refine ⟨fun j => ?_, fun kl hkl => ?_, fun j c hj z => ?_⟩
  · rw [getD_set']
    by_cases e : k = j
    · subst e; rw [if_pos ⟨rfl, hk⟩, Maps.has_put_same hD (key_lit _)]; rfl
    · rw [if_neg (fun h => e h.1), Maps.has_put_other (key_ne (fun h => e h.symm)), h.has]
  · by_cases e : kl = key k
    · exact ⟨k, by simpa using hk, e⟩
    · rw [Maps.has_put_other e] at hkl
      obtain ⟨j, hj, e2⟩ := h.only kl hkl
      exact ⟨j, by simpa using hj, e2⟩
  · rw [getD_set'] at hj
    by_cases e : k = j
    · subst e
      rw [if_pos ⟨rfl, hk⟩] at hj
      injection hj with hj
      subst hj
      exact Maps.atKey_put_same hD (key_lit _) _ _
    · rw [if_neg (fun h => e h.1)] at hj
      rw [Maps.atKey_put_other (key_ne (fun h => e h.symm))]
      exact h.at_ j c hj z
theorem MRel.more {M : List (Option S38)} {D : D1} (h : MRel M D) (hD : Maps.IsMap D) (b : S38) : MRel (M ++ [some b]) (D.put (key M.length) (encB b)) := by
  refine ⟨fun j => ?_, fun kl hkl => ?_, fun j c hj z => ?_⟩
  · rw [getD_snoc]
    by_cases e : j = M.length
    · subst e; rw [if_pos rfl, Maps.has_put_same hD (key_lit _)]; rfl
    · rw [if_neg e, Maps.has_put_other (key_ne e), h.has]
  · by_cases e : kl = key M.length
    · exact ⟨M.length, by simp, e⟩
    · rw [Maps.has_put_other e] at hkl
      obtain ⟨j, hj, e2⟩ := h.only kl hkl
      exact ⟨j, by simp; omega, e2⟩
  · rw [getD_snoc] at hj
    by_cases e : j = M.length
    · subst e
      rw [if_pos rfl] at hj
      injection hj with hj
      subst hj
      exact Maps.atKey_put_same hD (key_lit _) _ _
    · rw [if_neg e] at hj
      rw [Maps.atKey_put_other (key_ne e)]
      exact h.at_ j c hj z
theorem MRel.del {M : List (Option S38)} {D : D1} (h : MRel M D) {k : Nat} (hk : k < M.length) : MRel (M.set k none) (D.del (key k)) := by
  refine ⟨fun j => ?_, fun kl hkl => ?_, fun j c hj z => ?_⟩
  · rw [getD_set']
    by_cases e : k = j
    · subst e; rw [if_pos ⟨rfl, hk⟩, Maps.has_del_same]; rfl
    · rw [if_neg (fun h => e h.1), Maps.has_del_other (key_ne (fun h => e h.symm)), h.has]
  · by_cases e : kl = key k
    · subst e; rw [Maps.has_del_same] at hkl; cases hkl
    · rw [Maps.has_del_other e] at hkl
      obtain ⟨j, hj, e2⟩ := h.only kl hkl
      exact ⟨j, by simpa using hj, e2⟩
  · rw [getD_set'] at hj
    by_cases e : k = j
    · subst e
      rw [if_pos ⟨rfl, hk⟩] at hj
      cases hj
    · rw [if_neg (fun h => e h.1)] at hj
      rw [Maps.atKey_del_other (key_ne (fun h => e h.symm))]
      exact h.at_ j c hj z

/-- Block b of w is the map that M tells; at most c stores have been made. -/
def MapAt (w : World) (b c : Nat) (M : List (Option S38)) : Prop := ∃ n D, n ≤ c ∧ w.ownsMap Try.prog 3 blobR b n D ∧ MRel M D

theorem law3 : Keyed Try.prog 3 := int_keyed Try.underlying3
theorem keyOf3 (k : Nat) (hk : k ≤ 1000000000) : keyOf Try.prog 3 (.int .i64 (k : Int)) = some (key k) := keyOf_int_mk Try.underlying3 (WalkArith.wf_i64 (by omega))
theorem zero38 (w : World) : (zeroValue 38).run Try.prog w = .ok (bval z38) w := by kernel_rfl
theorem isMap_of {w : World} {b n : Nat} {D : D1} (h : w.ownsMap Try.prog 3 blobR b n D) : Maps.IsMap D := by
  obtain ⟨es, clock, _, _, _, rfl⟩ := h
  exact ⟨_, rfl⟩

section
variable {w w' : World} {b c : Nat} {M : List (Option S38)}
theorem MapAt.lt (h : MapAt w b c M) : b < w.heap.size := by obtain ⟨n, D, _, ho, _⟩ := h; exact ho.lt
theorem MapAt.kept {row : Option Nat} (h : MapAt w b c M) (hg : w.grownBy w' row) (hne : some b ≠ row) : MapAt w' b c M := by
  obtain ⟨n, D, hn, ho, hr⟩ := h
  exact ⟨n, D, hn, ho.kept hg hne, hr⟩
theorem MapAt.below {B : Nat} (h : MapAt w b c M) (hb : Below B w w') (hB : b < B) : MapAt w' b c M := by
  obtain ⟨n, D, hn, ⟨es, clock, h1, h2⟩, hr⟩ := h
  exact ⟨n, D, hn, ⟨es, clock, (hb.block b hB).trans h1, h2⟩, hr⟩
theorem MapAt.same (h : MapAt w b c M) (hb : w'.heap[b]? = w.heap[b]?) : MapAt w' b c M := by
  obtain ⟨n, D, hn, ⟨es, clock, h1, h2⟩, hr⟩ := h
  exact ⟨n, D, hn, ⟨es, clock, hb.trans h1, h2⟩, hr⟩
theorem MapAt.drew (h : MapAt w b c M) : MapAt w.drew b c M := h
theorem MapAt.isCells (h : MapAt w b c M) {g t : Nat} {cs : Array Value} {fr : Nat × Nat} (hg : w.heap[g]? = some (.cells cs t fr)) : b ≠ g := by
  rintro rfl
  obtain ⟨n, D, _, ⟨es, clock, h1, _⟩, _⟩ := h
  rw [h1] at hg
  cases hg
theorem MapAt.look (h : MapAt w b c M) (k : Nat) (hk : k ≤ 1000000000) (x : S38) (hx : M.getD k none = some x) : (Instr.lookup 66 (.map (some b)) (.int .i64 (k : Int)) false).run Try.prog w = .ok (bval x) w := by
  obtain ⟨n, D, _, ho, hr⟩ := h
  obtain ⟨v, ps, hrun, hv⟩ := ho.lookup law3 Try.underlying66 (zero38 w) (blobR_mk z38) (keyOf3 k hk)
  rw [hr.at_ k x hx] at hv
  obtain ⟨b', rfl, e, _⟩ := blobR_inv hv
  rw [encB_inj e]
  exact hrun
theorem MapAt.put_ (h : MapAt w b c M) (hc : c ≤ 1000000000) (k : Nat) (hk : k ≤ 1000000000) (hl : k < M.length) (x : S38) :
    ∃ w', (Instr.mapUpdate 66 (.map (some b)) (.int .i64 (k : Int)) (bval x)).run Try.prog w = .ok () w' ∧ MapAt w' b (c + 1) (M.set k (some x)) ∧ w.grownBy w' (some b) := by
  obtain ⟨n, D, hn, ho, hr⟩ := h
  obtain ⟨w', hrun, ho', hg⟩ := ho.update law3 Try.underlying66 (by unfold maxLen; omega) (keyOf3 k hk) (blobR_mk x)
  exact ⟨w', hrun, ⟨n + 1, _, by omega, ho', hr.put (isMap_of ho) hl x⟩, hg⟩
theorem MapAt.more_ (h : MapAt w b c M) (hc : c ≤ 1000000000) (hl : M.length ≤ 1000000000) (x : S38) :
    ∃ w', (Instr.mapUpdate 66 (.map (some b)) (.int .i64 (M.length : Int)) (bval x)).run Try.prog w = .ok () w' ∧ MapAt w' b (c + 1) (M ++ [some x]) ∧ w.grownBy w' (some b) := by
  obtain ⟨n, D, hn, ho, hr⟩ := h
  obtain ⟨w', hrun, ho', hg⟩ := ho.update law3 Try.underlying66 (by unfold maxLen; omega) (keyOf3 _ hl) (blobR_mk x)
  exact ⟨w', hrun, ⟨n + 1, _, by omega, ho', hr.more (isMap_of ho) x⟩, hg⟩
theorem MapAt.del_ (h : MapAt w b c M) (k : Nat) (hk : k ≤ 1000000000) (hl : k < M.length) (ty : TypeId) :
    ∃ w', (Builtin.delete_ #[66, 3] ty #[.map (some b), .int .i64 (k : Int)]).run Try.prog w = .ok (.tuple #[]) w' ∧ MapAt w' b c (M.set k none) ∧ w.grownBy w' (some b) := by
  obtain ⟨n, D, hn, ho, hr⟩ := h
  obtain ⟨w', hrun, ho', ht⟩ := ho.drop law3 Try.underlying66 (keyOf3 k hk) ty
  refine ⟨w', hrun, ⟨n, _, hn, ho', hr.del hl⟩, ?_⟩
  obtain ⟨es, clock, es', clock', h1, rfl⟩ := ht
  exact ⟨rfl, rfl, rfl, by simp [ChangeMaps.setBlock], fun i _ hi => ChangeMaps.heap_setBlock_other h1 _ (fun e => hi (by rw [e]))⟩
end
end Go.Proofs.Ytahibhipffojlaa.Map
