/- The laws at the operations on the map of readorder.Sort, for its walk. -/
import Derived.Test.YtdkiembkigadkaaSortK
import Derived.Maps.OwnSet
set_option linter.unusedSimpArgs false
set_option linter.unusedVariables false
namespace Go.Proofs.Ytdkiembkigadkaa.Map
open Go.RowKit Go.Maps Go.Proofs.YtdkiembkigadkaaW.PrintLast Go.Proofs.YtdkiembkigadkaaW.PrintWords Go.Proofs.YtdkiembkigadkaaW.PrintMore Go.Proofs.Ytdkiembkigadkaa.M
section
variable {ops : Array Oper} {rest : List Oper} {o : Oper} {a : Act} {Q : Exit → Act → World → Prop} {w0 w w1 : World} {b c n q r : Nat} {f : Nat → Option Nat} {left : Nat → Bool}
theorem wpl_upd (hg : o.guard = none) (m x v : Operand) (t : TypeId) (hop : o.op = Op.mapUpdate t m x v) (hrun : (Instr.mapUpdate t (a.eval m) (a.eval x) (a.eval v)).run Try.prog w = .ok () w1) (h : wpList Try.prog ops Q rest (a.put o.dst undef) w1) : wpList Try.prog ops Q (o :: rest) a w := by
  refine wpList_plain hg fun K' hK' => ?_
  unfold Oper.wp
  simp [execOp, hop, hrun, Result.andThen]
  exact hK' _ _ h
theorem wpl_more (HM : MapN w0 b c n f) (hb : Below w0.heap.size w0 w) (hc : c ≤ 1000000000) (hn : n ≤ 1000000000) (x : Nat) (hx : x ≤ 1000000000) (hg : o.guard = none) (m k v : Operand) (hop : o.op = Op.mapUpdate 45 m k v)
    (hm : a.eval m = .map (some b)) (hk : a.eval k = .int .i64 (n : Int)) (hv : a.eval v = .int .i64 (x : Int))
    (h : ∀ w1, MapN w1 b (c + 1) (n + 1) (fun j => if j = n then some x else f j) → w.grownBy w1 (some b) → wpList Try.prog ops Q rest (a.put o.dst undef) w1) : wpList Try.prog ops Q (o :: rest) a w := by
  obtain ⟨w1, hrun, h1, h2⟩ := (HM.below' hb).more_ hc x hn hx
  exact wpl_upd hg m k v 45 hop (by rw [hm, hk, hv]; exact hrun) (h w1 h1 h2)
theorem wpl_put (HM : MapN w0 b c n f) (hb : Below w0.heap.size w0 w) (hc : c ≤ 1000000000) (j x : Nat) (hj : j ≤ 1000000000) (hx : x ≤ 1000000000) (hn : j < n) (hg : o.guard = none) (m k v : Operand) (hop : o.op = Op.mapUpdate 45 m k v)
    (hm : a.eval m = .map (some b)) (hk : a.eval k = .int .i64 (j : Int)) (hv : a.eval v = .int .i64 (x : Int))
    (h : ∀ w1, MapN w1 b (c + 1) n (fun i => if i = j then some x else f i) → w.grownBy w1 (some b) → wpList Try.prog ops Q rest (a.put o.dst undef) w1) : wpList Try.prog ops Q (o :: rest) a w := by
  obtain ⟨w1, hrun, h1, h2⟩ := (HM.below' hb).put_ hc j x hj hx hn
  exact wpl_upd hg m k v 45 hop (by rw [hm, hk, hv]; exact hrun) (h w1 h1 h2)
theorem wpl_del (HM : MapN w b c n f) (j : Nat) (hj : j ≤ 1000000000) (hn : j < n) (hg : o.guard = none) (m x : Operand) (hop : o.op = Op.call { callee := Callee.builtin Builtin.delete, args := #[m, x], argTypes := #[45, 3] })
    (hm : a.eval m = .map (some b)) (hk : a.eval x = .int .i64 (j : Int))
    (h : ∀ w1, MapN w1 b c n (fun i => if i = j then none else f i) → w.grownBy w1 (some b) → wpList Try.prog ops Q rest (a.put o.dst (.tuple #[])) w1) : wpList Try.prog ops Q (o :: rest) a w := by
  obtain ⟨w1, hrun, h1, h2⟩ := HM.del_ j hj hn o.type
  refine wpList_plain hg fun K' hK' => ?_
  unfold Oper.wp
  simp [execOp, hop, resolve, invoke, builtin, hm, hk, hrun, Result.andThen]
  exact hK' _ _ (h w1 h1 h2)
theorem size_present {D : D0} (ho : w.ownsMap Try.prog 3 (plainElem Try.prog 3) b q D) (hr : MRel n f D) : Maps.size D = (present n f).length := by
  have h1 := (keys_present ho hr).length_eq
  obtain ⟨es, rfl, _, _⟩ := ho.entries law3
  rw [h1]
  unfold Go.intKeys
  simp only [List.length_map]
  rfl
theorem wpl_len (HM : MapN w b c n f) (hg : o.guard = none) (m : Operand) (hop : o.op = Op.call { callee := Callee.builtin Builtin.len, args := #[m], argTypes := #[45] }) (hm : a.eval m = .map (some b))
    (h : wpList Try.prog ops Q rest (a.put o.dst (.int .i64 ((present n f).length : Int))) w) : wpList Try.prog ops Q (o :: rest) a w := by
  obtain ⟨q, D, _, ho, hr⟩ := HM
  refine wpList_len_own w hg m 45 hop 3 3 Try.underlying45 (plainElem Try.prog 3) b q D hm ho ?_
  rw [size_present ho hr]
  exact h
/-- a loop over the map is under way -/
def RangeAt (w : World) (b r c n : Nat) (f : Nat → Option Nat) (left : Nat → Bool) : Prop :=
  ∃ q D lf cnt, q ≤ c ∧ w.ranges Try.prog 3 (plainElem Try.prog 3) b r q D lf cnt ∧ MRel n f D ∧ (∀ k, k < n → lf (key k) = left k) ∧ ∀ kl, lf kl = true → ∃ k, k < n ∧ kl = key k ∧ (f k).isSome = true
theorem RangeAt.map (h : RangeAt w b r c n f left) : MapN w b c n f := by
  obtain ⟨q, D, lf, cnt, hq, hr, hm, _⟩ := h
  exact ⟨q, D, hq, hr.owns, hm⟩
theorem RangeAt.kept {w' : World} {row : Option Nat} (h : RangeAt w b r c n f left) (hg : w.grownBy w' row) (h1 : some b ≠ row) (h2 : some r ≠ row) : RangeAt w' b r c n f left := by
  obtain ⟨q, D, lf, cnt, hq, hr, hm⟩ := h
  exact ⟨q, D, lf, cnt, hq, hr.kept hg h1 h2, hm⟩
theorem RangeAt.below' {w' : World} (h : RangeAt w b r c n f left) (hb : Below w.heap.size w w') : RangeAt w' b r c n f left ∧ w'.rangeLeft b r = w.rangeLeft b r := by
  obtain ⟨q, D, lf, cnt, hq, hr, hm⟩ := h
  have h' := hr.kept (grown_of_below hb none) (by simp) (by simp)
  exact ⟨⟨q, D, lf, cnt, hq, h', hm⟩, by rw [h'.left_eq, hr.left_eq]⟩
theorem RangeAt.iter (h : RangeAt w b r c n f left) (cs : Array Value) (t : TypeId) : w.heap[r]? ≠ some (.cells cs t (0, 0)) := by
  obtain ⟨q, D, lf, cnt, hq, ⟨es, clock, since, seen, c0, h1, h2, h3, h4, h5, _⟩, hm⟩ := h
  rw [h5]
  intro e
  cases e
theorem MapN.cells (h : MapN w b c n f) (cs : Array Value) (t : TypeId) : w.heap[b]? ≠ some (.cells cs t (0, 0)) := by
  obtain ⟨q, D, _, ⟨es, clock, h1, _⟩, _⟩ := h
  rw [h1]
  intro e
  cases e
theorem wpl_range (HM : MapN w b c n f) (hg : o.guard = none) (m : Operand) (hop : o.op = Op.range 45 m) (hm : a.eval m = .map (some b))
    (h : ∀ w1, RangeAt w1 b w.heap.size c n f (fun k => decide (k < n) && (f k).isSome) → w.grownBy w1 none → w1.heap.size = w.heap.size + 1 → wpList Try.prog ops Q rest (a.put o.dst (.pointer (some ⟨w.heap.size, 0, none⟩))) w1) : wpList Try.prog ops Q (o :: rest) a w := by
  obtain ⟨q, D, hq, ho, hr⟩ := HM
  refine wpList_range_own w hg m 45 hop 3 3 law3 Try.underlying45 (plainElem Try.prog 3) b q D hm ho ?_
  intro w1 h1 h2 h3
  refine h w1 ⟨q, D, _, _, hq, h1, hr, fun k _ => hr.has k, fun kl hk => ?_⟩ h2 h3
  obtain ⟨k, hkn, rfl⟩ := hr.only kl hk
  refine ⟨k, hkn, rfl, ?_⟩
  have := hr.has k
  rw [hk] at this
  have h2 : k < n ∧ (f k).isSome = true := by simpa using this.symm
  exact h2.2
/-- the next entry -/
theorem wpl_next (HM : RangeAt w b r c n f left) (hn : n ≤ 1000000000) (hg : o.guard = none) (it : Operand) (hop : o.op = Op.next it false) (hit : a.eval it = .pointer (some ⟨r, 0, none⟩))
    (hDone : (∀ k, k < n → left k = false) → wpList Try.prog ops Q rest (a.put o.dst (.tuple #[.bool false])) w)
    (hMore : ∀ (k y : Nat) (w1 : World), k < n → left k = true → f k = some y → RangeAt w1 b r c n f (fun j => left j && !decide (j = k)) → w1.rangeLeft b r < w.rangeLeft b r → w.grownBy w1 (some r) → w1.heap.size = w.heap.size →
      (Instr.entry (.pointer (some ⟨r, 0, none⟩))).run Try.prog w1 = .ok (.tuple #[.int .i64 (k : Int), .int .i64 (y : Int)]) w1 → wpList Try.prog ops Q rest (a.put o.dst (.tuple #[.bool true, .int .i64 (k : Int), .int .i64 (y : Int)])) w1) :
    wpList Try.prog ops Q (o :: rest) a w := by
  obtain ⟨q, D, lf, cnt, hq, hr, hm, hl1, hl2⟩ := HM
  refine wpList_next_ranges_ii w hg it hop 3 3 .i64 .i64 law3 Try.underlying3 Try.underlying3 b r q D lf cnt hit hr (fun _ h0 => hDone fun k hk => by rw [← hl1 k hk]; exact h0 _) ?_
  intro x y w1 cnt1 _ _ hlx hat hr1 hlt hg1 hs1 hen
  obtain ⟨k, hk, e1, hks⟩ := hl2 _ hlx
  have e2 : x = (k : Int) := (Lit.int.inj e1).2
  subst e2
  obtain ⟨z, hz⟩ := Option.isSome_iff_exists.1 hks
  have h3 : (DataW.lit (.int .i64 y) : D0) = .lit (.int .i64 (z : Int)) := (hat (.lit (.int .i64 0))).symm.trans (hm.at_ k z hk hz _)
  have e3 := (Lit.int.inj (DataW.lit.inj h3)).2
  subst e3
  refine hMore k z w1 hk ?_ hz ⟨q, D, _, cnt1, hq, hr1, hm, fun j hj => ?_, fun kl hkl => ?_⟩ (by rw [hr1.left_eq, hr.left_eq]; exact hlt) hg1 hs1 hen
  · rw [← hl1 k hk]; exact hlx
  · rw [hl1 j hj]
    show (left j && !(key j).sameKey (key k)) = _
    rw [sameKey_key]
  · rw [Bool.and_eq_true] at hkl
    exact hl2 kl hkl.1
/-- a store at an entry of the map -/
theorem wpl_rput (HM : RangeAt w b r c n f left) (hc : c ≤ 1000000000) (j x : Nat) (hj : j ≤ 1000000000) (hx : x ≤ 1000000000) (hn : j < n) (hs : (f j).isSome = true) (hg : o.guard = none) (m k v : Operand) (hop : o.op = Op.mapUpdate 45 m k v)
    (hm : a.eval m = .map (some b)) (hk : a.eval k = .int .i64 (j : Int)) (hv : a.eval v = .int .i64 (x : Int))
    (h : ∀ w1, RangeAt w1 b r c n (fun i => if i = j then some x else f i) left → w1.rangeLeft b r = w.rangeLeft b r → w.grownBy w1 (some b) → wpList Try.prog ops Q rest (a.put o.dst undef) w1) : wpList Try.prog ops Q (o :: rest) a w := by
  obtain ⟨q, D, lf, cnt, hq, hr, hmr, hl1, hl2⟩ := HM
  obtain ⟨w1, hrun, h1, h2⟩ := ranges_store hr law3 Try.underlying45 (keyOf3 j hj) (by rw [hmr.has j, hs]; simpa using hn) (by unfold maxLen; omega) (EI_mk x hx)
  refine wpl_upd hg m k v 45 hop (by rw [hm, hk, hv]; exact hrun) (h w1 ⟨q, _, lf, cnt, hq, h1, hmr.put (isMap_of hr.owns) hn x, hl1, fun kl hkl => ?_⟩ (by rw [h1.left_eq, hr.left_eq]) h2)
  obtain ⟨i, hi, e, hs2⟩ := hl2 kl hkl
  refine ⟨i, hi, e, ?_⟩
  show (if i = j then some x else f i).isSome = true
  split
  · rfl
  · exact hs2
end
end Go.Proofs.Ytdkiembkigadkaa.Map
