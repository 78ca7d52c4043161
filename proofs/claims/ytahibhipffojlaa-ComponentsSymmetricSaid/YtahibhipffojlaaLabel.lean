/- Small steps for walks by hand: a call through a function value, in a plain region and in one that draws its order. -/
import Derived.Test.YtahibhipffojlaaWLast
import Derived.Test.YtahibhipffojlaaWWords
import Derived.WalkKit
import Derived.WalkSpells
import Derived.WalkLawsBesides
import Derived.Laws.Pointers
import Derived.OneCell
import Derived.KernelRfl
import Derived.Lib.Hide
import Derived.Below
import Derived.Test.YtahibhipffojlaaProg
import Derived.Deep.AppendLies
import Derived.Maps.AppendAt
import Derived.Test.YtahibhipffojlaaMx0
import Derived.BigRegion
import Derived.Laws.ResultCell
import Derived.Outline
import Derived.Maps.Own
import Derived.Maps.OwnOps
import Derived.Maps.OwnSet
import Derived.Maps.RangeWalk
import Derived.Sort.KeysCollected
import Derived.Shelf.Sort.Plain
import Derived.Shelf.Slices.In.SortNone
import Derived.Sort.OwnSortedInts
import Derived.Laws.EntriesVeiled
namespace Go.Proofs.Ytahibhipffojlaa.Walk
open Go.RowKit Go.Proofs.YtahibhipffojlaaW.PrintLast Go.Proofs.YtahibhipffojlaaW.PrintWords

section
variable {P : Program} {ops : Array Oper} {Q : Exit → Act → World → Prop}
theorem enterV {a : Act} {w : World} {oi : Oper} {f : FuncId} {fn : Func} {x : Operand} {as_ : Array Operand} {ts : Array TypeId} (caps : Array Value) (hf : P.funcs[f]? = some fn) (hname : (fn.name == "runtime.NumGoroutine") = false) (hb : fn.body.isSome = true) (args : Array Value)
    (hop : oi.op = .call { callee := .value x, args := as_, argTypes := ts }) (hx : a.eval x = .func (.func f) #[] caps) (hargs : as_.map a.eval ++ caps = args) : (execOp a.eval oi).run P w = .ok (.enter f args) w := by
  have he := enters_ hf hname hb args w
  unfold execOp
  subst hargs
  simp [hop, resolve, hx, Deferred.ofValue, invoke, he]
/-- In a region that draws its order. -/
theorem goesV {oi : Oper} {N : Option Tmp} {a : Act} {w : World} {K : Act → World → Prop} {f : FuncId} {fn : Func} {x : Operand} {as_ : Array Operand} {ts : Array TypeId} (caps : Array Value) (hf : P.funcs[f]? = some fn) (hname : (fn.name == "runtime.NumGoroutine") = false) (hb : fn.body.isSome = true) (args : Array Value)
    (hw : Region.wanted oi (yielded ops a.tmps) = true) (hN : oi.dst = N) (hop : oi.op = .call { callee := .value x, args := as_, argTypes := ts }) (hx : a.eval x = .func (.func f) #[] caps) (hargs : as_.map a.eval ++ caps = args)
    (h : Calls P f args w fun e w' => ∃ v, e = .returned v ∧ K (a.put N v) w') : if Region.wanted oi (yielded ops a.tmps) = true then Oper.wp P oi a w K Q else K (a.put N undef) w :=
  call_ f args hw hN (enterV caps hf hname hb args hop hx hargs) h
/-- In a plain region, as an arm of the walk. -/
theorem goesVL {rest : List Oper} {oi : Oper} {a : Act} {w : World} (N : Option Tmp) (hd : oi.dst = N) (hg : oi.guard = none) {f : FuncId} {fn : Func} {x : Operand} {as_ : Array Operand} {ts : Array TypeId} (caps : Array Value) (hf : P.funcs[f]? = some fn) (hname : (fn.name == "runtime.NumGoroutine") = false) (hb : fn.body.isSome = true) (args : Array Value)
    (hop : oi.op = .call { callee := .value x, args := as_, argTypes := ts }) (hx : a.eval x = .func (.func f) #[] caps) (hargs : as_.map a.eval ++ caps = args)
    (h : Calls P f args w fun e w' => ∃ v, e = .returned v ∧ wpList P ops Q rest (a.put N v) w') : wpList P ops Q (oi :: rest) a w := by
  refine wpList_plain hg fun K hK => ?_
  unfold Oper.wp
  rw [enterV caps hf hname hb args hop hx hargs, Oper.upon_enter]
  refine h.mono fun e w'' hh => ?_
  obtain ⟨v, rfl, hk⟩ := hh
  subst hd
  exact hK _ _ hk
end
end Go.Proofs.Ytahibhipffojlaa.Walk
/- Plain facts on a table of parents: each entry points to itself or to an earlier one, and the root that it leads to. -/
set_option linter.unusedSimpArgs false
set_option linter.unusedVariables false
namespace Go.Proofs.Ytahibhipffojlaa.Uf

/-- p: the parents; rt: the root of each entry -/
structure Par (p rt : List Int) : Prop where
  len : p.length = rt.length
  lo : ∀ a : Nat, a < p.length → 0 ≤ p.getD a 0
  hi : ∀ a : Nat, a < p.length → p.getD a 0 ≤ a
  self : ∀ a : Nat, a < p.length → p.getD a 0 = a → rt.getD a 0 = a
  up : ∀ a : Nat, a < p.length → p.getD a 0 ≠ a → rt.getD a 0 = rt.getD (p.getD a 0).toNat 0

theorem Par.root {p rt : List Int} (h : Par p rt) : ∀ n a : Nat, a < n → a < p.length → 0 ≤ rt.getD a 0 ∧ rt.getD a 0 ≤ a ∧ p.getD (rt.getD a 0).toNat 0 = rt.getD a 0 := by
  intro n
  induction n with
  | zero => intro a h; omega
  | succ n ih =>
    intro a ha hl
    by_cases e : p.getD a 0 = a
    · rw [h.self a hl e]
      refine ⟨by omega, by omega, ?_⟩
      rw [Int.toNat_natCast, e]
    · rw [h.up a hl e]
      have h0 := h.lo a hl
      have h1 := h.hi a hl
      have := ih (p.getD a 0).toNat (by omega) (by omega)
      omega

theorem getD_set {xs : List Int} {i j : Nat} {x : Int} : (xs.set i x).getD j 0 = if i = j ∧ i < xs.length then x else xs.getD j 0 := by
  rw [List.getD_eq_getElem?_getD, List.getElem?_set, List.getD_eq_getElem?_getD]
  by_cases h : i = j
  · subst h
    by_cases hl : i < xs.length
    · simp [hl]
    · simp [hl]
  · simp [h]

/-- the path to the root is shortened -/
theorem Par.short {p rt : List Int} (h : Par p rt) (a : Nat) (ha : a < p.length) : Par (p.set a (rt.getD a 0)) rt := by
  have R := h.root (a + 1) a (by omega) ha
  refine ⟨by simp [h.len], fun b hb => ?_, fun b hb => ?_, fun b hb => ?_, fun b hb => ?_⟩ <;> rw [List.length_set] at hb <;> rw [getD_set] <;> by_cases e : a = b <;> simp only [e, ha, true_and, and_true, false_and, if_true, if_false, hb]
  · subst e; omega
  · exact h.lo b hb
  · subst e; omega
  · exact h.hi b hb
  · intro k; exact k
  · exact h.self b hb
  · intro _
    subst e
    have R2 := h.root (a + 1) (rt.getD a 0).toNat (by omega) (by omega)
    have := h.self (rt.getD a 0).toNat (by omega) (by omega)
    omega
  · exact h.up b hb

/-- one entry more, that points to itself -/
theorem Par.more {p rt : List Int} (h : Par p rt) : Par (p ++ [(p.length : Int)]) (rt ++ [(p.length : Int)]) := by
  have hl := h.len
  have g : ∀ (xs : List Int) (b : Nat) (x : Int), (xs ++ [x]).getD b 0 = if b = xs.length then x else xs.getD b 0 := by
    intro xs b x
    rw [List.getD_eq_getElem?_getD, List.getElem?_append, List.getD_eq_getElem?_getD]
    split
    · rw [if_neg (by omega)]
    · split
      · next e => rw [e]; simp
      · rw [List.getElem?_eq_none (by simp; omega), List.getElem?_eq_none (by omega)]
  refine ⟨by simp [hl], fun b hb => ?_, fun b hb => ?_, fun b hb => ?_, fun b hb => ?_⟩ <;> rw [List.length_append, List.length_singleton] at hb <;> rw [g] <;> by_cases e : b = p.length <;> simp only [e, if_true, if_false]
  · omega
  · exact h.lo b (by omega)
  · omega
  · exact h.hi b (by omega)
  · intro _; rw [g, if_pos (by omega)]
  · intro k; rw [g, if_neg (by omega)]; exact h.self b (by omega) k
  · intro k; exact absurd rfl k
  · intro k
    have h0 := h.lo b (by omega)
    have h1 := h.hi b (by omega)
    rw [g, g, if_neg (by omega), if_neg (by omega)]; exact h.up b (by omega) k

/-- one root is put under an earlier one -/
theorem Par.join {p rt : List Int} (h : Par p rt) (a b : Nat) (hab : a < b) (hb : b < p.length) (ra : p.getD a 0 = a) (rb : p.getD b 0 = b) : Par (p.set b a) (rt.map fun x => if x = (b : Int) then (a : Int) else x) := by
  have hl := h.len
  have gm : ∀ c : Nat, c < p.length → (rt.map fun x => if x = (b : Int) then (a : Int) else x).getD c 0 = if rt.getD c 0 = b then (a : Int) else rt.getD c 0 := by
    intro c hc
    rw [List.getD_eq_getElem?_getD, List.getElem?_map, List.getD_eq_getElem?_getD]
    rw [List.getElem?_eq_getElem (by omega)]
    rfl
  have ea := h.self a (by omega) ra
  have eb := h.self b hb rb
  have gs : ∀ c : Nat, (p.set b (a : Int)).getD c 0 = if b = c then (a : Int) else p.getD c 0 := fun c => by rw [getD_set]; simp only [hb, and_true]
  refine ⟨by simp [hl], fun c hc => ?_, fun c hc => ?_, fun c hc => ?_, fun c hc => ?_⟩ <;> rw [List.length_set] at hc <;> rw [gs] <;> by_cases e : b = c
  · rw [if_pos e]; omega
  · rw [if_neg e]; exact h.lo c hc
  · rw [if_pos e]; omega
  · rw [if_neg e]; exact h.hi c hc
  · rw [if_pos e]; intro k; omega
  · rw [if_neg e]; intro k
    have := h.self c hc k
    rw [gm c hc, this, if_neg (by omega)]
  · rw [if_pos e]; intro k
    subst e
    rw [gm b hb, eb, if_pos rfl, Int.toNat_natCast, gm a (by omega), ea, if_neg (by omega)]
  · rw [if_neg e]; intro k
    have h0 := h.lo c hc
    have h1 := h.hi c hc
    rw [gm c hc, gm _ (by omega), h.up c hc k]
end Go.Proofs.Ytahibhipffojlaa.Uf
/- The closure find of components.label returns the root of an entry, and leaves a table of parents with the same roots. -/
set_option linter.unusedSimpArgs false
set_option linter.unusedVariables false
namespace Go.Proofs.Ytahibhipffojlaa.Find
open Go.RowKit Go.Proofs.Ytahibhipffojlaa.Uf Go.Proofs.YtahibhipffojlaaW.PrintLast Go.Proofs.Ytahibhipffojlaa.Walk

theorem ret_int {k : IntKind} {a b : Int} (h : a = b) : Ending.returned (.int k a) = .returned (.int k b) := by rw [h]

def vals (p : List Int) : List Value := p.map (Value.int .i64)

/-- The table of parents p in block g, its variable in block bp; the closure find in block bf. -/
structure Ufw (base : Nat) (w : World) (bp bf g n cap : Nat) (p : List Int) : Prop where
  len : p.length = n
  hp : w.heap[bp]? = some (.cells #[.slice (some ⟨g, 0, none⟩) n cap] 27 (0, 0))
  hf : w.heap[bf]? = some (.cells #[.func (.func 46) #[] #[.pointer (some ⟨bp, 0, none⟩), .pointer (some ⟨bf, 0, none⟩)]] 63 (0, 0))
  own : w.ownsRow base 3 1 (.slice (some ⟨g, 0, none⟩) n cap) n (vals p)

section
variable {base : Nat} {w : World} {bp bf g n cap : Nat} {p : List Int}
theorem Ufw.drew (U : Ufw base w bp bf g n cap p) : Ufw base w.drew bp bf g n cap p := ⟨U.len, U.hp, U.hf, U.own⟩
theorem Ufw.at_ (U : Ufw base w bp bf g n cap p) (a : Nat) (ha : a < n) : w.cell? ⟨g, a, none⟩ = some (.int .i64 (p.getD a 0)) := by
  rw [U.own.cellAt a (by omega)]
  simp only [vals, List.getElem?_map]
  have hl := U.len
  rw [List.getElem?_eq_getElem (by omega), List.getD_eq_getElem?_getD, List.getElem?_eq_getElem (by omega)]; rfl
theorem Ufw.gp (U : Ufw base w bp bf g n cap p) : g ≠ bp := by
  rintro rfl
  rcases U.own.2 with ⟨h, _⟩ | ⟨g', cap', cur, h, _, hh, _⟩
  · cases h
  · injection h with h; injection h with h; injection h with h
    subst h
    rw [U.hp] at hh; injection hh with hh; injection hh with _ h3; exact absurd h3 (by decide)
theorem Ufw.gf (U : Ufw base w bp bf g n cap p) : g ≠ bf := by
  rintro rfl
  rcases U.own.2 with ⟨h, _⟩ | ⟨g', cap', cur, h, _, hh, _⟩
  · cases h
  · injection h with h; injection h with h; injection h with h
    subst h
    rw [U.hf] at hh; injection hh with hh; injection hh with _ h3; exact absurd h3 (by decide)
theorem vals_set (p : List Int) (a : Nat) (x : Int) : (vals p).set a (.int .i64 x) = vals (p.set a x) := by simp [vals]
theorem Ufw.set_ (U : Ufw base w bp bf g n cap p) (a : Nat) (x : Int) : Ufw base (w.setCell ⟨g, a, none⟩ (.int .i64 x)) bp bf g n cap (p.set a x) :=
  ⟨by rw [List.length_set]; exact U.len, (Below.heap_setCell w _ _ bp (fun e => U.gp e.symm)).trans U.hp, (Below.heap_setCell w _ _ bf (fun e => U.gf e.symm)).trans U.hf, by
    rw [← vals_set]; exact (U.own.stored a _).1⟩
end
theorem grown_set (w : World) (g a : Nat) (x : Value) : w.grownBy (w.setCell ⟨g, a, none⟩ x) (some g) :=
  ⟨rfl, rfl, rfl, by simp [World.setCell], fun i _ hi => Below.heap_setCell w _ _ i (fun e => hi (by rw [e]))⟩
theorem grown_drew {w w' : World} {row : Option Nat} (h : w.drew.grownBy w' row) : w.grownBy w' row := ⟨h.os, h.tape, h.output, h.size, h.block⟩

def FindPost (p rt : List Int) (base : Nat) (w : World) (bp bf g n cap a : Nat) (e : Ending) (w' : World) : Prop :=
  e = .returned (.int .i64 (rt.getD a 0)) ∧ ∃ p', Par p' rt ∧ Ufw base w' bp bf g n cap p' ∧ (∀ j : Nat, a < j → p'.getD j 0 = p.getD j 0) ∧ w.grownBy w' (some g)

theorem at_self (rt : List Int) (base : Nat) (w : World) (bp bf g n cap a : Nat) (p : List Int) (P : Par p rt) (U : Ufw base w bp bf g n cap p) (ha : a < n) (e : p.getD a 0 = a) :
    Calls Try.prog 46 #[.int .i64 (a : Int), .pointer (some ⟨bp, 0, none⟩), .pointer (some ⟨bf, 0, none⟩)] w (FindPost p rt base w bp bf g n cap a) := by
  have hc1 : w.cell? ⟨bp, 0, none⟩ = some (.slice (some ⟨g, 0, none⟩) n cap) := cell_of_one U.hp
  have hc2 : w.cell? ⟨g, a, none⟩ = some (.int .i64 (a : Int)) := by rw [U.at_ a ha, e]
  have hi0 : (0 : Int) ≤ (a : Int) := Int.natCast_nonneg _
  have hi1 : (a : Int) < (n : Int) := by omega
  have hl := Lib.hid U.len
  have HE := Lib.hid e
  clear e
  go_enter Try.func46, Try.ntmps46
  go_wp2
  go_ret
  exact ⟨ret_int (P.self a (by rw [hl.out]; exact ha) HE.out).symm, p, P, U, fun _ _ => rfl, World.grownBy.refl w _⟩

set_option maxRecDepth 100000 in
set_option maxHeartbeats 1000000 in
theorem at_other (rt : List Int) (base : Nat) (w : World) (bp bf g n cap a b : Nat) (p : List Int) (P : Par p rt) (U : Ufw base w bp bf g n cap p) (ha : a < n) (hb : p.getD a 0 = b) (hba : b < a)
    (ih : ∀ w1, Ufw base w1 bp bf g n cap p → Calls Try.prog 46 #[.int .i64 (b : Int), .pointer (some ⟨bp, 0, none⟩), .pointer (some ⟨bf, 0, none⟩)] w1 (FindPost p rt base w1 bp bf g n cap b)) :
    Calls Try.prog 46 #[.int .i64 (a : Int), .pointer (some ⟨bp, 0, none⟩), .pointer (some ⟨bf, 0, none⟩)] w (FindPost p rt base w bp bf g n cap a) := by
  have hc1 : w.cell? ⟨bp, 0, none⟩ = some (.slice (some ⟨g, 0, none⟩) n cap) := cell_of_one U.hp
  have hc3 : w.cell? ⟨bf, 0, none⟩ = some (.func (.func 46) #[] #[.pointer (some ⟨bp, 0, none⟩), .pointer (some ⟨bf, 0, none⟩)]) := cell_of_one U.hf
  have hc2 : w.cell? ⟨g, a, none⟩ = some (.int .i64 (b : Int)) := by rw [U.at_ a ha, hb]
  have hi0 : (0 : Int) ≤ (a : Int) := Int.natCast_nonneg _
  have hi1 : (a : Int) < (n : Int) := by omega
  have hne : ((b : Int) != (a : Int)) = true := by rw [bne_iff_ne]; omega
  have hne2 : ((b : Int) == (a : Int)) = false := by rw [beq_eq_false_iff_ne]; omega
  have IH := Lib.hid ih
  clear ih
  have HU := Lib.hid U
  have HP := Lib.hid P
  have HB := Lib.hid hb
  clear U P hb
  go_enter Try.func46, Try.ntmps46
  go_wp2_with fail
  refine start_ (n := 10) (S := fun w' => w'.cell? ⟨bp, 0, none⟩ = some (.slice (some ⟨g, 0, none⟩) n cap) ∧ w'.cell? ⟨bf, 0, none⟩ = some (.func (.func 46) #[] #[.pointer (some ⟨bp, 0, none⟩), .pointer (some ⟨bf, 0, none⟩)]) ∧ w'.cell? ⟨g, a, none⟩ = some (.int .i64 (b : Int))) (ds := [9]) #[false, false, false, false, false, false, false, false, false, false] (by kernel_rfl) rfl rfl ⟨hc1, hc3, hc2⟩ (fun hHeld => ?_)
  refine pure_ (i := 1) (N := some 12) (v := ?_) (a' := ?_) #[false, true, false, false, false, false, false, false, false, false] rfl rfl (by kernel_rfl) (fun _ _ _ h => h) (Or.inl ⟨by rfl, ?_⟩) ?_ ?_
  rotate_left
  · intro w'
    go_simp
    with_reducible rfl
  rotate_left
  · simp only [Act.put, List.setIfInBounds_toArray, List.set_cons_zero, List.set_cons_succ, i64_w, i32_w]
    rfl
  refine pure_ (i := 4) (N := some 15) (v := ?_) (a' := ?_) #[false, true, false, false, true, false, false, false, false, false] rfl rfl (by kernel_rfl) (fun _ _ _ h => h) (Or.inl ⟨by rfl, ?_⟩) ?_ ?_
  rotate_left
  · intro w'
    go_simp
    with_reducible rfl
  rotate_left
  · simp only [Act.put, List.setIfInBounds_toArray, List.set_cons_zero, List.set_cons_succ, i64_w, i32_w]
    rfl
  refine take_ (i := 0) (N := some 11) (v := ?_) (a' := ?_) #[true, true, false, false, true, false, false, false, false, false] rfl rfl (by kernel_rfl) (fun _ _ _ h => h) (Or.inl ⟨by rfl, ?_⟩) hHeld ?_ ?_
  rotate_left
  · rintro w' ⟨s0, s1, s2⟩
    go_simp
    with_reducible rfl
  rotate_left
  · simp only [Act.put, List.setIfInBounds_toArray, List.set_cons_zero, List.set_cons_succ, i64_w, i32_w]
    rfl
  refine take_ (i := 2) (N := some 13) (v := ?_) (a' := ?_) #[true, true, true, false, true, false, false, false, false, false] rfl rfl (by kernel_rfl) (fun _ _ _ h => h) (Or.inl ⟨by rfl, ?_⟩) hHeld ?_ ?_
  rotate_left
  · rintro w' ⟨s0, s1, s2⟩
    go_simp
    with_reducible rfl
  rotate_left
  · simp only [Act.put, List.setIfInBounds_toArray, List.set_cons_zero, List.set_cons_succ, i64_w, i32_w]
    rfl
  refine take_ (i := 3) (N := some 14) (v := ?_) (a' := ?_) #[true, true, true, true, true, false, false, false, false, false] rfl rfl (by kernel_rfl) (fun _ _ _ h => h) (Or.inl ⟨by rfl, ?_⟩) hHeld ?_ ?_
  rotate_left
  · rintro w' ⟨s0, s1, s2⟩
    go_simp
    with_reducible rfl
  rotate_left
  · simp only [Act.put, List.setIfInBounds_toArray, List.set_cons_zero, List.set_cons_succ, i64_w, i32_w]
    rfl
  refine pure_ (i := 5) (N := some 16) (v := ?_) (a' := ?_) #[true, true, true, true, true, true, false, false, false, false] rfl rfl (by kernel_rfl) (fun _ _ _ h => h) (Or.inl ⟨by rfl, ?_⟩) ?_ ?_
  rotate_left
  · intro w'
    go_simp
    with_reducible rfl
  rotate_left
  · simp only [Act.put, List.setIfInBounds_toArray, List.set_cons_zero, List.set_cons_succ, i64_w, i32_w]
    rfl
  refine take_ (i := 6) (N := some 17) (v := ?_) (a' := ?_) #[true, true, true, true, true, true, true, false, false, false] rfl rfl (by kernel_rfl) (fun _ _ _ h => h) (Or.inl ⟨by rfl, ?_⟩) hHeld ?_ ?_
  rotate_left
  · rintro w' ⟨s0, s1, s2⟩
    go_simp
    with_reducible rfl
  rotate_left
  · simp only [Act.put, List.setIfInBounds_toArray, List.set_cons_zero, List.set_cons_succ, i64_w, i32_w]
    rfl
  refine one_ (i := 7) (N := some 18) #[true, true, true, true, true, true, true, true, false, false] rfl rfl (by kernel_rfl) (by decide) (fun K hK => ?_)
  refine goesV #[.pointer (some ⟨bp, 0, none⟩), .pointer (some ⟨bf, 0, none⟩)] Try.func46 (by kernel_rfl) rfl #[.int .i64 (b : Int), .pointer (some ⟨bp, 0, none⟩), .pointer (some ⟨bf, 0, none⟩)] (by rfl) rfl rfl (by rfl) (by simp only [List.map_toArray, List.map_cons, List.map_nil, List.append_toArray, List.cons_append, List.nil_append]; rfl) ?_
  with_reducible refine (IH.out _ HU.out.drew).mono ?_
  rintro e w1 ⟨rfl, p1, P1, U1, hj1, hg1⟩
  refine ⟨_, rfl, ?_⟩
  have hk1 := cell_of_one U1.hp
  have hk3 := cell_of_one U1.hf
  have hk2 : w1.cell? ⟨g, a, none⟩ = some (.int .i64 (b : Int)) := (by rw [U1.at_ a ha, hj1 a hba, HB.out])
  have hfz := U1.own.frozenAt a
  have HU1 := Lib.hid U1; have HP1 := Lib.hid P1; have HJ1 := Lib.hid hj1; have HG1 := Lib.hid hg1; clear U1 P1 hj1 hg1
  refine hK.out _ _ ⟨hk1, hk3, hk2⟩ (fun hHeld => ?_)
  clear hK K
  refine norm_ (a' := ?_) ?_ ?_
  rotate_left
  · show Act.put _ (some 18) _ = _
    simp only [Act.put, List.setIfInBounds_toArray, List.set_cons_zero, List.set_cons_succ, i64_w, i32_w]
    rfl
  refine pure_ (i := 8) (N := some 19) (v := ?_) (a' := ?_) #[true, true, true, true, true, true, true, true, true, false] rfl rfl (by kernel_rfl) (fun _ _ _ h => h) (Or.inl ⟨by rfl, ?_⟩) ?_ ?_
  rotate_left
  · intro w'
    go_simp
    with_reducible rfl
  rotate_left
  · simp only [Act.put, List.setIfInBounds_toArray, List.set_cons_zero, List.set_cons_succ, i64_w, i32_w]
    rfl
  refine last_ (i := 9) (N := none) #[true, true, true, true, true, true, true, true, true, true] rfl rfl (by kernel_rfl) (by decide) (fun K hK => ?_)
  refine skip_ (w1 := ?_) (by rfl) rfl ?_ ?_
  rotate_left
  · go_simp
    rfl
  refine hK.out _ _ ?_
  clear hK K
  refine done_ (by kernel_rfl) ?_

  have hs := HU1.out.set_ a (rt.getD b 0)
  have hs1 := cell_of_one hs.hp
  have hs2 := hs.at_ a ha
  have hl1 := HU1.out.len
  rw [getD_set, if_pos ⟨rfl, by omega⟩] at hs2
  have HS := Lib.hid hs
  have HL := Lib.hid hl1
  clear hs hl1
  go_wp2
  go_ret
  have hl := HU.out.len
  have er : rt.getD a 0 = rt.getD b 0 := by
    have := HP.out.up a (by omega) (by rw [HB.out]; omega)
    rw [this, HB.out, Int.toNat_natCast]
  refine ⟨ret_int er.symm, p1.set a (rt.getD b 0), ?_, HS.out, fun j hj => ?_, ?_⟩
  · have := HP1.out.short a (by rw [HL.out]; exact ha)
    rw [er] at this
    exact this
  · rw [getD_set, if_neg (by omega)]; exact HJ1.out j (by omega)
  · exact (grown_drew HG1.out).trans (grown_set _ _ _ _)

/-- The closure find, at every entry. -/
theorem find_any (rt : List Int) (base bp bf g n cap : Nat) : ∀ m a : Nat, a < m → ∀ (w : World) (p : List Int), Par p rt → Ufw base w bp bf g n cap p → a < n →
    Calls Try.prog 46 #[.int .i64 (a : Int), .pointer (some ⟨bp, 0, none⟩), .pointer (some ⟨bf, 0, none⟩)] w (FindPost p rt base w bp bf g n cap a) := by
  intro m
  induction m with
  | zero => intro a h; omega
  | succ m ih =>
    intro a ham w p P U ha
    have hl := U.len
    have h0 := P.lo a (by omega)
    have h1 := P.hi a (by omega)
    by_cases e : p.getD a 0 = a
    · exact at_self rt base w bp bf g n cap a p P U ha e
    · exact at_other rt base w bp bf g n cap a (p.getD a 0).toNat p P U ha (by omega) (by omega) (fun w1 U1 => ih _ (by omega) w1 p P U1 (by omega))
end Go.Proofs.Ytahibhipffojlaa.Find
/- components.joined returns the blob that two parts make together. -/

set_option linter.unusedSimpArgs false
set_option linter.unusedVariables false
namespace Go.Proofs.Ytahibhipffojlaa.Join
open Go.RowKit Go.Proofs.YtahibhipffojlaaW.PrintLast Go.Proofs.YtahibhipffojlaaW.PrintWords Go.Proofs.YtahibhipffojlaaW.PrintMore Go.Proofs.Ytahibhipffojlaa.Walk Go.Proofs.Ytahibhipffojlaa.M

theorem max2_mx (k k' : IntKind) (x y : Int) : Builtin.max2 (.int k x) (.int k' y) = pure (.int k (mx x y)) := max2_int k k' x y
theorem min2_mn (k k' : IntKind) (x y : Int) : Builtin.min2 (.int k x) (.int k' y) = pure (.int k (mn x y)) := min2_int k k' x y
attribute [local go_sem high] max2_mx min2_mn max_two min_two
theorem mx_b {x y l u : Int} (h : l ≤ x ∧ x ≤ u) (k : l ≤ y ∧ y ≤ u) : l ≤ mx x y ∧ mx x y ≤ u := by unfold mx; split <;> omega
theorem mn_b {x y l u : Int} (h : l ≤ x ∧ x ≤ u) (k : l ≤ y ∧ y ≤ u) : l ≤ mn x y ∧ mn x y ≤ u := by unfold mn; split <;> omega

def bcells (b : S38) : Array Value := #[.int .i64 b.f0.f0, .int .i64 b.f0.f1, .int .i64 b.f0.f2, .int .i64 b.f0.f3, .int .i64 b.f1, .int .i64 b.f2.f0, .int .i64 b.f2.f1]

theorem three_new (w : World) (c1 c2 c3 : Array Value) (t : TypeId) (n : Nat) : ((((w.alloc (.cells c1 t)).alloc (.cells c2 t)).alloc (.cells c3 t)).drewN n).heap[w.heap.size]? = some (.cells c1 t (0, 0)) ∧
    ((((w.alloc (.cells c1 t)).alloc (.cells c2 t)).alloc (.cells c3 t)).drewN n).heap[w.heap.size + 1]? = some (.cells c2 t (0, 0)) ∧ ((((w.alloc (.cells c1 t)).alloc (.cells c2 t)).alloc (.cells c3 t)).drewN n).heap[w.heap.size + 1 + 1]? = some (.cells c3 t (0, 0)) ∧
    Below w.heap.size w ((((w.alloc (.cells c1 t)).alloc (.cells c2 t)).alloc (.cells c3 t)).drewN n) := by
  have s1 : (w.alloc (.cells c1 t)).heap.size = w.heap.size + 1 := by simp
  have s2 : ((w.alloc (.cells c1 t)).alloc (.cells c2 t)).heap.size = w.heap.size + 1 + 1 := by simp
  refine ⟨?_, ?_, ?_, ?_⟩
  · exact (Below.heap_alloc _ _ _ (by omega)).trans ((Below.heap_alloc _ _ _ (by omega)).trans (heap_alloc_new w _))
  · have := heap_alloc_new (w.alloc (.cells c1 t)) (.cells c2 t)
    rw [s1] at this
    exact (Below.heap_alloc _ _ _ (by omega)).trans this
  · have := heap_alloc_new ((w.alloc (.cells c1 t)).alloc (.cells c2 t)) (.cells c3 t)
    rw [s2] at this
    exact this
  · exact pw_below_drewN (((Below.refl _ w).alloc (Nat.le_refl _) _).alloc (by omega) _ |>.alloc (by omega) _) n

set_option maxRecDepth 100000 in
set_option maxHeartbeats 2000000 in
theorem joined_raw (x0 x1 x2 x3 x4 x5 x6 y0 y1 y2 y3 y4 y5 y6 : Int) (w : World) (h0 : 0 ≤ x0 ∧ x0 ≤ 1000000) (h1 : 0 ≤ x1 ∧ x1 ≤ 1000000) (h2 : 0 ≤ x2 ∧ x2 ≤ 1000000) (h3 : 0 ≤ x3 ∧ x3 ≤ 1000000) (h4 : 0 ≤ x4 ∧ x4 ≤ 100000000)
    (k0 : 0 ≤ y0 ∧ y0 ≤ 1000000) (k1 : 0 ≤ y1 ∧ y1 ≤ 1000000) (k2 : 0 ≤ y2 ∧ y2 ≤ 1000000) (k3 : 0 ≤ y3 ∧ y3 ≤ 1000000) (k4 : 0 ≤ y4 ∧ y4 ≤ 100000000) :
    Calls Try.prog 48 #[.agg #[.int .i64 x0, .int .i64 x1, .int .i64 x2, .int .i64 x3, .int .i64 x4, .int .i64 x5, .int .i64 x6], .agg #[.int .i64 y0, .int .i64 y1, .int .i64 y2, .int .i64 y3, .int .i64 y4, .int .i64 y5, .int .i64 y6]] w
      fun e w' => e = .returned (.agg #[.int .i64 (mn x0 y0), .int .i64 (mn x1 y1), .int .i64 (mx (x0 + x2) (y0 + y2) - mn x0 y0), .int .i64 (mx (x1 + x3) (y1 + y3) - mn x1 y1), .int .i64 (x4 + y4), .int .i64 x5, .int .i64 x6]) ∧ Below w.heap.size w w' := by
  have b0 := mn_b h0 k0
  have b1 := mn_b h1 k1
  have b2 := mx_b (x := x0 + x2) (y := y0 + y2) (l := 0) (u := 2000000) (by omega) (by omega)
  have b3 := mx_b (x := x1 + x3) (y := y1 + y3) (l := 0) (u := 2000000) (by omega) (by omega)
  go_enter Try.func48, Try.ntmps48
  go_wp2_with fail
  go_quiet (fail)
  obtain ⟨X, Y, Z, B⟩ := three_new w #[.int .i64 x0, .int .i64 x1, .int .i64 x2, .int .i64 x3, .int .i64 x4, .int .i64 x5, .int .i64 x6] #[.int .i64 y0, .int .i64 y1, .int .i64 y2, .int .i64 y3, .int .i64 y4, .int .i64 y5, .int .i64 y6] #[.int .i64 0, .int .i64 0, .int .i64 0, .int .i64 0, .int .i64 0, .int .i64 0, .int .i64 0] 38 nq
  generalize (((w.alloc (.cells #[.int .i64 x0, .int .i64 x1, .int .i64 x2, .int .i64 x3, .int .i64 x4, .int .i64 x5, .int .i64 x6] 38)).alloc (.cells #[.int .i64 y0, .int .i64 y1, .int .i64 y2, .int .i64 y3, .int .i64 y4, .int .i64 y5, .int .i64 y6] 38)).alloc (.cells #[.int .i64 0, .int .i64 0, .int .i64 0, .int .i64 0, .int .i64 0, .int .i64 0, .int .i64 0] 38)).drewN nq = W at X Y Z B ⊢
  have hx0 : W.cell? ⟨w.heap.size, 0, none⟩ = some (.int .i64 x0) := (blk_cell X 0).trans rfl
  have hx1 : W.cell? ⟨w.heap.size, 1, none⟩ = some (.int .i64 x1) := (blk_cell X 1).trans rfl
  have hx2 : W.cell? ⟨w.heap.size, 2, none⟩ = some (.int .i64 x2) := (blk_cell X 2).trans rfl
  have hx3 : W.cell? ⟨w.heap.size, 3, none⟩ = some (.int .i64 x3) := (blk_cell X 3).trans rfl
  have hx4 : W.cell? ⟨w.heap.size, 4, none⟩ = some (.int .i64 x4) := (blk_cell X 4).trans rfl
  have hx5 : W.cell? ⟨w.heap.size, 5, none⟩ = some (.int .i64 x5) := (blk_cell X 5).trans rfl
  have hx6 : W.cell? ⟨w.heap.size, 6, none⟩ = some (.int .i64 x6) := (blk_cell X 6).trans rfl
  have fx0 := blk_frozen X 0
  have fx1 := blk_frozen X 1
  have fx2 := blk_frozen X 2
  have fx3 := blk_frozen X 3
  have fx4 := blk_frozen X 4
  have hy0 : W.cell? ⟨w.heap.size + 1, 0, none⟩ = some (.int .i64 y0) := (blk_cell Y 0).trans rfl
  have hy1 : W.cell? ⟨w.heap.size + 1, 1, none⟩ = some (.int .i64 y1) := (blk_cell Y 1).trans rfl
  have hy4 : W.cell? ⟨w.heap.size + 1, 4, none⟩ = some (.int .i64 y4) := (blk_cell Y 4).trans rfl
  have hz0 : W.cell? ⟨w.heap.size + 1 + 1, 0, none⟩ = some (.int .i64 0) := (blk_cell Z 0).trans rfl
  have hz1 : W.cell? ⟨w.heap.size + 1 + 1, 1, none⟩ = some (.int .i64 0) := (blk_cell Z 1).trans rfl
  have hz2 : W.cell? ⟨w.heap.size + 1 + 1, 2, none⟩ = some (.int .i64 0) := (blk_cell Z 2).trans rfl
  have hz3 : W.cell? ⟨w.heap.size + 1 + 1, 3, none⟩ = some (.int .i64 0) := (blk_cell Z 3).trans rfl
  have hz4 : W.cell? ⟨w.heap.size + 1 + 1, 4, none⟩ = some (.int .i64 0) := (blk_cell Z 4).trans rfl
  have hz5 : W.cell? ⟨w.heap.size + 1 + 1, 5, none⟩ = some (.int .i64 0) := (blk_cell Z 5).trans rfl
  have hz6 : W.cell? ⟨w.heap.size + 1 + 1, 6, none⟩ = some (.int .i64 0) := (blk_cell Z 6).trans rfl
  have fz0 := blk_frozen Z 0
  have fz1 := blk_frozen Z 1
  have fz2 := blk_frozen Z 2
  have fz3 := blk_frozen Z 3
  have fz4 := blk_frozen Z 4
  have fz5 := blk_frozen Z 5
  have fz6 := blk_frozen Z 6
  have HX := Lib.hid X
  have HY := Lib.hid Y
  have HZ := Lib.hid Z
  have HBW := Lib.hid B
  clear X Y Z B
  go_wp2_with fail
  go_region
  go_wp2
  refine bodyPost_ret (v := .agg #[.int .i64 (mn x0 y0), .int .i64 (mn x1 y1), .int .i64 (mx (x0 + x2) (y0 + y2) - mn x0 y0), .int .i64 (mx (x1 + x3) (y1 + y3) - mn x1 y1), .int .i64 (x4 + y4), .int .i64 x5, .int .i64 x6]) ?_ rfl ⟨rfl, ?_⟩
  · simp [results, Try.results48, go_sem, hz0, hz1, hz2, hz3, hz4, hz5, hz6]
  · have hB := HBW.out
    refine below_drew ?_
    repeat (refine Below.setCell ?_ (by dsimp only; omega) _)
    exact hB
end Go.Proofs.Ytahibhipffojlaa.Join
/- components.neighbours returns the labels of the neighbours that come before a pixel. -/
set_option linter.unusedSimpArgs false
set_option linter.unusedVariables false
namespace Go.Proofs.Ytahibhipffojlaa.Nb
open Go.RowKit Go.Proofs.YtahibhipffojlaaW.PrintLast Go.Proofs.YtahibhipffojlaaW.PrintWords Go.Proofs.YtahibhipffojlaaW.PrintMore Go.Proofs.Ytahibhipffojlaa.Walk Go.Proofs.Ytahibhipffojlaa.M

/-- what the closure add makes of a list -/
def addF (ls : List Int) (is : Bool) (at_ : Int) (xs : List Int) : List Int := if is = true ∧ 0 ≤ at_ ∧ 0 ≤ rd ls at_ then xs ++ [rd ls at_] else xs

structure Nbw (base : Nat) (w0 w : World) (bl bo gl n cl : Nat) (vo : Value) (xs : List Int) : Prop where
  B : Below base w0 w
  size : base ≤ w.heap.size
  hl : w.heap[bl]? = some (.cells #[.slice (some ⟨gl, 0, none⟩) n cl] 27 (0, 0))
  ho : w.heap[bo]? = some (.cells #[vo] 27 (0, 0))
  own : Kd.R (Kd.int .i64) 3 w base (fun _ => True) vo xs
  bb : base ≤ bo
  ne : bl ≠ bo

section
variable {base : Nat} {w0 w : World} {bl bo gl n cl : Nat} {vo : Value} {xs : List Int}
def AddPost (base : Nat) (w0 : World) (bl bo gl n cl : Nat) (ys : List Int) (e : Ending) (w' : World) : Prop := e = .returned (.tuple #[]) ∧ ∃ v', Nbw base w0 w' bl bo gl n cl v' ys

theorem Nbw.drew (U : Nbw base w0 w bl bo gl n cl vo xs) : Nbw base w0 w.drew bl bo gl n cl vo xs := ⟨below_drew U.B, U.size, U.hl, U.ho, U.own, U.bb, U.ne⟩

theorem add_off (is : Bool) (at_ : Int) (h : is = false ∨ at_ < 0) (U : Nbw base w0 w bl bo gl n cl vo xs) :
    Calls Try.prog 53 #[.bool is, .int .i64 at_, .pointer (some ⟨bl, 0, none⟩), .pointer (some ⟨bo, 0, none⟩)] w (AddPost base w0 bl bo gl n cl xs) := by
  cases is with
  | false =>
    go_enter Try.func53, Try.ntmps53
    go_wp2
    go_end0
    exact ⟨rfl, vo, U⟩
  | true =>
    have h1 : at_ < 0 := h.resolve_left (by simp)
    have h2 : decide (0 ≤ at_) = false := decide_eq_false (by omega)
    go_enter Try.func53, Try.ntmps53
    go_wp2
    go_end0
    exact ⟨rfl, vo, U⟩

theorem add_light (at_ : Nat) (v : Int) (ha : at_ < n) (hc : w.cell? ⟨gl, at_, none⟩ = some (.int .i64 v)) (hv : v < 0) (U : Nbw base w0 w bl bo gl n cl vo xs) :
    Calls Try.prog 53 #[.bool true, .int .i64 (at_ : Int), .pointer (some ⟨bl, 0, none⟩), .pointer (some ⟨bo, 0, none⟩)] w (AddPost base w0 bl bo gl n cl xs) := by
  have hc1 : w.cell? ⟨bl, 0, none⟩ = some (.slice (some ⟨gl, 0, none⟩) n cl) := (blk_cell U.hl 0).trans rfl
  have hi0 : (0 : Int) ≤ (at_ : Int) := Int.natCast_nonneg _
  have hi1 : (at_ : Int) < (n : Int) := by omega
  have h2 : decide (0 ≤ v) = false := decide_eq_false (by omega)
  go_enter Try.func53, Try.ntmps53
  go_wp2
  go_end0
  exact ⟨rfl, vo, U⟩

set_option maxRecDepth 100000 in
set_option maxHeartbeats 1000000 in
theorem add_dark (at_ : Nat) (v : Int) (ha : at_ < n) (hc3 : w.cell? ⟨gl, at_, none⟩ = some (.int .i64 v)) (hg : gl < base) (hv : 0 ≤ v) (hn : (xs.length + 1) * 8 ≤ 140737488355328) (U : Nbw base w0 w bl bo gl n cl vo xs) :
    Calls Try.prog 53 #[.bool true, .int .i64 (at_ : Int), .pointer (some ⟨bl, 0, none⟩), .pointer (some ⟨bo, 0, none⟩)] w (AddPost base w0 bl bo gl n cl (xs ++ [v])) := by
  have hc1 : w.cell? ⟨bl, 0, none⟩ = some (.slice (some ⟨gl, 0, none⟩) n cl) := (blk_cell U.hl 0).trans rfl
  have hc2 : w.cell? ⟨bo, 0, none⟩ = some vo := (blk_cell U.ho 0).trans rfl
  have hi0 : (0 : Int) ≤ (at_ : Int) := Int.natCast_nonneg _
  have hi1 : (at_ : Int) < (n : Int) := by omega
  have h2 : decide (0 ≤ v) = true := decide_eq_true (by omega)
  have HB := Lib.hid U.B
  have HS := Lib.hid U.size
  have HL := Lib.hid U.hl
  have HO := Lib.hid U.ho
  have HR := Lib.hid U.own
  have HN := Lib.hid hn
  have HG := Lib.hid (World.block_lt_of_cell? w _ hc3)
  have HW := Lib.hid (HB.out.cell (p := ⟨gl, at_, none⟩) hg)
  have HBB := Lib.hid U.bb
  have hg0 := Lib.hid hg
  clear hg
  have HNE := Lib.hid U.ne
  clear U hn
  go_enter Try.func53, Try.ntmps53
  go_wp2_with fail
  refine start_ (n := 8) (S := fun w' => w'.cell? ⟨bo, 0, none⟩ = some vo ∧ w'.cell? ⟨bl, 0, none⟩ = some (.slice (some ⟨gl, 0, none⟩) n cl) ∧ w'.cell? ⟨gl, at_, none⟩ = some (.int .i64 v)) (ds := [7]) #[false, false, false, false, false, false, false, false] (by kernel_rfl) rfl rfl ⟨hc2, hc1, hc3⟩ (fun hHeld => ?_)
  refine pure_ (i := 2) (N := some 20) (v := ?_) (a' := ?_) #[false, false, true, false, false, false, false, false] rfl rfl (by kernel_rfl) (fun _ _ _ h => h) (Or.inl ⟨by rfl, ?_⟩) ?_ ?_
  rotate_left
  · intro w'
    go_simp
    with_reducible rfl
  rotate_left
  · simp only [Act.put, List.setIfInBounds_toArray, List.set_cons_zero, List.set_cons_succ, i64_w, i32_w]
    rfl
  refine take_ (i := 0) (N := some 18) (v := ?_) (a' := ?_) #[true, false, true, false, false, false, false, false] rfl rfl (by kernel_rfl) (fun _ _ _ h => h) (Or.inl ⟨by rfl, ?_⟩) hHeld ?_ ?_
  rotate_left
  · rintro w' ⟨s0, s1, s2⟩
    go_simp
    with_reducible rfl
  rotate_left
  · simp only [Act.put, List.setIfInBounds_toArray, List.set_cons_zero, List.set_cons_succ, i64_w, i32_w]
    rfl
  refine take_ (i := 1) (N := some 19) (v := ?_) (a' := ?_) #[true, true, true, false, false, false, false, false] rfl rfl (by kernel_rfl) (fun _ _ _ h => h) (Or.inl ⟨by rfl, ?_⟩) hHeld ?_ ?_
  rotate_left
  · rintro w' ⟨s0, s1, s2⟩
    go_simp
    with_reducible rfl
  rotate_left
  · simp only [Act.put, List.setIfInBounds_toArray, List.set_cons_zero, List.set_cons_succ, i64_w, i32_w]
    rfl
  refine pure_ (i := 3) (N := some 21) (v := ?_) (a' := ?_) #[true, true, true, true, false, false, false, false] rfl rfl (by kernel_rfl) (fun _ _ _ h => h) (Or.inl ⟨by rfl, ?_⟩) ?_ ?_
  rotate_left
  · intro w'
    go_simp
    with_reducible rfl
  rotate_left
  · simp only [Act.put, List.setIfInBounds_toArray, List.set_cons_zero, List.set_cons_succ, i64_w, i32_w]
    rfl
  refine take_ (i := 4) (N := some 22) (v := ?_) (a' := ?_) #[true, true, true, true, true, false, false, false] rfl rfl (by kernel_rfl) (fun _ _ _ h => h) (Or.inl ⟨by rfl, ?_⟩) hHeld ?_ ?_
  rotate_left
  · rintro w' ⟨s0, s1, s2⟩
    go_simp
    with_reducible rfl
  rotate_left
  · simp only [Act.put, List.setIfInBounds_toArray, List.set_cons_zero, List.set_cons_succ, i64_w, i32_w]
    rfl
  refine one_ (i := 5) (N := some 23) #[true, true, true, true, true, true, false, false] rfl rfl (by kernel_rfl) (by decide) (fun K hK => ?_)
  refine value_ (w1 := ?_) (v := ?_) (by rfl) rfl ?_ ?_
  rotate_left 2
  · go_simp
    constructor
    · rfl
    · rfl
  refine hK.out _ _ ⟨(blk_cell (blk_alloc (blk_drew HO.out) _) 0).trans rfl, (blk_cell (blk_alloc (blk_drew HL.out) _) 0).trans rfl, (World.cell?_alloc_lt _ _ _ HG.out).trans hc3⟩ (fun hHeld => ?_)
  clear hK K
  refine norm_ (a' := ?_) ?_ ?_
  rotate_left
  · show Act.put _ (some 23) _ = _
    simp only [Act.put, List.setIfInBounds_toArray, List.set_cons_zero, List.set_cons_succ, i64_w, i32_w]
    rfl
  refine one_ (i := 6) (N := some 24) #[true, true, true, true, true, true, true, false] rfl rfl (by kernel_rfl) (by decide) (fun K hK => ?_)
  refine Kd.R_append_step (Kd.int .i64) (w0 := w0) (W := w.drew) base (by rfl) (.tmp 18) (.tmp 23) 27 3 (.int .i64 0) 8 rfl Try.underlying27 info3 rfl (by decide) (by omega) vo xs v [.int .i64 v] (fun _ => True) (fun _ => False) rfl rfl ?aP (fun _ hk => hk.elim) ?aF ?aO ?aB ?aS ?aL ?_
  (case aP => exact rfl)
  (case aF => exact (fun _ _ => trivial))
  (case aO => exact HR.out)
  (case aB => exact below_drew HB.out)
  (case aS => exact HS.out)
  (case aL => exact HN.out)
  intro v1 w1 ho hb hg hat
  obtain ⟨A1, c1, e1⟩ := Kd.R_slice ho
  subst e1
  have n1 := Lib.hid (blk_grown (blk_drew HO.out) hg (Kd.R_ne HR.out HO.out (by decide)))
  have n2 := Lib.hid (blk_grown (blk_drew HL.out) hg (Kd.R_ne HR.out HL.out (by decide)))
  have hfz := blk_frozen n1.out 0
  have hc4 := (blk_cell n1.out 0).trans rfl
  have hv1 := Lib.hid ho
  have hb1 := Lib.hid hb
  have hsz := Lib.hid hg.size
  clear ho hb hg hat
  refine hK.out _ _ ⟨hc4, (blk_cell n2.out 0).trans rfl, (hb1.out.cell (p := ⟨gl, at_, none⟩) hg0.out).trans (HW.out.symm.trans hc3)⟩ (fun hHeld => ?_)
  clear hK K
  refine norm_ (a' := ?_) ?_ ?_
  rotate_left
  · show Act.put _ (some 24) _ = _
    simp only [Act.put, List.setIfInBounds_toArray, List.set_cons_zero, List.set_cons_succ, i64_w, i32_w]
    rfl
  refine last_ (i := 7) (N := none) #[true, true, true, true, true, true, true, true] rfl rfl (by kernel_rfl) (by decide) (fun K hK => ?_)
  refine skip_ (w1 := ?_) (by rfl) rfl ?_ ?_
  rotate_left
  · go_simp
    rfl
  refine hK.out _ _ ?_
  clear hK K
  refine done_ (by kernel_rfl) ?_

  go_wp2
  go_end0
  have hv2 : Kd.R (Kd.int .i64) 3 w1 base (fun _ => True) (.slice A1 (xs.length + 1) c1) (xs ++ [v]) := by
    have h := hv1.out
    rw [List.length_append, List.length_singleton] at h
    exact h
  refine ⟨rfl, .slice A1 (xs.length + 1) c1, ⟨?_, ?_, ?_, ?_, ?_, HBB.out, HNE.out⟩⟩
  · exact Below.setCell hb1.out HBB.out _
  · have h1 := hsz.out
    have h2 := HS.out
    simp [World.setCell] at h1 ⊢
    omega
  · exact blk_far n2.out HNE.out _
  · exact (blk_set n1.out 0 _).trans rfl
  · exact Kd.R_mono (Kd.R_far (p := ⟨bo, 0, none⟩) (Kd.R_types hv2 n1.out (by decide)) (fun _ hk => hk.2) _) (fun _ hk => hk.1)

/-- The closure add. -/
theorem add_any (ls : List Int) (is : Bool) (at_ : Int) (hlen : ls.length = n) (ha : is = true → at_ < n) (hcells : ∀ j : Nat, j < n → w0.cell? ⟨gl, j, none⟩ = some (.int .i64 (ls.getD j 0))) (hg : gl < base) (hn : xs.length ≤ 10) (U : Nbw base w0 w bl bo gl n cl vo xs) :
    Calls Try.prog 53 #[.bool is, .int .i64 at_, .pointer (some ⟨bl, 0, none⟩), .pointer (some ⟨bo, 0, none⟩)] w (AddPost base w0 bl bo gl n cl (addF ls is at_ xs)) := by
  by_cases h : is = false ∨ at_ < 0
  · have e : addF ls is at_ xs = xs := by
      unfold addF
      rw [if_neg]
      rintro ⟨h1, h2, _⟩
      rcases h with h | h
      · rw [h] at h1; cases h1
      · omega
    rw [e]
    exact add_off is at_ h U
  · have h1 : is = true := by cases is with | true => rfl | false => exact absurd (.inl rfl) h
    have h2 : 0 ≤ at_ := by omega
    subst h1
    have h3 := ha rfl
    obtain ⟨a, rfl⟩ := Int.eq_ofNat_of_zero_le h2
    have hc : w.cell? ⟨gl, a, none⟩ = some (.int .i64 (ls.getD a 0)) := (U.B.cell (p := ⟨gl, a, none⟩) hg).trans (hcells a (by omega))
    have hr : rd ls (a : Int) = ls.getD a 0 := by unfold rd; rw [Int.toNat_natCast]
    by_cases h4 : 0 ≤ ls.getD a 0
    · have e : addF ls true a xs = xs ++ [ls.getD a 0] := by unfold addF; rw [hr, if_pos ⟨rfl, h2, h4⟩]
      rw [e]
      exact add_dark a _ (by omega) hc hg h4 (by omega) U
    · have e : addF ls true a xs = xs := by unfold addF; rw [hr, if_neg (fun h => h4 h.2.2)]
      rw [e]
      exact add_light a _ (by omega) hc (by omega) U
end

/-- the labels of the neighbours of pixel i that come before it -/
def nbF (ls : List Int) (ww i : Int) (eight : Bool) : List Int :=
  let xs := addF ls true (i - ww) (addF ls (decide (0 < i % ww)) (i - 1) [])
  if eight = true then addF ls (decide (i % ww + 1 < ww)) (i - ww + 1) (addF ls (decide (0 < i % ww)) (i - ww - 1) xs) else xs
theorem addF_len (ls : List Int) (is : Bool) (at_ : Int) (xs : List Int) : (addF ls is at_ xs).length ≤ xs.length + 1 := by
  unfold addF; split <;> simp
theorem nb_start (w : World) (gl n cl : Nat) : Nbw w.heap.size w ((w.alloc (.cells #[.slice (some ⟨gl, 0, none⟩) n cl] 27)).alloc (.cells #[.slice none 0 0] 27)) w.heap.size (w.heap.size + 1) gl n cl (.slice none 0 0) [] := by
  have s1 : (w.alloc (.cells #[.slice (some ⟨gl, 0, none⟩) n cl] 27)).heap.size = w.heap.size + 1 := by simp
  refine ⟨((Below.refl _ w).alloc (Nat.le_refl _) _).alloc (by omega) _, by simp; omega, ?_, ?_, Kd.R_nil _ _ _ _ _, by omega, by omega⟩
  · exact (Below.heap_alloc _ _ _ (by omega)).trans (heap_alloc_new w _)
  · have := heap_alloc_new (w.alloc (.cells #[.slice (some ⟨gl, 0, none⟩) n cl] 27)) (.cells #[.slice none 0 0] 27)
    rw [s1] at this
    exact this

set_option maxRecDepth 100000 in
set_option maxHeartbeats 2000000 in
theorem nb_any (ls : List Int) (ww i : Int) (eight : Bool) (w : World) (gl n cl : Nat) (hlen0 : ls.length = n) (hcells0 : ∀ j : Nat, j < n → w.cell? ⟨gl, j, none⟩ = some (.int .i64 (ls.getD j 0))) (hn0 : 0 < n) (hw1 : 1 ≤ ww) (hw2 : ww ≤ 1000000) (hi0 : 0 ≤ i) (hi1 : i < n) (hn : n ≤ 100000000) :
    Calls Try.prog 49 #[.slice (some ⟨gl, 0, none⟩) n cl, .int .i64 ww, .int .i64 i, .bool eight] w fun e w' => ∃ v', e = .returned v' ∧ Kd.R (Kd.int .i64) 3 w' w.heap.size (fun _ => True) v' (nbF ls ww i eight) ∧ Below w.heap.size w w' := by
  have hlen : ls.length = n := hlen0
  have hcells := Lib.hid hcells0
  have hg := Lib.hid (World.block_lt_of_cell? w _ (hcells0 0 hn0))
  have U0 := Lib.hid (nb_start w gl n cl)
  have hx0 : Hid (([] : List Int).length ≤ 0) := Lib.hid (Nat.le_refl 0)
  have hr0 : 0 ≤ i % ww := Int.emod_nonneg _ (by omega)
  have hr1 : i % ww < ww := Int.emod_lt_of_pos _ (by omega)
  clear hcells0
  cases eight with
  | true =>
    go_enter Try.func49, Try.ntmps49
    go_wp2_with fail
    refine (add_any ls (decide (0 < i % ww)) (i - 1) hlen ?_ hcells.out hg.out ?_ U0.out).mono ?_
    · intro _; omega
    · exact Nat.le_trans hx0.out (by decide)
    rintro e w1 ⟨rfl, v1, V1⟩
    have U1 := Lib.hid V1
    have hx1 := Lib.hid (Nat.le_trans (addF_len ls (decide (0 < i % ww)) (i - 1) _) (Nat.succ_le_succ hx0.out))
    have hb1 : w1.cell? ⟨w.heap.size + 1, 0, none⟩ = some v1 := (blk_cell V1.ho 0).trans rfl
    clear V1
    go_wp2_with fail
    refine (add_any ls (true) (i - ww) hlen ?_ hcells.out hg.out ?_ U1.out).mono ?_
    · intro _; omega
    · exact Nat.le_trans hx1.out (by decide)
    rintro e w2 ⟨rfl, v2, V2⟩
    have U2 := Lib.hid V2
    have hx2 := Lib.hid (Nat.le_trans (addF_len ls (true) (i - ww) _) (Nat.succ_le_succ hx1.out))
    have hb2 : w2.cell? ⟨w.heap.size + 1, 0, none⟩ = some v2 := (blk_cell V2.ho 0).trans rfl
    clear V2
    go_wp2_with fail
    refine (add_any ls (decide (0 < i % ww)) (i - ww - 1) hlen ?_ hcells.out hg.out ?_ U2.out).mono ?_
    · intro _; omega
    · exact Nat.le_trans hx2.out (by decide)
    rintro e w3 ⟨rfl, v3, V3⟩
    have U3 := Lib.hid V3
    have hx3 := Lib.hid (Nat.le_trans (addF_len ls (decide (0 < i % ww)) (i - ww - 1) _) (Nat.succ_le_succ hx2.out))
    have hb3 : w3.cell? ⟨w.heap.size + 1, 0, none⟩ = some v3 := (blk_cell V3.ho 0).trans rfl
    clear V3
    go_wp2_with fail
    refine (add_any ls (decide (i % ww + 1 < ww)) (i - ww + 1) hlen ?_ hcells.out hg.out ?_ U3.out).mono ?_
    · intro _; omega
    · exact Nat.le_trans hx3.out (by decide)
    rintro e w4 ⟨rfl, v4, V4⟩
    have U4 := Lib.hid V4
    have hx4 := Lib.hid (Nat.le_trans (addF_len ls (decide (i % ww + 1 < ww)) (i - ww + 1) _) (Nat.succ_le_succ hx3.out))
    have hb4 : w4.cell? ⟨w.heap.size + 1, 0, none⟩ = some v4 := (blk_cell V4.ho 0).trans rfl
    clear V4
    go_wp2
    go_ret
    exact ⟨v4, rfl, U4.out.own, U4.out.B⟩
  | false =>
    go_enter Try.func49, Try.ntmps49
    go_wp2_with fail
    refine (add_any ls (decide (0 < i % ww)) (i - 1) hlen ?_ hcells.out hg.out ?_ U0.out).mono ?_
    · intro _; omega
    · exact Nat.le_trans hx0.out (by decide)
    rintro e w1 ⟨rfl, v1, V1⟩
    have U1 := Lib.hid V1
    have hx1 := Lib.hid (Nat.le_trans (addF_len ls (decide (0 < i % ww)) (i - 1) _) (Nat.succ_le_succ hx0.out))
    have hb1 : w1.cell? ⟨w.heap.size + 1, 0, none⟩ = some v1 := (blk_cell V1.ho 0).trans rfl
    clear V1
    go_wp2_with fail
    refine (add_any ls (true) (i - ww) hlen ?_ hcells.out hg.out ?_ U1.out).mono ?_
    · intro _; omega
    · exact Nat.le_trans hx1.out (by decide)
    rintro e w2 ⟨rfl, v2, V2⟩
    have U2 := Lib.hid V2
    have hx2 := Lib.hid (Nat.le_trans (addF_len ls (true) (i - ww) _) (Nat.succ_le_succ hx1.out))
    have hb2 : w2.cell? ⟨w.heap.size + 1, 0, none⟩ = some v2 := (blk_cell V2.ho 0).trans rfl
    clear V2
    go_wp2
    go_ret
    exact ⟨v2, rfl, U2.out.own, U2.out.B⟩
end Go.Proofs.Ytahibhipffojlaa.Nb
/- A map from numbers to blobs, told as a list of what each number has. -/
set_option linter.unusedSimpArgs false
set_option linter.unusedVariables false
namespace Go.Proofs.Ytahibhipffojlaa.Map
open Go.RowKit Go.Maps Go.Proofs.Ytahibhipffojlaa.M Go.Proofs.Ytahibhipffojlaa.Join

abbrev D1 : Type := DataW Unit
def bval (b : S38) : Value := .agg (bcells b)
def encB (b : S38) : D1 := .agg [.lit (.int .i64 b.f0.f0), .lit (.int .i64 b.f0.f1), .lit (.int .i64 b.f0.f2), .lit (.int .i64 b.f0.f3), .lit (.int .i64 b.f1), .lit (.int .i64 b.f2.f0), .lit (.int .i64 b.f2.f1)]
open Classical in
noncomputable def blobR (v : Value) : Option (D1 × List MemPlace) := if h : ∃ b, v = bval b then some (encB (Classical.choose h), []) else none
theorem S38_ext {a b : S38} (h0 : a.f0.f0 = b.f0.f0) (h1 : a.f0.f1 = b.f0.f1) (h2 : a.f0.f2 = b.f0.f2) (h3 : a.f0.f3 = b.f0.f3) (h4 : a.f1 = b.f1) (h5 : a.f2.f0 = b.f2.f0) (h6 : a.f2.f1 = b.f2.f1) : a = b := by
  obtain ⟨⟨a0, a1, a2, a3⟩, a4, ⟨a5, a6⟩⟩ := a
  obtain ⟨⟨b0, b1, b2, b3⟩, b4, ⟨b5, b6⟩⟩ := b
  simp only at h0 h1 h2 h3 h4 h5 h6
  subst h0; subst h1; subst h2; subst h3; subst h4; subst h5; subst h6
  rfl
theorem bval_inj {a b : S38} (h : bval a = bval b) : a = b := by
  simp only [bval, bcells, Value.agg.injEq, Array.mk.injEq, List.cons.injEq, Value.int.injEq] at h
  exact S38_ext h.1.2 h.2.1.2 h.2.2.1.2 h.2.2.2.1.2 h.2.2.2.2.1.2 h.2.2.2.2.2.1.2 h.2.2.2.2.2.2.1.2
theorem encB_inj {a b : S38} (h : encB a = encB b) : a = b := by
  simp only [encB, DataW.agg.injEq, List.cons.injEq, DataW.lit.injEq, Lit.int.injEq] at h
  exact S38_ext h.1.2 h.2.1.2 h.2.2.1.2 h.2.2.2.1.2 h.2.2.2.2.1.2 h.2.2.2.2.2.1.2 h.2.2.2.2.2.2.1.2
theorem blobR_mk (b : S38) : blobR (bval b) = some (encB b, []) := by
  have h : ∃ b', bval b = bval b' := ⟨b, rfl⟩
  unfold blobR
  rw [dif_pos h, ← bval_inj (Classical.choose_spec h)]
theorem blobR_inv {v : Value} {d : D1} {ps : List MemPlace} (h : blobR v = some (d, ps)) : ∃ b, v = bval b ∧ d = encB b ∧ ps = [] := by
  unfold blobR at h
  split at h
  · next hb =>
    simp only [Option.some.injEq, Prod.mk.injEq] at h
    exact ⟨_, Classical.choose_spec hb, h.1.symm, h.2.symm⟩
  · cases h

def key (k : Nat) : Lit := .int .i64 k
theorem key_lit (k : Nat) : WideAt.IsKeyLit (key k) := trivial
theorem key_ne {j k : Nat} (h : j ≠ k) : key j ≠ key k := by
  intro e
  unfold key at e
  simp only [Lit.int.injEq, true_and] at e
  exact h (by omega)

/-- D has just what M tells -/
structure MRel (M : List (Option S38)) (D : D1) : Prop where
  has : ∀ k : Nat, Maps.has D (key k) = (M.getD k none).isSome
  only : ∀ kl, Maps.has D kl = true → ∃ k : Nat, k < M.length ∧ kl = key k
  at_ : ∀ (k : Nat) (b : S38), M.getD k none = some b → ∀ z, D.atKey (key k) z = encB b

theorem getD_set' {α : Type} {xs : List α} {i j : Nat} {x d : α} : (xs.set i x).getD j d = if i = j ∧ i < xs.length then x else xs.getD j d := by
  rw [List.getD_eq_getElem?_getD, List.getElem?_set, List.getD_eq_getElem?_getD]
  by_cases h : i = j
  · subst h
    by_cases hl : i < xs.length <;> simp [hl]
  · simp [h]
theorem getD_snoc {α : Type} {xs : List α} {j : Nat} {x d : α} : (xs ++ [x]).getD j d = if j = xs.length then x else xs.getD j d := by
  rw [List.getD_eq_getElem?_getD, List.getElem?_append, List.getD_eq_getElem?_getD]
  split
  · rw [if_neg (by omega)]
  · split
    · next e => rw [e]; simp
    · rw [List.getElem?_eq_none (by simp; omega), List.getElem?_eq_none (by omega)]

theorem MRel.empty : MRel [] (.map []) := ⟨fun k => by simp [Maps.has_eq], fun kl h => by simp [Maps.has_eq] at h, fun k b h => by simp at h⟩
theorem MRel.put {M : List (Option S38)} {D : D1} (h : MRel M D) (hD : Maps.IsMap D) {k : Nat} (hk : k < M.length) (b : S38) : MRel (M.set k (some b)) (D.put (key k) (encB b)) := by
  refine ⟨fun j => ?_, fun kl hkl => ?_, fun j c hj z => ?_⟩
  · rw [getD_set']
    by_cases e : k = j
    · subst e; rw [if_pos ⟨rfl, hk⟩, Maps.has_put_same hD (key_lit _)]; rfl
    · rw [if_neg (fun h => e h.1), Maps.has_put_other (key_ne (fun h => e h.symm)), h.has]
  · by_cases e : kl = key k
    · exact ⟨k, by simpa using hk, e⟩
    · rw [Maps.has_put_other e] at hkl
      obtain ⟨j, hj, e2⟩ := h.only kl hkl
      exact ⟨j, by simpa using hj, e2⟩
  · rw [getD_set'] at hj
    by_cases e : k = j
    · subst e
      rw [if_pos ⟨rfl, hk⟩] at hj
      injection hj with hj
      subst hj
      exact Maps.atKey_put_same hD (key_lit _) _ _
    · rw [if_neg (fun h => e h.1)] at hj
      rw [Maps.atKey_put_other (key_ne (fun h => e h.symm))]
      exact h.at_ j c hj z
theorem MRel.more {M : List (Option S38)} {D : D1} (h : MRel M D) (hD : Maps.IsMap D) (b : S38) : MRel (M ++ [some b]) (D.put (key M.length) (encB b)) := by
  refine ⟨fun j => ?_, fun kl hkl => ?_, fun j c hj z => ?_⟩
  · rw [getD_snoc]
    by_cases e : j = M.length
    · subst e; rw [if_pos rfl, Maps.has_put_same hD (key_lit _)]; rfl
    · rw [if_neg e, Maps.has_put_other (key_ne e), h.has]
  · by_cases e : kl = key M.length
    · exact ⟨M.length, by simp, e⟩
    · rw [Maps.has_put_other e] at hkl
      obtain ⟨j, hj, e2⟩ := h.only kl hkl
      exact ⟨j, by simp; omega, e2⟩
  · rw [getD_snoc] at hj
    by_cases e : j = M.length
    · subst e
      rw [if_pos rfl] at hj
      injection hj with hj
      subst hj
      exact Maps.atKey_put_same hD (key_lit _) _ _
    · rw [if_neg e] at hj
      rw [Maps.atKey_put_other (key_ne e)]
      exact h.at_ j c hj z
theorem MRel.del {M : List (Option S38)} {D : D1} (h : MRel M D) {k : Nat} (hk : k < M.length) : MRel (M.set k none) (D.del (key k)) := by
  refine ⟨fun j => ?_, fun kl hkl => ?_, fun j c hj z => ?_⟩
  · rw [getD_set']
    by_cases e : k = j
    · subst e; rw [if_pos ⟨rfl, hk⟩, Maps.has_del_same]; rfl
    · rw [if_neg (fun h => e h.1), Maps.has_del_other (key_ne (fun h => e h.symm)), h.has]
  · by_cases e : kl = key k
    · subst e; rw [Maps.has_del_same] at hkl; cases hkl
    · rw [Maps.has_del_other e] at hkl
      obtain ⟨j, hj, e2⟩ := h.only kl hkl
      exact ⟨j, by simpa using hj, e2⟩
  · rw [getD_set'] at hj
    by_cases e : k = j
    · subst e
      rw [if_pos ⟨rfl, hk⟩] at hj
      cases hj
    · rw [if_neg (fun h => e h.1)] at hj
      rw [Maps.atKey_del_other (key_ne (fun h => e h.symm))]
      exact h.at_ j c hj z

/-- Block b of w is the map that M tells; at most c stores have been made. -/
def MapAt (w : World) (b c : Nat) (M : List (Option S38)) : Prop := ∃ n D, n ≤ c ∧ w.ownsMap Try.prog 3 blobR b n D ∧ MRel M D

theorem law3 : Keyed Try.prog 3 := int_keyed Try.underlying3
theorem keyOf3 (k : Nat) (hk : k ≤ 1000000000) : keyOf Try.prog 3 (.int .i64 (k : Int)) = some (key k) := keyOf_int_mk Try.underlying3 (WalkArith.wf_i64 (by omega))
theorem zero38 (w : World) : (zeroValue 38).run Try.prog w = .ok (bval z38) w := by kernel_rfl
theorem isMap_of {w : World} {b n : Nat} {D : D1} (h : w.ownsMap Try.prog 3 blobR b n D) : Maps.IsMap D := by
  obtain ⟨es, clock, _, _, _, rfl⟩ := h
  exact ⟨_, rfl⟩

section
variable {w w' : World} {b c : Nat} {M : List (Option S38)}
theorem MapAt.lt (h : MapAt w b c M) : b < w.heap.size := by obtain ⟨n, D, _, ho, _⟩ := h; exact ho.lt
theorem MapAt.kept {row : Option Nat} (h : MapAt w b c M) (hg : w.grownBy w' row) (hne : some b ≠ row) : MapAt w' b c M := by
  obtain ⟨n, D, hn, ho, hr⟩ := h
  exact ⟨n, D, hn, ho.kept hg hne, hr⟩
theorem MapAt.below {B : Nat} (h : MapAt w b c M) (hb : Below B w w') (hB : b < B) : MapAt w' b c M := by
  obtain ⟨n, D, hn, ⟨es, clock, h1, h2⟩, hr⟩ := h
  exact ⟨n, D, hn, ⟨es, clock, (hb.block b hB).trans h1, h2⟩, hr⟩
theorem MapAt.same (h : MapAt w b c M) (hb : w'.heap[b]? = w.heap[b]?) : MapAt w' b c M := by
  obtain ⟨n, D, hn, ⟨es, clock, h1, h2⟩, hr⟩ := h
  exact ⟨n, D, hn, ⟨es, clock, hb.trans h1, h2⟩, hr⟩
theorem MapAt.drew (h : MapAt w b c M) : MapAt w.drew b c M := h
theorem MapAt.isCells (h : MapAt w b c M) {g t : Nat} {cs : Array Value} {fr : Nat × Nat} (hg : w.heap[g]? = some (.cells cs t fr)) : b ≠ g := by
  rintro rfl
  obtain ⟨n, D, _, ⟨es, clock, h1, _⟩, _⟩ := h
  rw [h1] at hg
  cases hg
theorem MapAt.look (h : MapAt w b c M) (k : Nat) (hk : k ≤ 1000000000) (x : S38) (hx : M.getD k none = some x) : (Instr.lookup 66 (.map (some b)) (.int .i64 (k : Int)) false).run Try.prog w = .ok (bval x) w := by
  obtain ⟨n, D, _, ho, hr⟩ := h
  obtain ⟨v, ps, hrun, hv⟩ := ho.lookup law3 Try.underlying66 (zero38 w) (blobR_mk z38) (keyOf3 k hk)
  rw [hr.at_ k x hx] at hv
  obtain ⟨b', rfl, e, _⟩ := blobR_inv hv
  rw [encB_inj e]
  exact hrun
theorem MapAt.put_ (h : MapAt w b c M) (hc : c ≤ 1000000000) (k : Nat) (hk : k ≤ 1000000000) (hl : k < M.length) (x : S38) :
    ∃ w', (Instr.mapUpdate 66 (.map (some b)) (.int .i64 (k : Int)) (bval x)).run Try.prog w = .ok () w' ∧ MapAt w' b (c + 1) (M.set k (some x)) ∧ w.grownBy w' (some b) := by
  obtain ⟨n, D, hn, ho, hr⟩ := h
  obtain ⟨w', hrun, ho', hg⟩ := ho.update law3 Try.underlying66 (by unfold maxLen; omega) (keyOf3 k hk) (blobR_mk x)
  exact ⟨w', hrun, ⟨n + 1, _, by omega, ho', hr.put (isMap_of ho) hl x⟩, hg⟩
theorem MapAt.more_ (h : MapAt w b c M) (hc : c ≤ 1000000000) (hl : M.length ≤ 1000000000) (x : S38) :
    ∃ w', (Instr.mapUpdate 66 (.map (some b)) (.int .i64 (M.length : Int)) (bval x)).run Try.prog w = .ok () w' ∧ MapAt w' b (c + 1) (M ++ [some x]) ∧ w.grownBy w' (some b) := by
  obtain ⟨n, D, hn, ho, hr⟩ := h
  obtain ⟨w', hrun, ho', hg⟩ := ho.update law3 Try.underlying66 (by unfold maxLen; omega) (keyOf3 _ hl) (blobR_mk x)
  exact ⟨w', hrun, ⟨n + 1, _, by omega, ho', hr.more (isMap_of ho) x⟩, hg⟩
theorem MapAt.del_ (h : MapAt w b c M) (k : Nat) (hk : k ≤ 1000000000) (hl : k < M.length) (ty : TypeId) :
    ∃ w', (Builtin.delete_ #[66, 3] ty #[.map (some b), .int .i64 (k : Int)]).run Try.prog w = .ok (.tuple #[]) w' ∧ MapAt w' b c (M.set k none) ∧ w.grownBy w' (some b) := by
  obtain ⟨n, D, hn, ho, hr⟩ := h
  obtain ⟨w', hrun, ho', ht⟩ := ho.drop law3 Try.underlying66 (keyOf3 k hk) ty
  refine ⟨w', hrun, ⟨n, _, hn, ho', hr.del hl⟩, ?_⟩
  obtain ⟨es, clock, es', clock', h1, rfl⟩ := ht
  exact ⟨rfl, rfl, rfl, by simp [ChangeMaps.setBlock], fun i _ hi => ChangeMaps.heap_setBlock_other h1 _ (fun e => hi (by rw [e]))⟩
end
end Go.Proofs.Ytahibhipffojlaa.Map
/- The closure unite of components.label joins two sets. -/
set_option linter.unusedSimpArgs false
set_option linter.unusedVariables false
namespace Go.Proofs.Ytahibhipffojlaa.Unite
open Go.RowKit Go.Proofs.YtahibhipffojlaaW.PrintLast Go.Proofs.YtahibhipffojlaaW.PrintWords Go.Proofs.YtahibhipffojlaaW.PrintMore Go.Proofs.Ytahibhipffojlaa.Walk Go.Proofs.Ytahibhipffojlaa.M Go.Proofs.Ytahibhipffojlaa.Uf Go.Proofs.Ytahibhipffojlaa.Find Go.Proofs.Ytahibhipffojlaa.Join Go.Proofs.Ytahibhipffojlaa.Map
attribute [local go_sem high] max2_mx min2_mn max_two min_two

/-- Only blocks of S have turned, and new ones have come. -/
structure Chg (w w' : World) (S : Nat → Prop) : Prop where
  os : w'.os = w.os
  tape : w'.tape = w.tape
  output : w'.output = w.output
  size : w.heap.size ≤ w'.heap.size
  block : ∀ i, i < w.heap.size → ¬ S i → w'.heap[i]? = w.heap[i]?
theorem Chg.refl (w : World) (S : Nat → Prop) : Chg w w S := ⟨rfl, rfl, rfl, Nat.le_refl _, fun _ _ _ => rfl⟩
theorem Chg.trans {a b c : World} {S : Nat → Prop} (h : Chg a b S) (k : Chg b c S) : Chg a c S :=
  ⟨k.os.trans h.os, k.tape.trans h.tape, k.output.trans h.output, Nat.le_trans h.size k.size, fun i hi hs => (k.block i (Nat.lt_of_lt_of_le hi h.size) hs).trans (h.block i hi hs)⟩
theorem Chg.of_grown {w w' : World} {g : Nat} {S : Nat → Prop} (h : w.grownBy w' (some g)) (hS : S g) : Chg w w' S := ⟨h.os, h.tape, h.output, h.size, fun i hi hs => h.block i hi (fun e => hs (by injection e with e; rw [e]; exact hS))⟩
theorem Chg.of_below {w w' : World} {S : Nat → Prop} (h : Below w.heap.size w w') : Chg w w' S := ⟨h.os, h.tape, h.output, h.size, fun i hi _ => h.block i hi⟩
theorem Chg.drew {w w' : World} {S : Nat → Prop} (h : Chg w w' S) : Chg w w'.drew S := ⟨h.os, h.tape, h.output, h.size, h.block⟩
theorem Chg.drew0 {w w' : World} {S : Nat → Prop} (h : Chg w.drew w' S) : Chg w w' S := ⟨h.os, h.tape, h.output, h.size, h.block⟩
theorem Chg.mono {w w' : World} {S T : Nat → Prop} (h : Chg w w' S) (hST : ∀ i, S i → T i) : Chg w w' T := ⟨h.os, h.tape, h.output, h.size, fun i hi hs => h.block i hi (fun k => hs (hST i k))⟩

def joinF (a b : S38) : S38 := ⟨⟨mn a.f0.f0 b.f0.f0, mn a.f0.f1 b.f0.f1, mx (a.f0.f0 + a.f0.f2) (b.f0.f0 + b.f0.f2) - mn a.f0.f0 b.f0.f0, mx (a.f0.f1 + a.f0.f3) (b.f0.f1 + b.f0.f3) - mn a.f0.f1 b.f0.f1⟩, a.f1 + b.f1, a.f2⟩
def Okb (b : S38) : Prop := (0 ≤ b.f0.f0 ∧ b.f0.f0 ≤ 1000000) ∧ (0 ≤ b.f0.f1 ∧ b.f0.f1 ≤ 1000000) ∧ (0 ≤ b.f0.f2 ∧ b.f0.f2 ≤ 1000000) ∧ (0 ≤ b.f0.f3 ∧ b.f0.f3 ≤ 1000000) ∧ (0 ≤ b.f1 ∧ b.f1 ≤ 100000000)
instance (b : S38) : Decidable (Okb b) := by unfold Okb; infer_instance
theorem joined_any (x y : S38) (hx : Okb x) (hy : Okb y) (w : World) : Calls Try.prog 48 #[bval x, bval y] w fun e w' => e = .returned (bval (joinF x y)) ∧ Below w.heap.size w w' :=
  joined_raw _ _ _ _ _ _ _ _ _ _ _ _ _ _ w hx.1 hx.2.1 hx.2.2.1 hx.2.2.2.1 hx.2.2.2.2 hy.1 hy.2.1 hy.2.2.1 hy.2.2.2.1 hy.2.2.2.2

/-- what label's closures share -/
structure Luw (base : Nat) (w : World) (bp bf bb bm g n cap c : Nat) (p rt : List Int) (M : List (Option S38)) : Prop where
  P : Par p rt
  U : Ufw base w bp bf g n cap p
  hb : w.heap[bb]? = some (.cells #[.map (some bm)] 66 (0, 0))
  m : MapAt w bm c M
  ml : M.length = n

section
variable {base : Nat} {w w' : World} {bp bf bb bm g n cap c : Nat} {p rt : List Int} {M : List (Option S38)}
theorem Luw.drew (L : Luw base w bp bf bb bm g n cap c p rt M) : Luw base w.drew bp bf bb bm g n cap c p rt M := ⟨L.P, L.U.drew, L.hb, L.m, L.ml⟩
theorem Luw.gb (L : Luw base w bp bf bb bm g n cap c p rt M) : g ≠ bb := by
  rintro rfl
  rcases L.U.own.2 with ⟨h, _⟩ | ⟨g', cap', cur, h, _, hh, _⟩
  · cases h
  · injection h with h; injection h with h; injection h with h
    subst h
    rw [L.hb] at hh; injection hh with hh; injection hh with _ h3; exact absurd h3 (by decide)
theorem Luw.gcells (L : Luw base w bp bf bb bm g n cap c p rt M) : ∃ cs, w.heap[g]? = some (.cells cs 3 (0, 0)) := by
  rcases L.U.own.2 with ⟨h, _⟩ | ⟨g', cap', cur, h, _, hh, _⟩
  · cases h
  · injection h with h; injection h with h; injection h with h
    subst h
    exact ⟨_, hh⟩
theorem Luw.find (L : Luw base w bp bf bb bm g n cap c p rt M) (a : Nat) (ha : a < n) (ra : Int) (hra : Hid (rt.getD a 0 = ra)) : Calls Try.prog 46 #[.int .i64 (a : Int), .pointer (some ⟨bp, 0, none⟩), .pointer (some ⟨bf, 0, none⟩)] w
    fun e w' => e = .returned (.int .i64 ra) ∧ ∃ p', Luw base w' bp bf bb bm g n cap c p' rt M ∧ w.grownBy w' (some g) := by
  refine (find_any rt base bp bf g n cap (a + 1) a (by omega) w p L.P L.U ha).mono ?_
  rintro e w1 ⟨rfl, p1, P1, U1, _, hg⟩
  obtain ⟨cs, hcs⟩ := L.gcells
  exact ⟨ret_int hra.out, p1, ⟨P1, U1, (hg.block bb (blk_lt L.hb) (fun e => L.gb (by injection e with e; exact e.symm))).trans L.hb, L.m.kept hg (fun e => L.m.isCells hcs (by injection e)), L.ml⟩, hg⟩
end

section
variable {base : Nat} {w w' : World} {bp bf bb bm g n cap c : Nat} {p rt : List Int} {M : List (Option S38)}
theorem Luw.kept_ {row : Option Nat} {c' : Nat} {M' : List (Option S38)} (L : Luw base w bp bf bb bm g n cap c p rt M) (hg : w.grownBy w' row) (h1 : some bp ≠ row) (h2 : some bf ≠ row) (h3 : some bb ≠ row) (h4 : some g ≠ row)
    (m : MapAt w' bm c' M') (ml : M'.length = n) : Luw base w' bp bf bb bm g n cap c' p rt M' :=
  ⟨L.P, ⟨L.U.len, (hg.block bp (blk_lt L.U.hp) h1).trans L.U.hp, (hg.block bf (blk_lt L.U.hf) h2).trans L.U.hf, L.U.own.kept hg (.inr h4)⟩, (hg.block bb (blk_lt L.hb) h3).trans L.hb, m, ml⟩
theorem Luw.turned {c' : Nat} {M' : List (Option S38)} (L : Luw base w bp bf bb bm g n cap c p rt M) (hg : w.grownBy w' (some bm)) (m : MapAt w' bm c' M') (ml : M'.length = n) : Luw base w' bp bf bb bm g n cap c' p rt M' := by
  obtain ⟨cs, hcs⟩ := L.gcells
  exact L.kept_ hg (fun e => L.m.isCells L.U.hp (by injection e with e; exact e.symm)) (fun e => L.m.isCells L.U.hf (by injection e with e; exact e.symm)) (fun e => L.m.isCells L.hb (by injection e with e; exact e.symm)) (fun e => L.m.isCells hcs (by injection e with e; exact e.symm)) m ml
theorem Luw.below0 (L : Luw base w bp bf bb bm g n cap c p rt M) (hb : Below w.heap.size w w') : Luw base w' bp bf bb bm g n cap c p rt M :=
  L.kept_ (row := none) ⟨hb.os, hb.tape, hb.output, hb.size, fun i hi _ => hb.block i hi⟩ (by simp) (by simp) (by simp) (by simp) (L.m.below hb L.m.lt) L.ml
end

/-- what unite makes of the roots and the blobs -/
def uniteF (rt : List Int) (M : List (Option S38)) (a b : Nat) : Option (List Int × List (Option S38)) :=
  if a < rt.length ∧ b < rt.length then
    if rt.getD a 0 = rt.getD b 0 then some (rt, M)
    else match M.getD (mn (rt.getD a 0) (rt.getD b 0)).toNat none, M.getD (mx (rt.getD a 0) (rt.getD b 0)).toNat none with
      | some x, some y => if Okb x ∧ Okb y then some (rt.map (fun z => if z = mx (rt.getD a 0) (rt.getD b 0) then mn (rt.getD a 0) (rt.getD b 0) else z), (M.set (mn (rt.getD a 0) (rt.getD b 0)).toNat (some (joinF x y))).set (mx (rt.getD a 0) (rt.getD b 0)).toNat none) else none
      | _, _ => none
  else none

def UnitePost (base : Nat) (w : World) (bp bf bb bm g n cap c : Nat) (rt' : List Int) (M' : List (Option S38)) (e : Ending) (w' : World) : Prop :=
  e = .returned (.tuple #[]) ∧ ∃ p', Luw base w' bp bf bb bm g n cap (c + 1) p' rt' M' ∧ Chg w w' (fun i => i = g ∨ i = bm)

section
variable {base : Nat} {w : World} {bp bf bb bm g n cap c : Nat} {p rt : List Int} {M : List (Option S38)}
theorem MapAt.mono_ {w : World} {b c c' : Nat} {M : List (Option S38)} (h : MapAt w b c M) (hc : c ≤ c') : MapAt w b c' M := by
  obtain ⟨n, D, hn, h⟩ := h
  exact ⟨n, D, by omega, h⟩

set_option maxRecDepth 100000 in
set_option maxHeartbeats 1000000 in
theorem unite_same (a b : Nat) (ra : Int) (ha : a < n) (hb : b < n) (ea : Hid (rt.getD a 0 = ra)) (eb : Hid (rt.getD b 0 = ra)) (L : Luw base w bp bf bb bm g n cap c p rt M) :
    Calls Try.prog 47 #[.int .i64 (a : Int), .int .i64 (b : Int), .pointer (some ⟨bf, 0, none⟩), .pointer (some ⟨bp, 0, none⟩), .pointer (some ⟨bb, 0, none⟩)] w (UnitePost base w bp bf bb bm g n cap c rt M) := by
  have hc1 : w.cell? ⟨bf, 0, none⟩ = some (.func (.func 46) #[] #[.pointer (some ⟨bp, 0, none⟩), .pointer (some ⟨bf, 0, none⟩)]) := cell_of_one L.U.hf
  have HL := Lib.hid L
  clear L
  go_enter Try.func47, Try.ntmps47
  go_wp2_with fail
  refine start_ (n := 8) (S := fun w' => w'.cell? ⟨bf, 0, none⟩ = some (.func (.func 46) #[] #[.pointer (some ⟨bp, 0, none⟩), .pointer (some ⟨bf, 0, none⟩)])) (ds := []) #[false, false, false, false, false, false, false, false] (by kernel_rfl) rfl rfl (hc1) (fun hHeld => ?_)
  refine pure_ (i := 1) (N := some 8) (v := ?_) (a' := ?_) #[false, true, false, false, false, false, false, false] rfl rfl (by kernel_rfl) (fun _ _ _ h => h) (Or.inl ⟨by rfl, ?_⟩) ?_ ?_
  rotate_left
  · intro w'
    go_simp
    with_reducible rfl
  rotate_left
  · simp only [Act.put, List.setIfInBounds_toArray, List.set_cons_zero, List.set_cons_succ, i64_w, i32_w]
    rfl
  refine pure_ (i := 4) (N := some 11) (v := ?_) (a' := ?_) #[false, true, false, false, true, false, false, false] rfl rfl (by kernel_rfl) (fun _ _ _ h => h) (Or.inl ⟨by rfl, ?_⟩) ?_ ?_
  rotate_left
  · intro w'
    go_simp
    with_reducible rfl
  rotate_left
  · simp only [Act.put, List.setIfInBounds_toArray, List.set_cons_zero, List.set_cons_succ, i64_w, i32_w]
    rfl
  refine take_ (i := 0) (N := some 7) (v := ?_) (a' := ?_) #[true, true, false, false, true, false, false, false] rfl rfl (by kernel_rfl) (fun _ _ _ h => h) (Or.inl ⟨by rfl, ?_⟩) hHeld ?_ ?_
  rotate_left
  · intro w' s0
    go_simp
    with_reducible rfl
  rotate_left
  · simp only [Act.put, List.setIfInBounds_toArray, List.set_cons_zero, List.set_cons_succ, i64_w, i32_w]
    rfl
  refine take_ (i := 3) (N := some 10) (v := ?_) (a' := ?_) #[true, true, false, true, true, false, false, false] rfl rfl (by kernel_rfl) (fun _ _ _ h => h) (Or.inl ⟨by rfl, ?_⟩) hHeld ?_ ?_
  rotate_left
  · intro w' s0
    go_simp
    with_reducible rfl
  rotate_left
  · simp only [Act.put, List.setIfInBounds_toArray, List.set_cons_zero, List.set_cons_succ, i64_w, i32_w]
    rfl
  refine one_ (i := 2) (N := some 9) #[true, true, true, true, true, false, false, false] rfl rfl (by kernel_rfl) (by decide) (fun K hK => ?_)
  refine goesV #[.pointer (some ⟨bp, 0, none⟩), .pointer (some ⟨bf, 0, none⟩)] Try.func46 (by kernel_rfl) rfl #[.int .i64 (a : Int), .pointer (some ⟨bp, 0, none⟩), .pointer (some ⟨bf, 0, none⟩)] (by rfl) rfl rfl (by rfl) (by simp only [List.map_toArray, List.map_cons, List.map_nil, List.append_toArray, List.cons_append, List.nil_append]; rfl) ?_
  with_reducible refine (HL.out.drew.find a ha ra ea).mono ?_
  rintro e w1 ⟨rfl, p1, L10, hg10⟩
  refine ⟨_, rfl, ?_⟩
  have L1 := Lib.hid L10; have hg1 := Lib.hid hg10; have hk1 := cell_of_one L10.U.hf; clear L10 hg10
  refine hK.out _ _ (hk1) (fun hHeld => ?_)
  clear hK K
  refine norm_ (a' := ?_) ?_ ?_
  rotate_left
  · show Act.put _ (some 9) _ = _
    simp only [Act.put, List.setIfInBounds_toArray, List.set_cons_zero, List.set_cons_succ, i64_w, i32_w]
    rfl
  refine one_ (i := 5) (N := some 12) #[true, true, true, true, true, true, false, false] rfl rfl (by kernel_rfl) (by decide) (fun K hK => ?_)
  refine goesV #[.pointer (some ⟨bp, 0, none⟩), .pointer (some ⟨bf, 0, none⟩)] Try.func46 (by kernel_rfl) rfl #[.int .i64 (b : Int), .pointer (some ⟨bp, 0, none⟩), .pointer (some ⟨bf, 0, none⟩)] (by rfl) rfl rfl (by rfl) (by simp only [List.map_toArray, List.map_cons, List.map_nil, List.append_toArray, List.cons_append, List.nil_append]; rfl) ?_
  with_reducible refine (L1.out.find b hb ra eb).mono ?_
  rintro e w2 ⟨rfl, p2, L20, hg20⟩
  refine ⟨_, rfl, ?_⟩
  have L2 := Lib.hid L20; have hg2 := Lib.hid hg20; have hk2 := cell_of_one L20.U.hf; clear L20 hg20
  refine hK.out _ _ (hk2) (fun hHeld => ?_)
  clear hK K
  refine norm_ (a' := ?_) ?_ ?_
  rotate_left
  · show Act.put _ (some 12) _ = _
    simp only [Act.put, List.setIfInBounds_toArray, List.set_cons_zero, List.set_cons_succ, i64_w, i32_w]
    rfl
  refine pure_ (i := 6) (N := some 0) (v := ?_) (a' := ?_) #[true, true, true, true, true, true, true, false] rfl rfl (by kernel_rfl) (fun _ _ _ h => h) (Or.inl ⟨by rfl, ?_⟩) ?_ ?_
  rotate_left
  · intro w'
    go_simp
    with_reducible rfl
  rotate_left
  · simp only [Act.put, List.setIfInBounds_toArray, List.set_cons_zero, List.set_cons_succ, i64_w, i32_w]
    rfl
  refine pure_ (i := 7) (N := some 1) (v := ?_) (a' := ?_) #[true, true, true, true, true, true, true, true] rfl rfl (by kernel_rfl) (fun _ _ _ h => h) (Or.inl ⟨by rfl, ?_⟩) ?_ ?_
  rotate_left
  · intro w'
    go_simp
    with_reducible rfl
  rotate_left
  · simp only [Act.put, List.setIfInBounds_toArray, List.set_cons_zero, List.set_cons_succ, i64_w, i32_w]
    rfl
  refine done_ (by kernel_rfl) ?_

  go_wp2
  go_end0
  exact ⟨rfl, p2, ⟨L2.out.P, L2.out.U, L2.out.hb, MapAt.mono_ L2.out.m (Nat.le_succ c), L2.out.ml⟩, ((Chg.of_grown hg1.out (.inl rfl)).drew0).trans (Chg.of_grown hg2.out (.inl rfl))⟩

theorem Luw.joined (L : Luw base w bp bf bb bm g n cap c p rt M) (lo hi : Nat) (hlt : lo < hi) (hn : hi < n) (rlo : p.getD lo 0 = lo) (rhi : p.getD hi 0 = hi) :
    Luw base (w.setCell ⟨g, hi, none⟩ (.int .i64 (lo : Int))) bp bf bb bm g n cap c (p.set hi lo) (rt.map fun z => if z = (hi : Int) then (lo : Int) else z) M := by
  obtain ⟨cs, hcs⟩ := L.gcells
  exact ⟨L.P.join lo hi hlt (by rw [L.U.len]; exact hn) rlo rhi, L.U.set_ hi lo, (Below.heap_setCell w _ _ bb (fun e => L.gb e.symm)).trans L.hb,
    L.m.same (Below.heap_setCell w _ _ bm (fun e => L.m.isCells hcs e)), L.ml⟩

set_option maxRecDepth 100000 in
set_option maxHeartbeats 1000000 in
theorem unite_diff (a b lo hi : Nat) (ra rb : Int) (x y : S38) (ha : a < n) (hb : b < n) (ea : Hid (rt.getD a 0 = ra)) (eb : Hid (rt.getD b 0 = rb)) (hne : (ra == rb) = false) (hmn : mn ra rb = (lo : Int)) (hmx : mx ra rb = (hi : Int))
    (hlt0 : Hid (lo < hi)) (hhn : hi < n) (hx : Hid (M.getD lo none = some x)) (hy : Hid (M.getD hi none = some y)) (hox : Hid (Okb x)) (hoy : Hid (Okb y)) (hn9 : Hid (n ≤ 1000000000)) (hc9 : Hid (c ≤ 1000000000))
    (hroot : Hid (∀ p', Par p' rt → p'.getD lo 0 = lo ∧ p'.getD hi 0 = hi)) (L : Luw base w bp bf bb bm g n cap c p rt M) :
    Calls Try.prog 47 #[.int .i64 (a : Int), .int .i64 (b : Int), .pointer (some ⟨bf, 0, none⟩), .pointer (some ⟨bp, 0, none⟩), .pointer (some ⟨bb, 0, none⟩)] w
      (UnitePost base w bp bf bb bm g n cap c (rt.map fun z => if z = (hi : Int) then (lo : Int) else z) ((M.set lo (some (joinF x y))).set hi none)) := by
  have hc1 : w.cell? ⟨bf, 0, none⟩ = some (.func (.func 46) #[] #[.pointer (some ⟨bp, 0, none⟩), .pointer (some ⟨bf, 0, none⟩)]) := cell_of_one L.U.hf
  have hhi9 : Hid (hi ≤ 1000000000) := Lib.hid (by have := hn9.out; omega)
  have hlo9 : Hid (lo ≤ 1000000000) := Lib.hid (by have := hn9.out; have := hlt0.out; omega)
  have hloM : Hid (lo < M.length) := Lib.hid (by have := L.ml; have := hlt0.out; omega)
  have hhiM : Hid (hi < M.length) := Lib.hid (by have := L.ml; omega)
  have hi0 : (0 : Int) ≤ (hi : Int) := Int.natCast_nonneg _
  have hi1 : (hi : Int) < (n : Int) := by omega
  have HL := Lib.hid L
  clear L
  go_enter Try.func47, Try.ntmps47
  go_wp2_with fail
  refine start_ (n := 8) (S := fun w' => w'.cell? ⟨bf, 0, none⟩ = some (.func (.func 46) #[] #[.pointer (some ⟨bp, 0, none⟩), .pointer (some ⟨bf, 0, none⟩)])) (ds := []) #[false, false, false, false, false, false, false, false] (by kernel_rfl) rfl rfl (hc1) (fun hHeld => ?_)
  refine pure_ (i := 1) (N := some 8) (v := ?_) (a' := ?_) #[false, true, false, false, false, false, false, false] rfl rfl (by kernel_rfl) (fun _ _ _ h => h) (Or.inl ⟨by rfl, ?_⟩) ?_ ?_
  rotate_left
  · intro w'
    go_simp
    with_reducible rfl
  rotate_left
  · simp only [Act.put, List.setIfInBounds_toArray, List.set_cons_zero, List.set_cons_succ, i64_w, i32_w]
    rfl
  refine pure_ (i := 4) (N := some 11) (v := ?_) (a' := ?_) #[false, true, false, false, true, false, false, false] rfl rfl (by kernel_rfl) (fun _ _ _ h => h) (Or.inl ⟨by rfl, ?_⟩) ?_ ?_
  rotate_left
  · intro w'
    go_simp
    with_reducible rfl
  rotate_left
  · simp only [Act.put, List.setIfInBounds_toArray, List.set_cons_zero, List.set_cons_succ, i64_w, i32_w]
    rfl
  refine take_ (i := 0) (N := some 7) (v := ?_) (a' := ?_) #[true, true, false, false, true, false, false, false] rfl rfl (by kernel_rfl) (fun _ _ _ h => h) (Or.inl ⟨by rfl, ?_⟩) hHeld ?_ ?_
  rotate_left
  · intro w' s0
    go_simp
    with_reducible rfl
  rotate_left
  · simp only [Act.put, List.setIfInBounds_toArray, List.set_cons_zero, List.set_cons_succ, i64_w, i32_w]
    rfl
  refine take_ (i := 3) (N := some 10) (v := ?_) (a' := ?_) #[true, true, false, true, true, false, false, false] rfl rfl (by kernel_rfl) (fun _ _ _ h => h) (Or.inl ⟨by rfl, ?_⟩) hHeld ?_ ?_
  rotate_left
  · intro w' s0
    go_simp
    with_reducible rfl
  rotate_left
  · simp only [Act.put, List.setIfInBounds_toArray, List.set_cons_zero, List.set_cons_succ, i64_w, i32_w]
    rfl
  refine one_ (i := 2) (N := some 9) #[true, true, true, true, true, false, false, false] rfl rfl (by kernel_rfl) (by decide) (fun K hK => ?_)
  refine goesV #[.pointer (some ⟨bp, 0, none⟩), .pointer (some ⟨bf, 0, none⟩)] Try.func46 (by kernel_rfl) rfl #[.int .i64 (a : Int), .pointer (some ⟨bp, 0, none⟩), .pointer (some ⟨bf, 0, none⟩)] (by rfl) rfl rfl (by rfl) (by simp only [List.map_toArray, List.map_cons, List.map_nil, List.append_toArray, List.cons_append, List.nil_append]; rfl) ?_
  with_reducible refine (HL.out.drew.find a ha ra ea).mono ?_
  rintro e w1 ⟨rfl, p1, L10, hg10⟩
  refine ⟨_, rfl, ?_⟩
  have L1 := Lib.hid L10; have hg1 := Lib.hid hg10; have hk1 := cell_of_one L10.U.hf; clear L10 hg10
  refine hK.out _ _ (hk1) (fun hHeld => ?_)
  clear hK K
  refine norm_ (a' := ?_) ?_ ?_
  rotate_left
  · show Act.put _ (some 9) _ = _
    simp only [Act.put, List.setIfInBounds_toArray, List.set_cons_zero, List.set_cons_succ, i64_w, i32_w]
    rfl
  refine one_ (i := 5) (N := some 12) #[true, true, true, true, true, true, false, false] rfl rfl (by kernel_rfl) (by decide) (fun K hK => ?_)
  refine goesV #[.pointer (some ⟨bp, 0, none⟩), .pointer (some ⟨bf, 0, none⟩)] Try.func46 (by kernel_rfl) rfl #[.int .i64 (b : Int), .pointer (some ⟨bp, 0, none⟩), .pointer (some ⟨bf, 0, none⟩)] (by rfl) rfl rfl (by rfl) (by simp only [List.map_toArray, List.map_cons, List.map_nil, List.append_toArray, List.cons_append, List.nil_append]; rfl) ?_
  with_reducible refine (L1.out.find b hb rb eb).mono ?_
  rintro e w2 ⟨rfl, p2, L20, hg20⟩
  refine ⟨_, rfl, ?_⟩
  have L2 := Lib.hid L20; have hg2 := Lib.hid hg20; have hk2 := cell_of_one L20.U.hf; clear L20 hg20
  refine hK.out _ _ (hk2) (fun hHeld => ?_)
  clear hK K
  refine norm_ (a' := ?_) ?_ ?_
  rotate_left
  · show Act.put _ (some 12) _ = _
    simp only [Act.put, List.setIfInBounds_toArray, List.set_cons_zero, List.set_cons_succ, i64_w, i32_w]
    rfl
  refine pure_ (i := 6) (N := some 0) (v := ?_) (a' := ?_) #[true, true, true, true, true, true, true, false] rfl rfl (by kernel_rfl) (fun _ _ _ h => h) (Or.inl ⟨by rfl, ?_⟩) ?_ ?_
  rotate_left
  · intro w'
    go_simp
    with_reducible rfl
  rotate_left
  · simp only [Act.put, List.setIfInBounds_toArray, List.set_cons_zero, List.set_cons_succ, i64_w, i32_w]
    rfl
  refine pure_ (i := 7) (N := some 1) (v := ?_) (a' := ?_) #[true, true, true, true, true, true, true, true] rfl rfl (by kernel_rfl) (fun _ _ _ h => h) (Or.inl ⟨by rfl, ?_⟩) ?_ ?_
  rotate_left
  · intro w'
    go_simp
    with_reducible rfl
  rotate_left
  · simp only [Act.put, List.setIfInBounds_toArray, List.set_cons_zero, List.set_cons_succ, i64_w, i32_w]
    rfl
  refine done_ (by kernel_rfl) ?_

  have hkp := cell_of_one L2.out.U.hp
  have hkg := L2.out.U.at_ hi hhn
  have hfz := L2.out.U.own.frozenAt hi
  have R2 := hroot.out _ L2.out.P
  have L3 := Lib.hid (L2.out.joined lo hi hlt0.out hhn R2.1 R2.2)
  have HG3 := Lib.hid (grown_set w2 g hi (.int .i64 (lo : Int)))
  clear R2
  have hcb : (w2.setCell ⟨g, hi, none⟩ (.int .i64 (lo : Int))).cell? ⟨bb, 0, none⟩ = some (.map (some bm)) := cell_of_one L3.out.hb
  have HC0 := Lib.hid (((Chg.of_grown (S := fun i => i = g ∨ i = bm) hg1.out (.inl rfl)).drew0).trans ((Chg.of_grown hg2.out (.inl rfl)).trans (Chg.of_grown HG3.out (.inl rfl))))
  go_wp2_with fail
  clear hkp hkg hfz hk1 hk2
  generalize hw3 : w2.setCell ⟨g, hi, none⟩ (.int .i64 (lo : Int)) = w3 at *
  clear hw3
  refine start_ (n := 10) (S := fun w' => w'.cell? ⟨bb, 0, none⟩ = some (.map (some bm)) ∧ (Instr.lookup 66 (.map (some bm)) (.int .i64 (lo : Int)) false).run Try.prog w' = .ok (bval x) w' ∧ (Instr.lookup 66 (.map (some bm)) (.int .i64 (hi : Int)) false).run Try.prog w' = .ok (bval y) w') (ds := [9]) #[false, false, false, false, false, false, false, false, false, false] (by kernel_rfl) rfl rfl ⟨hcb, (L3.out.drew.m.look lo hlo9.out x hx.out), (L3.out.drew.m.look hi hhi9.out y hy.out)⟩ (fun hHeld => ?_)
  refine pure_ (i := 1) (N := some 27) (v := ?_) (a' := ?_) #[false, true, false, false, false, false, false, false, false, false] rfl rfl (by kernel_rfl) (fun _ _ _ h => h) (Or.inl ⟨by rfl, ?_⟩) ?_ ?_
  rotate_left
  · intro w'
    go_simp
    with_reducible rfl
  rotate_left
  · simp only [Act.put, List.setIfInBounds_toArray, List.set_cons_zero, List.set_cons_succ, i64_w, i32_w]
    rfl
  refine pure_ (i := 3) (N := some 29) (v := ?_) (a' := ?_) #[false, true, false, true, false, false, false, false, false, false] rfl rfl (by kernel_rfl) (fun _ _ _ h => h) (Or.inl ⟨by rfl, ?_⟩) ?_ ?_
  rotate_left
  · intro w'
    go_simp
    with_reducible rfl
  rotate_left
  · simp only [Act.put, List.setIfInBounds_toArray, List.set_cons_zero, List.set_cons_succ, i64_w, i32_w]
    rfl
  refine pure_ (i := 6) (N := some 32) (v := ?_) (a' := ?_) #[false, true, false, true, false, false, true, false, false, false] rfl rfl (by kernel_rfl) (fun _ _ _ h => h) (Or.inl ⟨by rfl, ?_⟩) ?_ ?_
  rotate_left
  · intro w'
    go_simp
    with_reducible rfl
  rotate_left
  · simp only [Act.put, List.setIfInBounds_toArray, List.set_cons_zero, List.set_cons_succ, i64_w, i32_w]
    rfl
  refine take_ (i := 0) (N := some 26) (v := ?_) (a' := ?_) #[true, true, false, true, false, false, true, false, false, false] rfl rfl (by kernel_rfl) (fun _ _ _ h => h) (Or.inl ⟨by rfl, ?_⟩) hHeld ?_ ?_
  rotate_left
  · rintro w' ⟨s0, s1, s2⟩
    go_simp
    with_reducible rfl
  rotate_left
  · simp only [Act.put, List.setIfInBounds_toArray, List.set_cons_zero, List.set_cons_succ, i64_w, i32_w]
    rfl
  refine take_ (i := 2) (N := some 28) (v := ?_) (a' := ?_) #[true, true, true, true, false, false, true, false, false, false] rfl rfl (by kernel_rfl) (fun _ _ _ h => h) (Or.inl ⟨by rfl, ?_⟩) hHeld ?_ ?_
  rotate_left
  · rintro w' ⟨s0, s1, s2⟩
    go_simp
    with_reducible rfl
  rotate_left
  · simp only [Act.put, List.setIfInBounds_toArray, List.set_cons_zero, List.set_cons_succ, i64_w, i32_w]
    rfl
  refine take_ (i := 4) (N := some 30) (v := ?_) (a' := ?_) #[true, true, true, true, true, false, true, false, false, false] rfl rfl (by kernel_rfl) (fun _ _ _ h => h) (Or.inl ⟨by rfl, ?_⟩) hHeld ?_ ?_
  rotate_left
  · rintro w' ⟨s0, s1, s2⟩
    go_simp
    with_reducible rfl
  rotate_left
  · simp only [Act.put, List.setIfInBounds_toArray, List.set_cons_zero, List.set_cons_succ, i64_w, i32_w]
    rfl
  refine take_ (i := 5) (N := some 31) (v := ?_) (a' := ?_) #[true, true, true, true, true, true, true, false, false, false] rfl rfl (by kernel_rfl) (fun _ _ _ h => h) (Or.inl ⟨by rfl, ?_⟩) hHeld ?_ ?_
  rotate_left
  · rintro w' ⟨s0, s1, s2⟩
    go_simp
    with_reducible rfl
  rotate_left
  · simp only [Act.put, List.setIfInBounds_toArray, List.set_cons_zero, List.set_cons_succ, i64_w, i32_w]
    rfl
  refine take_ (i := 7) (N := some 33) (v := ?_) (a' := ?_) #[true, true, true, true, true, true, true, true, false, false] rfl rfl (by kernel_rfl) (fun _ _ _ h => h) (Or.inl ⟨by rfl, ?_⟩) hHeld ?_ ?_
  rotate_left
  · rintro w' ⟨s0, s1, s2⟩
    go_simp
    with_reducible rfl
  rotate_left
  · simp only [Act.put, List.setIfInBounds_toArray, List.set_cons_zero, List.set_cons_succ, i64_w, i32_w]
    rfl
  refine one_ (i := 8) (N := some 34) #[true, true, true, true, true, true, true, true, true, false] rfl rfl (by kernel_rfl) (by decide) (fun K hK => ?_)
  refine goes_ Try.func48 (by kernel_rfl) rfl #[bval x, bval y] (by rfl) rfl rfl (by simp only [List.map_toArray, List.map_cons, List.map_nil]; rfl) ?_
  with_reducible refine (joined_any x y hox.out hoy.out _).mono ?_
  rintro e w4 ⟨rfl, hb4⟩
  refine ⟨_, rfl, ?_⟩
  have hc4 := (hb4.cell (p := ⟨bb, 0, none⟩) (blk_lt L3.out.hb)).trans hcb
  have m4 := L3.out.drew.m.below hb4 L3.out.m.lt
  have HB4 := Lib.hid hb4
  obtain ⟨w5, hup, m5, hg5⟩ := m4.put_ hc9.out lo hlo9.out hloM.out (joinF x y)
  have M4 := Lib.hid m4; have M5 := Lib.hid m5; have HG5 := Lib.hid hg5; clear m4 m5 hg5 hb4
  refine hK.out _ _ ⟨hc4, (M4.out.look lo hlo9.out x hx.out), (M4.out.look hi hhi9.out y hy.out)⟩ (fun hHeld => ?_)
  clear hK K
  refine norm_ (a' := ?_) ?_ ?_
  rotate_left
  · show Act.put _ (some 34) _ = _
    simp only [Act.put, List.setIfInBounds_toArray, List.set_cons_zero, List.set_cons_succ, i64_w, i32_w]
    rfl
  refine last_ (i := 9) (N := none) #[true, true, true, true, true, true, true, true, true, true] rfl rfl (by kernel_rfl) (by decide) (fun K hK => ?_)
  refine skip_ (w1 := ?_) (by rfl) rfl ?_ ?_
  rotate_left
  · go_simp
    rfl
  refine hK.out _ _ ?_
  clear hK K
  refine done_ (by kernel_rfl) ?_

  have hbb5 : w5.heap[bb]? = some (.cells #[.map (some bm)] 66 (0, 0)) := (HG5.out.block bb (blk_lt ((HB4.out.block bb (blk_lt L3.out.hb)).trans L3.out.hb)) (fun e => by
      injection e with e
      exact M4.out.isCells ((HB4.out.block bb (blk_lt L3.out.hb)).trans L3.out.hb) e.symm)).trans ((HB4.out.block bb (blk_lt L3.out.hb)).trans L3.out.hb)
  have hc5 := cell_of_one hbb5
  obtain ⟨w6, hdel, m6, hg6⟩ := M5.out.del_ hi hhi9.out (by rw [List.length_set]; exact hhiM.out) 0
  have M6 := Lib.hid m6
  have HG6 := Lib.hid hg6
  clear m6 hg6
  go_wp2_with fail
  go_wp2
  go_end0
  have L4 := L3.out.drew.below0 HB4.out
  have L5 := L4.turned HG5.out M5.out (by rw [List.length_set]; exact L4.ml)
  have L6 := L5.turned HG6.out M6.out (by rw [List.length_set]; exact L5.ml)
  exact ⟨rfl, p2.set hi lo, L6, (HC0.out.trans (Chg.of_below HB4.out).drew0).trans ((Chg.of_grown HG5.out (.inr rfl)).trans (Chg.of_grown HG6.out (.inr rfl)))⟩

theorem roots_of (P : Par p rt) (a : Nat) (ha : a < rt.length) : 0 ≤ rt.getD a 0 ∧ rt.getD a 0 ≤ a ∧ ∀ p', Par p' rt → p'.getD (rt.getD a 0).toNat 0 = rt.getD a 0 := by
  have h := P.root (a + 1) a (by omega) (by rw [P.len]; exact ha)
  exact ⟨h.1, h.2.1, fun p' P' => (P'.root (a + 1) a (by omega) (by rw [P'.len]; exact ha)).2.2⟩

theorem unite_any (a b : Nat) (rt' : List Int) (M' : List (Option S38)) (hu : uniteF rt M a b = some (rt', M')) (hn9 : n ≤ 1000000000) (hc9 : c ≤ 1000000000) (L : Luw base w bp bf bb bm g n cap c p rt M) :
    Calls Try.prog 47 #[.int .i64 (a : Int), .int .i64 (b : Int), .pointer (some ⟨bf, 0, none⟩), .pointer (some ⟨bp, 0, none⟩), .pointer (some ⟨bb, 0, none⟩)] w (UnitePost base w bp bf bb bm g n cap c rt' M') := by
  have hrn : rt.length = n := by rw [← L.P.len, L.U.len]
  unfold uniteF at hu
  split at hu
  next hab =>
    obtain ⟨a0, a1, a2⟩ := roots_of L.P a hab.1
    obtain ⟨b0, b1, b2⟩ := roots_of L.P b hab.2
    split at hu
    next he =>
      injection hu with hu
      injection hu with h1 h2
      subst h1 h2
      exact unite_same a b _ (by omega) (by omega) (Lib.hid rfl) (Lib.hid he.symm) L
    next he =>
      have key : ∃ lo hi : Nat, mn (rt.getD a 0) (rt.getD b 0) = (lo : Int) ∧ mx (rt.getD a 0) (rt.getD b 0) = (hi : Int) ∧ lo < hi ∧ hi < n ∧ ∀ p', Par p' rt → p'.getD lo 0 = lo ∧ p'.getD hi 0 = hi := by
        generalize rt.getD a 0 = ra at *
        generalize rt.getD b 0 = rb at *
        by_cases hl : ra < rb
        · refine ⟨ra.toNat, rb.toNat, ?_, ?_, by omega, by omega, fun p' P' => ⟨?_, ?_⟩⟩
          · unfold mn; split <;> omega
          · unfold mx; split <;> omega
          · rw [a2 p' P']; omega
          · rw [b2 p' P']; omega
        · refine ⟨rb.toNat, ra.toNat, ?_, ?_, by omega, by omega, fun p' P' => ⟨?_, ?_⟩⟩
          · unfold mn; split <;> omega
          · unfold mx; split <;> omega
          · rw [b2 p' P']; omega
          · rw [a2 p' P']; omega
      obtain ⟨lo, hi, h1, h2, h3, h4, h5⟩ := key
      rw [h1, h2] at hu
      simp only [Int.toNat_natCast] at hu
      split at hu
      next x y hx hy =>
        split at hu
        next hok =>
          injection hu with hu
          injection hu with e1 e2
          subst e1 e2
          exact unite_diff a b lo hi _ _ x y (by omega) (by omega) (Lib.hid rfl) (Lib.hid rfl) (by simp; exact he) h1 h2 (Lib.hid h3) h4 (Lib.hid hx) (Lib.hid hy) (Lib.hid hok.1) (Lib.hid hok.2) (Lib.hid hn9) (Lib.hid hc9) (Lib.hid h5) L
        next => cases hu
      next => cases hu
  next => cases hu
end
end Go.Proofs.Ytahibhipffojlaa.Unite
/- Plain facts for components.numbered: the keys of a map that were met, sorted; the map from keys to their places. -/
set_option linter.unusedSimpArgs false
set_option linter.unusedVariables false
namespace Go.Proofs.Ytahibhipffojlaa.Num
open Go.RowKit Go.Maps Go.Proofs.YtahibhipffojlaaW.PrintLast Go.Proofs.YtahibhipffojlaaW.PrintWords Go.Proofs.YtahibhipffojlaaW.PrintMore Go.Proofs.Ytahibhipffojlaa.M Go.Proofs.Ytahibhipffojlaa.Map

abbrev leI : Int → Int → Bool := fun x y => decide (x ≤ y)

/-- the keys that a map has -/
def present (M : List (Option S38)) : List Int := ((List.range M.length).filter fun k => (M.getD k none).isSome).map fun k => ((k : Nat) : Int)

/-- ss: the keys met so far -/
structure Coll (M : List (Option S38)) (left : Lit → Bool) (ss : List Int) : Prop where
  nd : ss.Nodup
  inn : ∀ x ∈ ss, ∃ k : Nat, x = k ∧ (M.getD k none).isSome = true ∧ left (key k) = false
  out : ∀ k : Nat, (M.getD k none).isSome = true → left (key k) = false → (k : Int) ∈ ss

theorem sameKey_key (j k : Nat) : (key j).sameKey (key k) = decide (j = k) := by
  unfold key Lit.sameKey
  by_cases h : j = k
  · subst h; simp
  · have : ¬ ((j : Int) = (k : Int)) := by omega
    simp [h, this]

theorem Coll.start {M : List (Option S38)} {D : D1} (h : MRel M D) : Coll M (has D) [] :=
  ⟨List.nodup_nil, fun x hx => (by simp at hx), fun k h1 h2 => by rw [h.has k, h1] at h2; cases h2⟩

theorem Coll.step {M : List (Option S38)} {left : Lit → Bool} {ss : List Int} (h : Coll M left ss) (k : Nat) (hk : (M.getD k none).isSome = true) (hl : left (key k) = true) : Coll M (fun z => left z && !z.sameKey (key k)) (ss ++ [(k : Int)]) := by
  refine ⟨?_, ?_, ?_⟩
  · refine List.nodup_append.2 ⟨h.nd, by simp, fun a ha b hb => ?_⟩
    simp at hb
    subst hb
    obtain ⟨j, rfl, _, h3⟩ := h.inn a ha
    intro e
    have : j = k := by omega
    subst this
    rw [hl] at h3; cases h3
  · intro x hx
    rcases List.mem_append.1 hx with hx | hx
    · obtain ⟨j, e, h2, h3⟩ := h.inn x hx
      exact ⟨j, e, h2, by rw [h3]; rfl⟩
    · simp at hx
      exact ⟨k, hx, hk, by rw [sameKey_key]; simp⟩
  · intro j hj hl2
    rw [sameKey_key] at hl2
    by_cases e : j = k
    · subst e; simp
    · have : left (key j) = false := by simpa [e] using hl2
      exact List.mem_append.2 (.inl (h.out j hj this))

theorem mem_present {M : List (Option S38)} {x : Int} : x ∈ present M ↔ ∃ k : Nat, x = k ∧ (M.getD k none).isSome = true := by
  unfold present
  simp only [List.mem_map, List.mem_filter, List.mem_range]
  constructor
  · rintro ⟨k, ⟨h1, h2⟩, rfl⟩
    exact ⟨k, rfl, h2⟩
  · rintro ⟨k, rfl, h2⟩
    refine ⟨k, ⟨?_, h2⟩, rfl⟩
    rcases Nat.lt_or_ge k M.length with h | h
    · exact h
    · rw [List.getD_eq_getElem?_getD, List.getElem?_eq_none h] at h2
      cases h2

theorem present_lt {M : List (Option S38)} : (present M).Pairwise (· < ·) := by
  unfold present
  rw [List.pairwise_map]
  refine List.Pairwise.filter _ ?_
  exact List.pairwise_lt_range.imp (fun h => by omega)

theorem present_nodup {M : List (Option S38)} : (present M).Nodup := present_lt.imp (fun h => by omega)

theorem present_length {M : List (Option S38)} : (present M).length ≤ M.length := by
  unfold present
  rw [List.length_map]
  exact Nat.le_trans (List.length_filter_le _ _) (by simp)

theorem Coll.sorted {M : List (Option S38)} {left : Lit → Bool} {ss : List Int} (h : Coll M left ss) (hl : ∀ kl, left kl = false) : ss.mergeSort leI = present M := by
  have tr : ∀ a b c : Int, leI a b = true → leI b c = true → leI a c = true := fun a b c h1 h2 => by simp only [leI, decide_eq_true_eq] at *; omega
  have tot : ∀ a b : Int, (leI a b || leI b a) = true := fun a b => by simp only [leI, Bool.or_eq_true, decide_eq_true_eq]; omega
  have hp : ss.Perm (present M) := (List.perm_ext_iff_of_nodup h.nd present_nodup).2 fun x => by
    rw [mem_present]
    constructor
    · intro hx
      obtain ⟨k, e, h2, _⟩ := h.inn x hx
      exact ⟨k, e, h2⟩
    · rintro ⟨k, rfl, h2⟩
      exact h.out k h2 (hl _)
  refine List.Perm.eq_of_pairwise (le := fun a b => leI a b = true) (fun a b _ _ h1 h2 => ?_) (List.pairwise_mergeSort tr tot ss) (present_lt.imp (fun h => by simp only [leI, decide_eq_true_eq]; omega)) ((List.mergeSort_perm ss leI).trans hp)
  simp only [leI, decide_eq_true_eq] at h1 h2
  omega

/-- the map from a row's entries to their places, of the first i -/
def numD (r : List Int) : Nat → D1
  | 0 => .map []
  | i + 1 => (numD r i).put (.int .i64 (r.getD i 0)) (.lit (.int .i64 (i : Int)))
theorem put_isMap {D : D1} (h : IsMap D) {k : Lit} {d : D1} : IsMap (D.put k d) := by
  obtain ⟨es, rfl⟩ := h
  exact ⟨_, rfl⟩
theorem numD_map (r : List Int) (i : Nat) : IsMap (numD r i) := by
  cases i with
  | zero => exact ⟨_, rfl⟩
  | succ i =>
    obtain ⟨es, h⟩ := numD_map r i
    exact put_isMap ⟨es, h⟩
theorem nodup_getD {r : List Int} (hn : r.Nodup) {i j : Nat} (hi : i < r.length) (hj : j < r.length) (e : r.getD i 0 = r.getD j 0) : i = j := by
  rw [List.getD_eq_getElem?_getD, List.getD_eq_getElem?_getD, List.getElem?_eq_getElem hi, List.getElem?_eq_getElem hj] at e
  exact (List.getElem_inj hn).1 e
theorem numD_at (r : List Int) (hn : r.Nodup) : ∀ i, i ≤ r.length → ∀ j, j < i → ∀ z, (numD r i).atKey (.int .i64 (r.getD j 0)) z = .lit (.int .i64 (j : Int)) := by
  intro i
  induction i with
  | zero => intro _ j hj; omega
  | succ i ih =>
    intro hi j hj z
    show ((numD r i).put (.int .i64 (r.getD i 0)) (.lit (.int .i64 (i : Int)))).atKey (.int .i64 (r.getD j 0)) z = _
    by_cases e : j = i
    · subst e
      exact atKey_put_same (k := Lit.int .i64 (r.getD j 0)) (numD_map r j) trivial _ _
    · rw [atKey_put_other]
      · exact ih (by omega) j (by omega) z
      · intro h
        simp only [Lit.int.injEq, true_and] at h
        exact e (nodup_getD hn (by omega) (by omega) h)

/-- the place of a root among the keys -/
def rank (M : List (Option S38)) (x : Int) : Int := (((present M).idxOf x : Nat) : Int)
def outs (M : List (Option S38)) : List S38 := (present M).map fun k => (M.getD k.toNat none).getD z38
/-- the labels as numbers -/
def renum (M : List (Option S38)) (rt : List Int) (l : Int) : Int := if 0 ≤ l then rank M (rt.getD l.toNat 0) else l
theorem rank_at {M : List (Option S38)} {k : Nat} (h : (M.getD k none).isSome = true) : ∃ j : Nat, rank M k = j ∧ j < (present M).length ∧ (present M).getD j 0 = k := by
  have hm : (k : Int) ∈ present M := mem_present.2 ⟨k, rfl, h⟩
  have hl := List.idxOf_lt_length_of_mem hm
  refine ⟨_, rfl, hl, ?_⟩
  rw [List.getD_eq_getElem?_getD, List.getElem?_eq_getElem hl, Option.getD_some, List.getElem_idxOf]
end Go.Proofs.Ytahibhipffojlaa.Num
/- slices.Sort at a row of the call's own. -/
set_option linter.unusedSimpArgs false
set_option linter.unusedVariables false
namespace Go.Proofs.Ytahibhipffojlaa.Num
open Go.RowKit Go.Shelf Go.Proofs.YtahibhipffojlaaW.PrintLast Go.Proofs.YtahibhipffojlaaW.PrintWords Go.Proofs.YtahibhipffojlaaW.PrintMore Go.Proofs.Ytahibhipffojlaa.M
def laysSort_ren : Go.Shelf.Ren := ⟨fun | 189 => 54 | 125 => 57 | 257 => 56 | 128 => 67 | 129 => 68 | 294 => 58 | 295 => 59 | 296 => 60 | 297 => 61 | 298 => 62 | 299 => 63 | 216 => 64 | 300 => 65 | 301 => 66 | 328 => 69 | 329 => 70 | 330 => 71 | 331 => 72 | 332 => 73 | 215 => 74 | 343 => 75 | n => n, fun | 28 => 27 | 3 => 3 | 46 => 80 | 0 => 0 | 51 => 90 | 53 => 92 | 4 => 4 | 183 => 83 | 182 => 82 | 131 => 87 | 5 => 5 | 9 => 9 | 218 => 93 | 222 => 97 | 228 => 100 | 229 => 101 | n => n, fun | n => n⟩
theorem laysSort : Go.Proofs.Lays.n189 Try.prog laysSort_ren where
  mixed := by kernel_rfl
  f125 := Try.func57.trans (congrArg some (by kernel_rfl))
  f128 := Try.func67.trans (congrArg some (by kernel_rfl))
  f129 := Try.func68.trans (congrArg some (by kernel_rfl))
  f189 := Try.func54.trans (congrArg some (by kernel_rfl))
  f215 := Try.func74.trans (congrArg some (by kernel_rfl))
  f216 := Try.func64.trans (congrArg some (by kernel_rfl))
  f257 := Try.func56.trans (congrArg some (by kernel_rfl))
  f294 := Try.func58.trans (congrArg some (by kernel_rfl))
  f295 := Try.func59.trans (congrArg some (by kernel_rfl))
  f296 := Try.func60.trans (congrArg some (by kernel_rfl))
  f297 := Try.func61.trans (congrArg some (by kernel_rfl))
  f298 := Try.func62.trans (congrArg some (by kernel_rfl))
  f299 := Try.func63.trans (congrArg some (by kernel_rfl))
  f300 := Try.func65.trans (congrArg some (by kernel_rfl))
  f301 := Try.func66.trans (congrArg some (by kernel_rfl))
  f328 := Try.func69.trans (congrArg some (by kernel_rfl))
  f329 := Try.func70.trans (congrArg some (by kernel_rfl))
  f330 := Try.func71.trans (congrArg some (by kernel_rfl))
  f331 := Try.func72.trans (congrArg some (by kernel_rfl))
  f332 := Try.func73.trans (congrArg some (by kernel_rfl))
  f343 := Try.func75.trans (congrArg some (by kernel_rfl))
  t0 := Try.underlying0
  a0 := Try.isAgg0
  z0 := Try.sizeOf0
  v0 := Try.zeroValue0
  t3 := Try.underlying3
  a3 := Try.isAgg3
  z3 := Try.sizeOf3
  v3 := Try.zeroValue3
  t4 := Try.underlying4
  a4 := Try.isAgg4
  z4 := Try.sizeOf4
  v4 := Try.zeroValue4
  t5 := Try.underlying5
  a5 := Try.isAgg5
  z5 := Try.sizeOf5
  v5 := Try.zeroValue5
  t9 := Try.underlying9
  a9 := Try.isAgg9
  z9 := Try.sizeOf9
  v9 := Try.zeroValue9
  t28 := Try.underlying27
  a28 := Try.isAgg27
  z28 := Try.sizeOf27
  v28 := Try.zeroValue27
  t46 := Try.underlying80
  a46 := Try.isAgg80
  z46 := Try.sizeOf80
  v46 := Try.zeroValue80
  t51 := Try.underlying90
  a51 := Try.isAgg90
  z51 := Try.sizeOf90
  v51 := Try.zeroValue90
  t53 := Try.underlying92
  a53 := Try.isAgg92
  z53 := Try.sizeOf92
  v53 := Try.zeroValue92
  t131 := Try.underlying87
  a131 := Try.isAgg87
  z131 := Try.sizeOf87
  v131 := Try.zeroValue87
  t182 := Try.underlying82
  a182 := Try.isAgg82
  z182 := Try.sizeOf82
  v182 := Try.zeroValue82
  t183 := Try.underlying83
  a183 := Try.isAgg83
  z183 := Try.sizeOf83
  v183 := Try.zeroValue83
  t218 := Try.underlying93
  a218 := Try.isAgg93
  z218 := Try.sizeOf93
  v218 := Try.zeroValue93
  t222 := Try.underlying97
  a222 := Try.isAgg97
  z222 := Try.sizeOf97
  v222 := Try.zeroValue97
  t228 := Try.underlying100
  a228 := Try.isAgg100
  z228 := Try.sizeOf100
  v228 := Try.zeroValue100
  t229 := Try.underlying101
  a229 := Try.isAgg101
  z229 := Try.sizeOf101
  v229 := Try.zeroValue101
theorem sort_own {w : World} {base : Nat} {v : Value} {xs : List Int} (HR : Kd.R (Kd.int .i64) 3 w base (fun _ => True) v xs) (hl : xs.length < 4611686018427387904) :
    Calls Try.prog 54 #[v] w fun e w' => e = .returned (.tuple #[]) ∧ Kd.R (Kd.int .i64) 3 w' base (fun _ => True) v (xs.mergeSort fun x y => decide (x ≤ y)) ∧ w.grownBy w' v.ownBlock := by
  rcases Nat.eq_zero_or_pos xs.length with h0 | hp
  · obtain ⟨A, c, e⟩ := Kd.R_slice HR
    have hx : xs = [] := List.length_eq_zero_iff.1 h0
    subst hx
    subst e
    refine (Any.slices_Sort_int_none laysSort A c w).mono ?_
    rintro e w' ⟨rfl, rfl⟩
    exact ⟨rfl, by rw [List.mergeSort_nil]; exact HR, rfl, rfl, rfl, Nat.le_refl _, fun _ _ _ => rfl⟩
  · have ho := Kd.own_of_R HR
    rcases ho.2 with ⟨_, h2⟩ | ⟨g, cap, cur, rfl, hg, hb, h1, h2, h3, h4⟩
    · omega
    · have hlt : g < w.heap.size := blk_lt hb
      have hH : Go.Sort.Holds (Value.int .i64) w g 0 xs.toArray := holds_of_blockI hb (by rw [Nat.mul_one] at h4; exact h4)
      refine (Any.slices_Sort_int laysSort g 0 cap xs w hH hlt hl).mono ?_
      rintro e w' ⟨rfl, n, os, rfl⟩
      refine ⟨rfl, ?_, grownBy_sortedI _⟩
      have hlen : (xs.mergeSort fun x y => decide (x ≤ y)).length = xs.length := List.length_mergeSort xs
      refine Kd.R_of_own (enc := Value.int .i64) ?_ (fun _ _ => trivial)
      rw [hlen]
      exact ownsRow_sortedI hlen hg hb h1 h2 h3
end Go.Proofs.Ytahibhipffojlaa.Num
/- components.numbered gives the components their numbers. -/
set_option linter.unusedSimpArgs false
set_option linter.unusedVariables false
namespace Go.Proofs.Ytahibhipffojlaa.Num
open Go.RowKit Go.Maps Go.Proofs.YtahibhipffojlaaW.PrintLast Go.Proofs.YtahibhipffojlaaW.PrintWords Go.Proofs.YtahibhipffojlaaW.PrintMore Go.Proofs.Ytahibhipffojlaa.Walk Go.Proofs.Ytahibhipffojlaa.M Go.Proofs.Ytahibhipffojlaa.Uf Go.Proofs.Ytahibhipffojlaa.Find Go.Proofs.Ytahibhipffojlaa.Map Go.Proofs.Ytahibhipffojlaa.Unite

def intV : Value → Int
  | .int _ z => z
  | _ => 0
theorem step_i {i : Nat} (h : i < 1000000000) : wrap64 ((i : Int) + 1) = ((i + 1 : Nat) : Int) := by
  unfold wrap64
  omega
theorem meas_i {i n : Nat} (h : i < n) : n - (intV (.int .i64 ((i + 1 : Nat) : Int))).toNat < n - (intV (.int .i64 (i : Int))).toNat := by
  show n - ((i + 1 : Nat) : Int).toNat < n - (i : Int).toNat
  omega
theorem ranges_iter {w : World} {b r n cnt : Nat} {D : D1} {left : Lit → Bool} (hr : w.ranges Try.prog 3 blobR b r n D left cnt) (cs : Array Value) (t : TypeId) : w.heap[r]? ≠ some (.cells cs t (0, 0)) := by
  obtain ⟨es, clock, since, seen, c0, h1, h2, h3, h4, h5, _⟩ := hr
  rw [h5]
  intro e
  cases e
theorem ranges_map {w : World} {b r n cnt : Nat} {D : D1} {left : Lit → Bool} (hr : w.ranges Try.prog 3 blobR b r n D left cnt) (cs : Array Value) (t : TypeId) : w.heap[b]? ≠ some (.cells cs t (0, 0)) := by
  obtain ⟨es, clock, since, seen, c0, h1, _⟩ := hr
  rw [h1]
  intro e
  cases e
theorem ownsMap_cells {R : Value → Option (D1 × List MemPlace)} {w : World} {b n : Nat} {D : D1} (h : w.ownsMap Try.prog 3 R b n D) (cs : Array Value) (t : TypeId) : w.heap[b]? ≠ some (.cells cs t (0, 0)) := by
  obtain ⟨es, clock, h1, _⟩ := h
  rw [h1]
  intro e
  cases e
theorem R_own_ne {α : Type} {d : Kd α} {e base : Nat} {ok : Nat → Prop} {w : World} {v : Value} {xs : List α} {b : Nat} (h : Kd.R d e w base ok v xs) (hb : ∀ cs t, w.heap[b]? ≠ some (.cells cs t (0, 0))) : some b ≠ v.ownBlock := by
  intro e
  obtain ⟨cells, hc⟩ := Kd.R_typed h b e.symm
  exact hb _ _ hc
theorem R_bmap {α : Type} {d : Kd α} {e base : Nat} {w w1 : World} {v : Value} {xs : List α} {b : Nat} (h : Kd.R d e w base (fun _ => True) v xs) (hb : ∀ cs t, w.heap[b]? ≠ some (.cells cs t (0, 0))) (hg : w.grownBy w1 (some b)) : Kd.R d e w1 base (fun _ => True) v xs :=
  Kd.R_mono (Kd.R_grown (Kd.R_bound h) hg (fun k hk => by
    rintro e
    injection e with e
    subst e
    obtain ⟨_, _, _, q, _, cells, hc⟩ := hk
    exact hb _ _ hc)) (fun _ _ => trivial)
theorem R_iter {α : Type} {d : Kd α} {e base : Nat} {w w1 : World} {v : Value} {xs : List α} {b r n cnt : Nat} {D : D1} {left : Lit → Bool} (h : Kd.R d e w base (fun _ => True) v xs) (hr : w.ranges Try.prog 3 blobR b r n D left cnt) (hg : w.grownBy w1 (some r)) : Kd.R d e w1 base (fun _ => True) v xs :=
  R_bmap h (ranges_iter hr) hg

theorem R_old {α : Type} {d : Kd α} {e base g : Nat} {w w1 : World} {v : Value} {xs : List α} (h : Kd.R d e w base (fun _ => True) v xs) (hg : w.grownBy w1 (some g)) (hb : g < base) : Kd.R d e w1 base (fun _ => True) v xs :=
  Kd.R_mono (Kd.R_grown (Kd.R_bound h) hg (fun k hk => by
    rintro e
    injection e with e
    have := hk.2.1
    omega)) (fun _ _ => trivial)
theorem num_look {w : World} {bn : Nat} {r : List Int} (h : w.ownsMap Try.prog 3 (plainElem Try.prog 3) bn r.length (numD r r.length)) (hnd : r.Nodup) (j : Nat) (hj : j < r.length) (k : Nat) (hk : k ≤ 1000000000) (hx : r.getD j 0 = k) :
    (Instr.lookup 76 (.map (some bn)) (.int .i64 (k : Int)) false).run Try.prog w = .ok (.int .i64 (j : Int)) w := by
  obtain ⟨c, hrun, hc, _⟩ := h.lookup_int law3 Try.underlying76 Try.underlying3 (Try.zeroValue3 w) (keyOf3 k hk)
  have h1 := numD_at r hnd r.length (Nat.le_refl _) j hj (.lit (.int .i64 0))
  rw [hx] at h1
  have h2 : (DataW.lit (.int .i64 (j : Int)) : D1) = .lit (.int .i64 c) := h1.symm.trans hc
  injection h2 with h2
  injection h2 with _ h2
  rw [h2]
  exact hrun
theorem vals_step (ls : List Int) (f : Int → Int) (i : Nat) (hi : i < ls.length) (j : Int) {l : Int} (hl : ls[i]? = some l) (hf : f l = j) :
    vals ((ls.take (i + 1)).map f ++ ls.drop (i + 1)) = (vals ((ls.take i).map f ++ ls.drop i)).set i (.int .i64 j) := by
  subst hf
  rw [vals_set]
  congr 1
  have h1 : ls.drop i = l :: ls.drop (i + 1) := by
    rw [List.drop_eq_getElem_cons hi]
    rw [List.getElem?_eq_getElem hi] at hl
    injection hl with hl
    rw [hl]
  rw [h1, List.take_add_one, hl, List.set_append_right _ _ (by simp; omega)]
  simp [show i - min i ls.length = 0 by omega]
theorem vals_keep (ls : List Int) (f : Int → Int) (i : Nat) (hi : i < ls.length) (l : Int) (hl : ls[i]? = some l) (hf : f l = l) :
    vals ((ls.take (i + 1)).map f ++ ls.drop (i + 1)) = vals ((ls.take i).map f ++ ls.drop i) := by
  congr 1
  have h1 : ls.drop i = l :: ls.drop (i + 1) := by
    rw [List.drop_eq_getElem_cons hi]
    rw [List.getElem?_eq_getElem hi] at hl
    injection hl with hl
    rw [hl]
  rw [h1, List.take_add_one, hl]
  simp [hf]
theorem _root_.Go.Proofs.Ytahibhipffojlaa.Unite.Luw.stored_ {base : Nat} {w w' : World} {bp bf bb bm g n cap c gl : Nat} {p rt : List Int} {M : List (Option S38)} {cs : Array Value} (L : Luw base w bp bf bb bm g n cap c p rt M) (hcs : w.heap[gl]? = some (.cells cs 3 (0, 0))) (hne : gl ≠ g) (hg : w.grownBy w' (some gl)) :
    Luw base w' bp bf bb bm g n cap c p rt M := by
  have hx : ∀ {b : Nat} {cs' : Array Value} {t : TypeId}, w.heap[b]? = some (.cells cs' t (0, 0)) → t ≠ 3 → some b ≠ some gl := by
    intro b cs' t h ht e
    injection e with e
    subst e
    rw [hcs] at h
    injection h with h
    injection h with _ h
    exact ht h.symm
  have hm : some bm ≠ some gl := fun e => L.m.isCells hcs (by injection e)
  exact L.kept_ hg (hx L.U.hp (by decide)) (hx L.U.hf (by decide)) (hx L.hb (by decide)) (fun e => hne (by injection e with e; exact e.symm)) (L.m.kept hg hm) L.ml

set_option maxRecDepth 100000 in
set_option maxHeartbeats 1000000 in
theorem numbered_any (base : Nat) (w : World) (bp bf bb bm g n cap c gl m capl : Nat) (rt : List Int) (M : List (Option S38)) (ls : List Int) (hc9 : c ≤ 1000000000) (hn9 : n ≤ 1000000000)
    (L : 0 < n → ∃ p, Luw base w bp bf bb bm g n cap c p rt M) (Lm : MapAt w bm c M) (ml : M.length = n) (HL : w.ownsRow base 3 1 (.slice (some ⟨gl, 0, none⟩) m capl) m (vals ls)) (hm : ls.length = m) (hm9 : m ≤ 900000000) (hne : gl ≠ g)
    (hin : ∀ l ∈ ls, 0 ≤ l → l < n ∧ (M.getD (rt.getD l.toNat 0).toNat none).isSome = true) :
    Calls Try.prog 50 #[.slice (some ⟨gl, 0, none⟩) m capl, .map (some bm), .func (.func 46) #[] #[.pointer (some ⟨bp, 0, none⟩), .pointer (some ⟨bf, 0, none⟩)]] w fun e w' =>
      ∃ v : Value, e = .returned (.tuple #[.slice (some ⟨gl, 0, none⟩) m capl, v]) ∧ w'.ownsRow base 3 1 (.slice (some ⟨gl, 0, none⟩) m capl) m (vals (ls.map (renum M rt))) ∧
        Kd.R k38 38 w' w.heap.size (fun _ => True) v (outs M) ∧ Chg w w' (fun i => i = g ∨ i = gl) := by
  obtain ⟨D, nD, hnD, hown, hrel⟩ : ∃ D nD, nD ≤ c ∧ w.ownsMap Try.prog 3 blobR bm nD D ∧ MRel M D := by
    obtain ⟨nD, D, h1, h2, h3⟩ := Lm
    exact ⟨D, nD, h1, h2, h3⟩
  have hbm := hown.lt
  have HLu := Lib.hid L
  have HLm := Lib.hid Lm
  have HLr := Lib.hid HL
  have HIN := Lib.hid hin
  have HOWN := Lib.hid hown
  have HREL := Lib.hid hrel
  have HGB : Hid (0 < n → g < w.heap.size) := Lib.hid (fun hn => by obtain ⟨p, L⟩ := HLu.out hn; obtain ⟨cs, h⟩ := L.gcells; exact blk_lt h)
  have HGLB : Hid (gl < w.heap.size) := Lib.hid (by obtain ⟨cs, h⟩ := own_typed HLr.out gl rfl; exact blk_lt h)
  have HSD : Hid (Maps.size D ≤ 3000000000) := Lib.hid (by have := HOWN.out.size_le; omega)
  clear L Lm HL hin hown hrel
  go_enter Try.func50, Try.ntmps50
  go_wp2_with (first
    | (at_range; refine wpList_range_own _ rfl _ 66 rfl 3 38 law3 Try.underlying66 _ bm nD _ rfl HOWN.out ?_; intro w0 hrg0 hg0 hs0))
  go_frame
  go_loopw [8] (fun u8 wr => ∃ (left : Lit → Bool) (cnt : Nat) (ss : List Int), wr.ranges Try.prog 3 blobR bm w.heap.size nD D left cnt ∧ Coll M left ss ∧ Kd.R (Kd.int .i64) 3 wr w.heap.size (fun _ => True) u8 ss ∧ Below w.heap.size w wr ∧ w.heap.size < wr.heap.size ∧ ss.length + cnt ≤ Maps.size D)
    (fun _ wr => wr.rangeLeft bm w.heap.size)
  case atStart =>
    exact ⟨_, _, [], hrg0, Coll.start HREL.out, Kd.R_nil _ _ _ _ _, (Below.refl _ _).grown hg0 (by simp) (fun j hj => by cases hj), by omega, by simp⟩
  case round =>
    obtain ⟨left, cnt, ss, hrg, hC, hR, hB, hsz, hcl⟩ := hrel
    have HC := Lib.hid hC
    have HR := Lib.hid hR
    have HB := Lib.hid hB
    have HSZ := Lib.hid hsz
    have HCL := Lib.hid hcl
    clear hC hR hB hsz hcl
    go_wp2_with (first
      | (at_next; refine wpList_next_ranges _ rfl _ rfl 3 law3 blobR (Value.int .i64) bval (fun key kl hk => by obtain ⟨x, hx, _⟩ := Maps.keyOf_int_inv Try.underlying3 hk; exact ⟨x, hx⟩) (fun v y hv => by obtain ⟨b, e, _⟩ := blobR_inv hv; exact ⟨b, e⟩) bm w.heap.size nD _ _ _ rfl hrg ?_ ?_))
    · intro hc0 hl0
      go_wp2_with fail
      refine (sort_own HR.out (by have := HCL.out; have := HSD.out; omega)).mono ?_
      rintro e w4 ⟨rfl, hR4, hg4⟩
      rw [HC.out.sorted hl0] at hR4
      generalize hr : present M = r at *
      have HRN : Hid (r.length ≤ 1000000000) := Lib.hid (by have h1 := present_length (M := M); rw [hr] at h1; omega)
      have HRV := Lib.hid hr
      obtain ⟨A8, c8, e8⟩ := Kd.R_slice hR4
      subst e8
      have HR4 := Lib.hid hR4
      have HB4 := Lib.hid (HB.out.grown hg4 (Nat.le_of_lt HSZ.out) (fun j hj => Kd.R_base HR.out j hj))
      have HZ4 := Lib.hid (Nat.lt_of_lt_of_le HSZ.out hg4.size)
      clear hR4 hg4 hr
      have hmm := @run_makeMap Try.prog
      go_wp2_with fail
      clear hmm
      have HR5 := Lib.hid (Kd.R_alloc HR4.out (.map #[] 0))
      have HB5 := Lib.hid (HB4.out.alloc (Nat.le_of_lt HZ4.out) (.map #[] 0))
      have HN5 := Lib.hid (World.ownsMap_made (H := Unit) w4 Try.prog 3 (plainElem Try.prog 3))
      have HZ5 : Hid (w.heap.size < (w4.alloc (.map #[] 0)).heap.size) := Lib.hid (by have := HZ4.out; simp; omega)
      have HZ6 : Hid (w.heap.size < w4.heap.size) := HZ4
      generalize w4.heap.size = bn at *
      generalize (w4.alloc (.map #[] 0)) = w5 at *
      go_loopw [31, 11] (fun u31 u11 wr => ∃ i : Nat, u31 = .int .i64 (i : Int) ∧ i ≤ r.length ∧ wr.ownsMap Try.prog 3 (plainElem Try.prog 3) bn i (numD r i) ∧ Kd.R k38 38 wr w.heap.size (fun _ => True) u11 ((r.take i).map fun k => (M.getD k.toNat none).getD z38) ∧
          Kd.R (Kd.int .i64) 3 wr w.heap.size (fun _ => True) (.slice A8 r.length c8) r ∧ Below w.heap.size w wr ∧ w.heap.size < wr.heap.size) (fun u31 _ _ => r.length - (intV u31).toNat)
      case atStart =>
        exact ⟨0, rfl, Nat.zero_le _, HN5.out, Kd.R_nil _ _ _ _ _, HR5.out, HB5.out, HZ5.out⟩
      case round =>
        obtain ⟨i, rfl, hir, hN, hO, hR, hB, hZ⟩ := hrel
        have HN := Lib.hid hN
        have HO := Lib.hid hO
        have HR := Lib.hid hR
        have HB := Lib.hid hB
        have HZ := Lib.hid hZ
        clear hN hO hR hB hZ
        rcases Nat.lt_or_ge i r.length with hlt | hge
        · have hlt' : (i : Int) < (r.length : Int) := by omega
          have hi0 : (0 : Int) ≤ (i : Int) := Int.natCast_nonneg _
          obtain ⟨g8, cap8, e8, _, _, _⟩ := Kd.R_form HR.out (by omega)
          have e8' : A8 = some ⟨g8, 0, none⟩ := by injection e8
          subst e8'
          obtain ⟨x, hx⟩ : ∃ x, r.getD i 0 = x := ⟨_, rfl⟩
          have hc8 : wr.cell? ⟨g8, i, none⟩ = some (.int .i64 x) := by
            have h := (Kd.R_cell (enc := Value.int .i64) 0 HR.out (i : Int) hi0 hlt').1
            rw [Int.toNat_natCast] at h
            rw [h, ← hx]
            unfold rdOf
            rw [Int.toNat_natCast]
          have HX := Lib.hid hx
          clear hx e8
          have hxm : x ∈ r := by rw [← HX.out, List.getD_eq_getElem?_getD, List.getElem?_eq_getElem hlt]; exact List.getElem_mem hlt
          obtain ⟨k, hk, hks⟩ := mem_present.1 (HRV.out ▸ hxm)
          have hkM : k < M.length := by
            rcases Nat.lt_or_ge k M.length with h | h
            · exact h
            · rw [List.getD_eq_getElem?_getD, List.getElem?_eq_none h] at hks
              cases hks
          have hkn : Hid (k ≤ 1000000000) := Lib.hid (by omega)
          obtain ⟨b, hb⟩ := Option.isSome_iff_exists.1 hks
          have HBK := Lib.hid hb
          subst hk
          clear hb hks hxm
          have hin9 : Hid (i < 1000000000) := Lib.hid (by have := HRN.out; omega)
          go_wp2_with (first | (at_mapUpdate; refine wpList_mapUpdate_own _ rfl _ _ _ 76 rfl 3 3 law3 Try.underlying76 _ bn i _ rfl HN.out (by have := hin9.out; unfold maxLen; omega) _ _ _ rfl rfl (keyOf3 k hkn.out) _ [] (plainElem_int Try.underlying3 (WalkArith.wf_i64 (by have := hin9.out; omega))) ?_; intro w2 hN2 hg2; have HN2 := Lib.hid hN2; have HG2 := Lib.hid hg2; clear hN2 hg2; have HB2 := Lib.hid (HB.out.grown HG2.out (Nat.le_of_lt HZ.out) (fun j hj => by injection hj with hj; subst hj; exact Nat.le_of_lt HZ6.out)); have hlk : (Instr.lookup 66 (.map (some bm)) (.int .i64 (k : Int)) false).run Try.prog w2 = .ok (.agg #[.int .i64 b.f0.f0, .int .i64 b.f0.f1, .int .i64 b.f0.f2, .int .i64 b.f0.f3, .int .i64 b.f1, .int .i64 b.f2.f0, .int .i64 b.f2.f1]) w2 := (HLm.out.below HB2.out hbm).look k hkn.out b HBK.out; have HNC := Lib.hid (ownsMap_cells HN2.out); have HO2 := Lib.hid (R_bmap HO.out (ownsMap_cells HN.out) HG2.out); have HR2 := Lib.hid (R_bmap HR.out (ownsMap_cells HN.out) HG2.out); have HZ2 := Lib.hid (Nat.lt_of_lt_of_le HZ.out HG2.out.size); have HLN : Hid ((List.map (fun k => (M.getD k.toNat none).getD z38) (List.take i r)).length ≤ 1000000000) := Lib.hid (by have := hin9.out; simp; omega); generalize hxs : List.map (fun k => (M.getD k.toNat none).getD z38) (List.take i r) = xs at *; have HXS := Lib.hid hxs; clear hxs) | ((with_reducible refine gate_builtin (b := .append) (xs := #[.tmp 39, .tmp 43]) rfl ?_); at_builtin; refine Kd.R_append k38 (w0 := w) w.heap.size rfl (.tmp 39) (.tmp 43) 28 38 (.agg #[(.int .i64 0), (.int .i64 0), (.int .i64 0), (.int .i64 0), (.int .i64 0), (.int .i64 0), (.int .i64 0)]) 56 rfl Try.underlying28 info38 rfl (by decide) (by omega) u11 xs b [.int .i64 b.f0.f0, .int .i64 b.f0.f1, .int .i64 b.f0.f2, .int .i64 b.f0.f3, .int .i64 b.f1, .int .i64 b.f2.f0, .int .i64 b.f2.f1] (fun _ => True) (fun _ => False) rfl rfl ?aP (fun _ hk => hk.elim) ?aF ?aO ?aB ?aS ?aL ?_; (case aP => exact k38_mkM _ _ _ b); (case aF => exact (fun _ _ => trivial)); (case aO => exact HO2.out); (case aB => exact HB2.out); (case aS => exact Nat.le_of_lt HZ2.out); (case aL => have := HLN.out; omega); intro v3 w3 ho hb hg hat3; have HO3 := Lib.hid ho; have HB3 := Lib.hid hb; have HG3 := Lib.hid hg; clear ho hb hg hat3))
          go_wp2_with fail
          have e1 := step_i hin9.out
          rw [e1]
          have eD : numD r (i + 1) = (numD r i).put (key k) (.lit (.int .i64 (i : Int))) := by
            show (numD r i).put (.int .i64 (r.getD i 0)) _ = _
            rw [HX.out]; rfl
          refine ⟨⟨i + 1, rfl, hlt, eD ▸ HN2.out.kept HG3.out (R_own_ne HO2.out HNC.out), ?_, Kd.R_over HR2.out HO2.out (by decide) HG3.out, HB3.out, Nat.lt_of_lt_of_le HZ2.out HG3.out.size⟩, ?_⟩
          · have e2 : List.map (fun k => (M.getD k.toNat none).getD z38) (List.take (i + 1) r) = xs ++ [b] := by
              have hx := HX.out
              rw [List.getD_eq_getElem?_getD, List.getElem?_eq_getElem hlt, Option.getD_some] at hx
              rw [List.take_add_one, List.map_append, HXS.out, List.getElem?_eq_getElem hlt, hx]
              simp only [Option.toList_some, List.map_cons, List.map_nil, Int.toNat_natCast, HBK.out, Option.getD_some]
            rw [e2]
            exact HO3.out
          · exact meas_i hlt
        · have hlt' : ¬ (i : Int) < (r.length : Int) := by omega
          obtain rfl : i = r.length := by omega
          have HOO : Hid (Kd.R k38 38 wr w.heap.size (fun _ => True) u11 (outs M)) := Lib.hid (by
            have h := HO.out
            rw [List.take_of_length_le (Nat.le_refl _)] at h
            unfold outs
            rw [HRV.out]
            exact h)
          go_wp2_with fail
          go_loopw [48] (fun u48 w5 => ∃ (i : Nat), u48 = .int .i64 (i : Int) ∧ i ≤ m ∧ (0 < n → ∃ p', Luw base w5 bp bf bb bm g n cap c p' rt M) ∧ w5.ownsRow base 3 1 (.slice (some ⟨gl, 0, none⟩) m capl) m (vals ((ls.take i).map (renum M rt) ++ ls.drop i)) ∧
              w5.ownsMap Try.prog 3 (plainElem Try.prog 3) bn r.length (numD r r.length) ∧ Kd.R k38 38 w5 w.heap.size (fun _ => True) u11 (outs M) ∧ Chg w w5 (fun i => i = g ∨ i = gl)) (fun u48 _ => m - (intV u48).toNat)
          case atStart =>
            refine ⟨0, rfl, Nat.zero_le _, fun hn => (by obtain ⟨p, L⟩ := HLu.out hn; exact ⟨p, L.below0 HB.out⟩), ?_, HN.out, HOO.out, Chg.of_below HB.out⟩
            have h := HLr.out.kept (row := none) ⟨HB.out.os, HB.out.tape, HB.out.output, HB.out.size, fun i hi _ => HB.out.block i hi⟩ (by simp [Value.ownBlock])
            simpa using h
          case round =>
            obtain ⟨i, rfl, hir, hL, hl, hN, hO, hC⟩ := hrel
            have HL5 := Lib.hid hL
            have HLR := Lib.hid hl
            have HN5' := Lib.hid hN
            have HO5 := Lib.hid hO
            have HC5 := Lib.hid hC
            clear hL hl hN hO hC
            rcases Nat.lt_or_ge i m with hlt | hge
            · have hlt' : (i : Int) < (m : Int) := by omega
              have hi0 : (0 : Int) ≤ (i : Int) := Int.natCast_nonneg _
              obtain ⟨l, hl⟩ : ∃ l, ls[i]? = some l := ⟨_, List.getElem?_eq_getElem (by omega)⟩
              have hcl : wr.cell? ⟨gl, i, none⟩ = some (.int .i64 l) := by
                rw [HLR.out.cellAt i (by omega)]
                unfold vals
                rw [List.getElem?_map, List.getElem?_append_right (by simp; omega)]
                simp only [List.length_map, List.length_take, List.getElem?_drop]
                rw [show min i ls.length = i by omega, Nat.sub_self, Nat.add_zero, hl]
                rfl
              have HLV := Lib.hid hl
              clear hl
              have hlm : l ∈ ls := List.mem_of_getElem? HLV.out
              by_cases h0 : 0 ≤ l
              · obtain ⟨a, rfl⟩ := Int.eq_ofNat_of_zero_le h0
                have hin' := HIN.out _ hlm h0
                rw [Int.toNat_natCast] at hin'
                have han : a < n := by omega
                obtain ⟨p', hLp⟩ := HL5.out (by omega)
                obtain ⟨gs, hgs⟩ := hLp.gcells
                have hgx := Lib.hid hgs
                clear hgs
                have HLp := Lib.hid hLp
                clear hLp
                have HGB' : Hid (g < w.heap.size) := Lib.hid (HGB.out (by omega))
                have hrn : rt.length = n := by rw [← HLp.out.P.len, HLp.out.U.len]
                have hro := roots_of HLp.out.P a (by omega)
                obtain ⟨ra, hra⟩ : ∃ x, rt.getD a 0 = x := ⟨_, rfl⟩
                rw [hra] at hin' hro
                obtain ⟨k, rfl⟩ := Int.eq_ofNat_of_zero_le hro.1
                rw [Int.toNat_natCast] at hin'
                have hk9 : k ≤ 1000000000 := by omega
                obtain ⟨j, hj1, hj2, hj3⟩ := rank_at hin'.2
                rw [HRV.out] at hj2 hj3
                have hnd : r.Nodup := HRV.out ▸ present_nodup
                have HRA := Lib.hid hra
                have HJ1 := Lib.hid hj1
                have HJ3 := Lib.hid hj3
                have HHN := Lib.hid han
                clear hin' hro hra hj1 hj3 hrn han
                go_wp2_with fail
                refine (HLp.out.find a HHN.out _ HRA).mono ?_
                rintro e w6 ⟨rfl, p6, hl6, hg6⟩
                have hlk := num_look (HN5'.out.kept hg6 (fun e => by injection e with e; subst e; exact ownsMap_cells HN5'.out _ _ hgx.out)) hnd j hj2 k hk9 HJ3.out
                have hlr6 := HLR.out.kept hg6 (.inr (fun e => hne (by simp only [Value.ownBlock] at e; injection e)))
                have hfz := hlr6.frozenAt i
                have hcl6 := (hlr6.cellAt i (by omega)).trans ((HLR.out.cellAt i (by omega)).symm.trans hcl)
                have HL6 := Lib.hid hl6
                have HG6 := Lib.hid hg6
                have HLR6 := Lib.hid hlr6
                clear hl6 hg6 hlr6
                go_wp2_with fail
                have st := HLR6.out.stored i (.int .i64 (j : Int))
                have hcell : ∃ cs, w6.heap[gl]? = some (.cells cs 3 (0, 0)) := own_typed HLR6.out gl rfl
                obtain ⟨cs, hcs⟩ := hcell
                have hgs := grown_set w6 gl i (.int .i64 (j : Int))
                have hbn6 := HN5'.out.kept HG6.out (fun e => by injection e with e; subst e; exact ownsMap_cells HN5'.out _ _ hgx.out)
                rw [show ((i : Int) + 1) = ((i + 1 : Nat) : Int) from rfl]
                refine ⟨⟨i + 1, rfl, hlt, fun _ => ⟨p6, HL6.out.stored_ hcs hne hgs⟩, ?_, hbn6.kept hgs (fun e => by injection e with e; subst e; exact ownsMap_cells hbn6 _ _ hcs),
                  R_old (R_old HO5.out HG6.out HGB'.out) hgs HGLB.out, HC5.out.trans ((Chg.of_grown HG6.out (.inl rfl)).trans (Chg.of_grown hgs (.inr rfl)))⟩, meas_i hlt⟩
                rw [vals_step ls (renum M rt) i (by omega) (j : Int) HLV.out (by
                  unfold renum
                  rw [if_pos h0, Int.toNat_natCast, HRA.out]
                  exact HJ1.out)]
                exact st.1
              · go_wp2_with fail
                rw [show ((i : Int) + 1) = ((i + 1 : Nat) : Int) from rfl]
                refine ⟨⟨i + 1, rfl, hlt, HL5.out, ?_, HN5'.out, HO5.out, HC5.out⟩, meas_i hlt⟩
                rw [vals_keep ls (renum M rt) i (by omega) l HLV.out (by unfold renum; rw [if_neg h0])]
                exact HLR.out
            · have hlt' : ¬ (i : Int) < (m : Int) := by omega
              obtain rfl : i = m := by omega
              go_wp2_with fail
              go_ret2
              refine ⟨u11, rfl, ?_, HO5.out, HC5.out⟩
              have h := HLR.out
              rw [List.take_of_length_le (by omega), List.drop_eq_nil_of_le (by omega), List.append_nil] at h
              exact h
    · intro x b kl yd yp w2 cnt2 hkey hlk hv hat hrg2 hlt hg2 hs2 hen
      obtain ⟨k, hkl, rfl⟩ := HREL.out.only kl (has_true_of_atKey hat)
      obtain rfl : x = (k : Int) := by
        obtain ⟨x', e1, e2, _⟩ := Maps.keyOf_int_inv Try.underlying3 hkey
        have h1 : x = x' := by injection e1
        rw [h1]
        unfold key at e2
        injection e2 with _ e2
        exact e2.symm
      have hks : (M.getD k none).isSome = true := by rw [← HREL.out.has k]; exact has_true_of_atKey hat
      clear hkey hv hs2
      have HR2 := Lib.hid (R_iter HR.out hrg hg2)
      have HB2 := Lib.hid (HB.out.grown hg2 (by have := HSZ.out; omega) (fun j hj => by cases hj; exact Nat.le_refl _))
      have HSZ2 : Hid (w.heap.size < w2.heap.size) := Lib.hid (Nat.lt_of_lt_of_le HSZ.out hg2.size)
      have HL2 := Lib.hid (hrg2)
      have HLT := Lib.hid hlt
      have HCN : Hid (ss.length + 1 ≤ 4000000000) := Lib.hid (by have := HCL.out; have := HSD.out; omega)
      clear hlt hrg2 hg2
      go_wp2_with (first | ((with_reducible refine gate_builtin (b := .append) (xs := #[.tmp 22, .tmp 24]) rfl ?_); at_builtin; refine Kd.R_append (Kd.int .i64) (w0 := w) w.heap.size rfl (.tmp 22) (.tmp 24) 27 3 (.int .i64 0) 8 rfl Try.underlying27 info3 rfl (by decide) (by omega) u8 ss (k : Int) [.int .i64 (k : Int)] (fun _ => True) (fun _ => False) rfl rfl ?aP (fun _ hk => hk.elim) ?aF ?aO ?aB ?aS ?aL ?_; (case aP => exact rfl); (case aF => exact (fun _ _ => trivial)); (case aO => exact HR2.out); (case aB => exact HB2.out); (case aS => exact Nat.le_of_lt HSZ2.out); (case aL => have := HCN.out; omega); intro v3 w3 ho hb hg hat3; have HO3 := Lib.hid ho; have HB3 := Lib.hid hb; have HG3 := Lib.hid hg; clear ho hb hg hat3))
      go_wp2_with fail
      go_roundw
      case rel =>
        have hk3 := HL2.out.kept HG3.out (R_own_ne HR2.out (ranges_map HL2.out)) (R_own_ne HR2.out (ranges_iter HL2.out))
        exact ⟨_, cnt2, _, hk3, HC.out.step k hks hlk, HO3.out, HB3.out, Nat.lt_of_lt_of_le HSZ2.out HG3.out.size, by have := HCL.out; have := HLT.out; simp; omega⟩
      case measure =>
        have hk3 := HL2.out.kept HG3.out (R_own_ne HR2.out (ranges_map HL2.out)) (R_own_ne HR2.out (ranges_iter HL2.out))
        rw [hk3.left_eq, hrg.left_eq]; exact HLT.out
end Go.Proofs.Ytahibhipffojlaa.Num
/- components.label gives each dark pixel the number of its component: what it computes, and the walk. -/
set_option linter.unusedSimpArgs false
set_option linter.unusedVariables false
namespace Go.Proofs.Ytahibhipffojlaa.Label
open Go.RowKit Go.Maps Go.Proofs.YtahibhipffojlaaW.PrintLast Go.Proofs.YtahibhipffojlaaW.PrintWords Go.Proofs.YtahibhipffojlaaW.PrintMore Go.Proofs.Ytahibhipffojlaa.Walk Go.Proofs.Ytahibhipffojlaa.M Go.Proofs.Ytahibhipffojlaa.Uf Go.Proofs.Ytahibhipffojlaa.Find Go.Proofs.Ytahibhipffojlaa.Map Go.Proofs.Ytahibhipffojlaa.Unite Go.Proofs.Ytahibhipffojlaa.Num Go.Proofs.Ytahibhipffojlaa.Nb Go.Proofs.Ytahibhipffojlaa.Join

def own (ww : Int) (i : Nat) : S38 := ⟨⟨(i : Int) % ww, (i : Int) / ww, 1, 1⟩, 1, ⟨(i : Int) % ww, (i : Int) / ww⟩⟩
/-- unite a with each of a list -/
def uniteAll (a : Nat) : List Int → List Int → List (Option S38) → Option (List Int × List (Option S38))
  | [], rt, M => some (rt, M)
  | o :: os, rt, M => if 0 ≤ o then (match uniteF rt M a o.toNat with | some s => uniteAll a os s.1 s.2 | none => none) else none
/-- a pixel -/
def stepF (ww : Int) (eight : Bool) (i : Nat) (d : Bool) (ls rt : List Int) (M : List (Option S38)) : Option (List Int × List Int × List (Option S38)) :=
  if d = true then
    match nbF (ls.set i (-1)) ww i eight with
    | [] => some (ls.set i (rt.length : Int), rt ++ [(rt.length : Int)], M ++ [some (own ww i)])
    | a :: os =>
      if 0 ≤ a ∧ a < (rt.length : Int) then
        match M.getD (rt.getD a.toNat 0).toNat none with
        | some x => if Okb x ∧ Okb (own ww i) then
            (match uniteAll a.toNat os rt (M.set (rt.getD a.toNat 0).toNat (some (joinF x (own ww i)))) with
             | some s => some (ls.set i a, s.1, s.2)
             | none => none)
          else none
        | none => none
      else none
  else some (ls.set i (-1), rt, M)
/-- the pixels from i on -/
def runF (ww : Int) (eight : Bool) : List Bool → Nat → List Int → List Int → List (Option S38) → Option (List Int × List Int × List (Option S38))
  | [], _, ls, rt, M => some (ls, rt, M)
  | d :: ds, i, ls, rt, M => match stepF ww eight i d ls rt M with
    | some s => runF ww eight ds (i + 1) s.1 s.2.1 s.2.2
    | none => none
def okEnd (ls rt : List Int) (M : List (Option S38)) : Bool := ls.all fun l => decide (0 ≤ l → l < (rt.length : Int) ∧ (M.getD (rt.getD l.toNat 0).toNat none).isSome = true)
end Go.Proofs.Ytahibhipffojlaa.Label

namespace Go.Proofs.Ytahibhipffojlaa.M
open Go.Proofs.Ytahibhipffojlaa.Label Go.Proofs.Ytahibhipffojlaa.Num
def label.f (l0 : List Bool) (a1 : Int) (a2 : Bool) : Option (List Int × List S38) :=
  if 1 ≤ a1 ∧ a1 ≤ 1000000 ∧ 0 < l0.length ∧ l0.length ≤ 100000000 then
    match runF a1 a2 l0 0 (List.replicate l0.length 0) [] [] with
    | some (ls, rt, M) => if okEnd ls rt M = true then some (ls.map (renum M rt), outs M) else none
    | none => none
  else none
end Go.Proofs.Ytahibhipffojlaa.M

namespace Go.Proofs.Ytahibhipffojlaa.Label
open Go.RowKit Go.Maps Go.Proofs.YtahibhipffojlaaW.PrintLast Go.Proofs.YtahibhipffojlaaW.PrintWords Go.Proofs.YtahibhipffojlaaW.PrintMore Go.Proofs.Ytahibhipffojlaa.Walk Go.Proofs.Ytahibhipffojlaa.M Go.Proofs.Ytahibhipffojlaa.Uf Go.Proofs.Ytahibhipffojlaa.Find Go.Proofs.Ytahibhipffojlaa.Map Go.Proofs.Ytahibhipffojlaa.Unite Go.Proofs.Ytahibhipffojlaa.Num Go.Proofs.Ytahibhipffojlaa.Nb Go.Proofs.Ytahibhipffojlaa.Join

structure Lx (base : Nat) (w : World) (bp bf bb bm gl c : Nat) (p rt : List Int) (M : List (Option S38)) (pv : Value) : Prop where
  hp : w.heap[bp]? = some (.cells #[pv] 27 (0, 0))
  hf : w.heap[bf]? = some (.cells #[.func (.func 46) #[] #[.pointer (some ⟨bp, 0, none⟩), .pointer (some ⟨bf, 0, none⟩)]] 63 (0, 0))
  hb : w.heap[bb]? = some (.cells #[.map (some bm)] 66 (0, 0))
  R : Kd.R (Kd.int .i64) 3 w base (fun k => k ≠ gl) pv p
  P : Par p rt
  m : MapAt w bm c M
  ml : M.length = rt.length

section
variable {base : Nat} {w w' : World} {bp bf bb bm gl c : Nat} {p rt : List Int} {M : List (Option S38)} {pv : Value}
theorem encs_vals (p : List Int) : encs (Value.int .i64) p = vals p := rfl
theorem Lx.luw (L : Lx base w bp bf bb bm gl c p rt M pv) (h : 0 < rt.length) : ∃ g cap, pv = .slice (some ⟨g, 0, none⟩) rt.length cap ∧ g ≠ gl ∧ Luw base w bp bf bb bm g rt.length cap c p rt M := by
  have hl := L.P.len
  obtain ⟨g, cap, e, _⟩ := Kd.R_form L.R (by omega)
  rw [hl] at e
  refine ⟨g, cap, e, L.R.1 g (by rw [e]; rfl), L.P, ⟨hl, by rw [← e]; exact L.hp, L.hf, ?_⟩, L.hb, L.m, L.ml⟩
  have h := Kd.own_of_R L.R
  rw [encs_vals, hl, e] at h
  exact h
theorem Lx.of (g n cap : Nat) (hne : g ≠ gl) (L : Luw base w bp bf bb bm g n cap c p rt M) : Lx base w bp bf bb bm gl c p rt M (.slice (some ⟨g, 0, none⟩) n cap) := by
  refine ⟨L.U.hp, L.U.hf, L.hb, Kd.R_of_own (enc := Value.int .i64) (by rw [encs_vals, L.U.len]; exact L.U.own) (fun k hk => ?_), L.P, L.m, ?_⟩
  · simp only [Value.ownBlock] at hk
    injection hk with hk
    rw [← hk]; exact hne
  · rw [L.ml, ← L.P.len, L.U.len]
end

theorem _root_.Go.Proofs.Ytahibhipffojlaa.Unite.Chg.toBelow {w w' : World} {S : Nat → Prop} {B : Nat} (h : Chg w w' S) (hS : ∀ i, S i → B ≤ i) (hB : B ≤ w.heap.size) : Below B w w' :=
  ⟨h.os, h.tape, h.output, h.size, fun k hk => h.block k (by omega) (fun hs => by have := hS k hs; omega)⟩
theorem Lx.grown {base : Nat} {w w' : World} {bp bf bb bm gl c : Nat} {p rt : List Int} {M : List (Option S38)} {pv : Value} (L : Lx base w bp bf bb bm gl c p rt M pv) {cs : Array Value} (hcs : w.heap[gl]? = some (.cells cs 3 (0, 0))) (hg : w.grownBy w' (some gl)) : Lx base w' bp bf bb bm gl c p rt M pv := by
  have hx : ∀ {b : Nat} {cs' : Array Value} {t : TypeId}, w.heap[b]? = some (.cells cs' t (0, 0)) → t ≠ 3 → some b ≠ some gl := by
    intro b cs' t h ht e
    injection e with e
    subst e
    rw [hcs] at h
    injection h with h
    injection h with _ h
    exact ht h.symm
  exact ⟨(hg.block bp (blk_lt L.hp) (hx L.hp (by decide))).trans L.hp, (hg.block bf (blk_lt L.hf) (hx L.hf (by decide))).trans L.hf, (hg.block bb (blk_lt L.hb) (hx L.hb (by decide))).trans L.hb,
    Kd.R_grown L.R hg (fun k hk e => hk (by injection e)), L.P, L.m.kept hg (fun e => L.m.isCells hcs (by injection e)), L.ml⟩
theorem Lx.below {base : Nat} {w w' : World} {bp bf bb bm gl c : Nat} {p rt : List Int} {M : List (Option S38)} {pv : Value} (L : Lx base w bp bf bb bm gl c p rt M pv) (hb : Below w.heap.size w w') : Lx base w' bp bf bb bm gl c p rt M pv :=
  ⟨(hb.block bp (blk_lt L.hp)).trans L.hp, (hb.block bf (blk_lt L.hf)).trans L.hf, (hb.block bb (blk_lt L.hb)).trans L.hb, Kd.R_below L.R hb, L.P, L.m.below hb L.m.lt, L.ml⟩
theorem drop_step (l : List Bool) (i : Nat) (hi : i < l.length) {d : Bool} (h : rdOf false l (i : Int) = d) : l.drop i = d :: l.drop (i + 1) := by
  rw [List.drop_eq_getElem_cons hi]
  unfold rdOf at h
  rw [Int.toNat_natCast, List.getD_eq_getElem?_getD, List.getElem?_eq_getElem hi, Option.getD_some] at h
  rw [h]
theorem xy_bounds {a1 x y : Int} {i m : Nat} (h1 : 1 ≤ a1) (h0 : 0 ≤ (i : Int)) (hi : (i : Int) < (m : Int)) (hx : (i : Int) % a1 = x) (hy : (i : Int) / a1 = y) : 0 ≤ x ∧ x < a1 ∧ 0 ≤ y ∧ y < (m : Int) := by
  subst hx hy
  refine ⟨Int.emod_nonneg _ (by omega), Int.emod_lt_of_pos _ (by omega), Int.ediv_nonneg h0 (by omega), Int.lt_of_le_of_lt (Int.ediv_le_self _ h0) hi⟩
theorem wrap64_mid {y : Int} (h : 0 ≤ y) (h2 : y < 4611686018427387904) : wrap64 y = y := by
  unfold wrap64
  omega
theorem grown_below {w w' : World} (h : Below w.heap.size w w') : w.grownBy w' none := ⟨h.os, h.tape, h.output, h.size, fun i hi _ => h.block i hi⟩
theorem row_cell {w : World} {base gl m capl : Nat} {ls : List Int} (h : w.ownsRow base 3 1 (.slice (some ⟨gl, 0, none⟩) m capl) m (vals ls)) (hl : ls.length = m) (j : Nat) (hj : j < m) : w.cell? ⟨gl, j, none⟩ = some (.int .i64 (ls.getD j 0)) := by
  rw [h.cellAt j (by omega)]
  unfold vals
  rw [List.getElem?_map, List.getElem?_eq_getElem (by omega), List.getD_eq_getElem?_getD, List.getElem?_eq_getElem (by omega)]
  rfl
def Stop (p : Prop) : Prop := p
theorem stop_ {p : Prop} (h : Stop p) : p := h
theorem stop_go {p : Prop} (h : p) : Stop p := h
theorem own_ne_type {w : World} {b gl m capl base t : Nat} {cs : Array Value} {xs : List Value} (h : w.heap[b]? = some (.cells cs t (0, 0))) (ho : w.ownsRow base 3 1 (.slice (some ⟨gl, 0, none⟩) m capl) m xs) (ht : t ≠ 3) (e : (Value.slice (some ⟨gl, 0, none⟩) m capl).ownBlock = some b) : False := by
  obtain ⟨cs', hc⟩ := own_typed ho b e
  rw [h] at hc
  injection hc with hc
  injection hc with _ hc
  exact ht hc
theorem Lx.push {base : Nat} {w5 w6 : World} {bp bf bb bm gl c : Nat} {p rt : List Int} {M : List (Option S38)} {pv v6 : Value} (L : Lx base w5 bp bf bb bm gl c p rt M pv) (hg : w5.grownBy w6 pv.ownBlock)
    (R6 : Kd.R (Kd.int .i64) 3 w6 base (fun k => k ≠ gl) v6 (p ++ [(rt.length : Int)])) :
    MapAt (w6.setCell ⟨bp, 0, none⟩ v6) bm c M ∧ (w6.setCell ⟨bp, 0, none⟩ v6).heap[bb]? = some (.cells #[.map (some bm)] 66 (0, 0)) ∧
    ∀ w8 w9 b, Below (w6.setCell ⟨bp, 0, none⟩ v6).heap.size (w6.setCell ⟨bp, 0, none⟩ v6) w8 → MapAt w9 bm (c + 1) (M ++ [some b]) → w8.grownBy w9 (some bm) →
      Lx base w9 bp bf bb bm gl (c + 1) (p ++ [(rt.length : Int)]) (rt ++ [(rt.length : Int)]) (M ++ [some b]) v6 := by
  have hp6 := blk_grown L.hp hg (Kd.R_ne L.R L.hp (by decide))
  have hf6 := blk_grown L.hf hg (Kd.R_ne L.R L.hf (by decide))
  have hb6 := blk_grown L.hb hg (Kd.R_ne L.R L.hb (by decide))
  have m6 := L.m.kept hg (R_own_ne L.R (fun cs t e => L.m.isCells e rfl))
  have ne : ∀ {b : Nat} {cs : Array Value} {t : TypeId}, w6.heap[b]? = some (.cells cs t (0, 0)) → t ≠ 27 → b ≠ bp := by
    intro b cs t h ht e
    subst e
    rw [hp6] at h
    injection h with h
    injection h with _ h
    exact ht h.symm
  have hp7 := one_setCell (u := v6) hp6
  have hf7 := (Below.heap_setCell w6 ⟨bp, 0, none⟩ v6 bf (ne hf6 (by decide))).trans hf6
  have hb7 := (Below.heap_setCell w6 ⟨bp, 0, none⟩ v6 bb (ne hb6 (by decide))).trans hb6
  have m7 : MapAt (w6.setCell ⟨bp, 0, none⟩ v6) bm c M := m6.same (Below.heap_setCell w6 ⟨bp, 0, none⟩ v6 bm (fun e => m6.isCells hp6 e))
  have R7 : Kd.R (Kd.int .i64) 3 (w6.setCell ⟨bp, 0, none⟩ v6) base (fun k => k ≠ gl) v6 (p ++ [(rt.length : Int)]) :=
    Kd.R_mono (Kd.R_far (p := ⟨bp, 0, none⟩) (Kd.R_types R6 hp6 (by decide)) (fun _ hk => hk.2) _) (fun _ hk => hk.1)
  refine ⟨m7, hb7, fun w8 w9 b h78 m9 hg9 => ?_⟩
  have hbm : ∀ {b' : Nat} {cs : Array Value} {t : TypeId}, (w6.setCell ⟨bp, 0, none⟩ v6).heap[b']? = some (.cells cs t (0, 0)) → some b' ≠ some bm := fun h e => m7.isCells h (by injection e with e; exact e.symm)
  have mv : ∀ {b' : Nat} {cs : Array Value} {t : TypeId}, (w6.setCell ⟨bp, 0, none⟩ v6).heap[b']? = some (.cells cs t (0, 0)) → w9.heap[b']? = some (.cells cs t (0, 0)) := fun h =>
    (hg9.block _ (Nat.lt_of_lt_of_le (blk_lt h) h78.size) (hbm h)).trans ((h78.block _ (blk_lt h)).trans h)
  have R8 := Kd.R_below R7 h78
  refine ⟨mv hp7, mv hf7, mv hb7, ?_, ?_, m9, by simp [L.ml]⟩
  · exact Kd.R_mono (Kd.R_grown (Kd.R_bound R8) hg9 (fun k hk e => by
      injection e with e
      subst e
      obtain ⟨_, _, _, q, _, cells, hc⟩ := hk
      obtain ⟨nD, D, _, ho, _⟩ := m7.below h78 m7.lt
      exact ownsMap_cells ho _ _ hc)) (fun _ hk => hk.1)
  · have h := L.P.more
    rw [L.P.len] at h
    exact h
theorem own_ne_map {w : World} {b c gl m capl base : Nat} {M : List (Option S38)} {xs : List Value} (h : MapAt w b c M) (ho : w.ownsRow base 3 1 (.slice (some ⟨gl, 0, none⟩) m capl) m xs) (e : (Value.slice (some ⟨gl, 0, none⟩) m capl).ownBlock = some b) : False := by
  obtain ⟨cs', hc⟩ := own_typed ho b e
  exact h.isCells hc rfl
theorem R_cell0 {w : World} {base n cap gn : Nat} {ok : Nat → Prop} {a : Int} {os : List Int} (h : Kd.R (Kd.int .i64) 3 w base ok (.slice (some ⟨gn, 0, none⟩) n cap) (a :: os)) : w.cell? ⟨gn, 0, none⟩ = some (.int .i64 a) := by
  obtain ⟨A, c, e⟩ := Kd.R_slice h
  injection e with e1 e2 e3
  subst e2
  have h2 := (Kd.R_cell (enc := Value.int .i64) 0 h (0 : Int) (by omega) (by simp)).1
  exact h2
theorem R_cap {w : World} {base n cap gn : Nat} {ok : Nat → Prop} {a : Int} {os : List Int} (h : Kd.R (Kd.int .i64) 3 w base ok (.slice (some ⟨gn, 0, none⟩) n cap) (a :: os)) : os.length + 1 ≤ cap := by
  obtain ⟨A, c, e, hl, _⟩ := Kd.R_reads h
  injection e with e1 e2 e3
  subst e3
  rw [List.length_cons] at hl
  exact hl
theorem R_cellS {w : World} {base n cap gn : Nat} {ok : Nat → Prop} {a o : Int} {os : List Int} (h : Kd.R (Kd.int .i64) 3 w base ok (.slice (some ⟨gn, 0, none⟩) n cap) (a :: os)) (j : Nat) (hj : j < os.length) (ho : os[j] = o) : w.cell? ⟨gn, 1 + j, none⟩ = some (.int .i64 o) := by
  obtain ⟨A, c, e⟩ := Kd.R_slice h
  injection e with e1 e2 e3
  subst e2
  have h2 := (Kd.R_cell (enc := Value.int .i64) 0 h ((j + 1 : Nat) : Int) (by omega) (by simp; omega)).1
  rw [Int.toNat_natCast] at h2
  rw [Nat.add_comm 1 j, h2]
  unfold rdOf
  rw [Int.toNat_natCast, List.getD_eq_getElem?_getD, List.getElem?_cons_succ, List.getElem?_eq_getElem hj, ho]
  rfl
theorem R_chg {α : Type} {d : Kd α} {e base : Nat} {w w1 : World} {v : Value} {xs : List α} {S : Nat → Prop} (h : Kd.R d e w base (fun _ => True) v xs) (hC : Chg w w1 S) (hS : ∀ i, S i → i < base) : Kd.R d e w1 base (fun _ => True) v xs :=
  Kd.R_mono (Kd.R_move (Kd.R_bound h) (fun k hk => hC.block k hk.2.2.1 (fun s => by have := hS k s; have := hk.2.1; omega))) (fun _ _ => trivial)
theorem own_chg {w w1 : World} {base gl m capl : Nat} {xs : List Value} {S : Nat → Prop} (h : w.ownsRow base 3 1 (.slice (some ⟨gl, 0, none⟩) m capl) m xs) (hC : Chg w w1 S) (hS : ¬ S gl) : w1.ownsRow base 3 1 (.slice (some ⟨gl, 0, none⟩) m capl) m xs :=
  own_move h (fun k hk => by
    have e : gl = k := by simpa [Value.ownBlock] using hk
    subst e
    obtain ⟨cs, hcs⟩ := own_typed h gl hk
    exact hC.block gl (blk_lt hcs) hS)
theorem nb_len (ls : List Int) (ww i : Int) (e : Bool) : (nbF ls ww i e).length ≤ 4 := by
  unfold nbF
  have h1 := addF_len ls (decide (0 < i % ww)) (i - 1) []
  have h2 := addF_len ls true (i - ww) (addF ls (decide (0 < i % ww)) (i - 1) [])
  have h3 := addF_len ls (decide (0 < i % ww)) (i - ww - 1) (addF ls true (i - ww) (addF ls (decide (0 < i % ww)) (i - 1) []))
  have h4 := addF_len ls (decide (i % ww + 1 < ww)) (i - ww + 1) (addF ls (decide (0 < i % ww)) (i - ww - 1) (addF ls true (i - ww) (addF ls (decide (0 < i % ww)) (i - 1) [])))
  rw [List.length_nil] at h1
  dsimp only
  split <;> omega
theorem setup0 (W : World) : ((((W.alloc (.cells #[.slice none 0 0] 27)).alloc (.map #[] 0)).alloc (.cells #[.map (some (W.heap.size + 1))] 66)).alloc (.cells #[.nilFunc] 63)).cell? ⟨W.heap.size + 1 + 1 + 1, 0, none⟩ = some .nilFunc ∧
    ((((W.alloc (.cells #[.slice none 0 0] 27)).alloc (.map #[] 0)).alloc (.cells #[.map (some (W.heap.size + 1))] 66)).alloc (.cells #[.nilFunc] 63)).frozen? ⟨W.heap.size + 1 + 1 + 1, 0, none⟩ = false := by
  have s3 : (((W.alloc (.cells #[.slice none 0 0] 27)).alloc (.map #[] 0)).alloc (.cells #[.map (some (W.heap.size + 1))] 66)).heap.size = W.heap.size + 1 + 1 + 1 := by simp
  have n4 := heap_alloc_new (((W.alloc (.cells #[.slice none 0 0] 27)).alloc (.map #[] 0)).alloc (.cells #[.map (some (W.heap.size + 1))] 66)) (.cells #[.nilFunc] 63)
  rw [s3] at n4
  exact ⟨cell_of_one n4, blk_frozen n4 0⟩
structure Setup (W Z : World) (bp bf bb bm : Nat) (F : Value) : Prop where
  B : Below W.heap.size W Z
  hp : Z.heap[bp]? = some (.cells #[.slice none 0 0] 27 (0, 0))
  m : MapAt Z bm 0 []
  hb : Z.heap[bb]? = some (.cells #[.map (some bm)] 66 (0, 0))
  hf : Z.heap[bf]? = some (.cells #[F] 63 (0, 0))
theorem setup_ (W : World) (F : Value) : Setup W ((((W.alloc (.cells #[.slice none 0 0] 27)).alloc (.map #[] 0)).alloc (.cells #[.map (some (W.heap.size + 1))] 66)).alloc (.cells #[F] 63)) W.heap.size (W.heap.size + 1 + 1 + 1) (W.heap.size + 1 + 1) (W.heap.size + 1) F := by
  have s1 : (W.alloc (.cells #[.slice none 0 0] 27)).heap.size = W.heap.size + 1 := by simp
  have s2 : ((W.alloc (.cells #[.slice none 0 0] 27)).alloc (.map #[] 0)).heap.size = W.heap.size + 1 + 1 := by simp
  have s3 : (((W.alloc (.cells #[.slice none 0 0] 27)).alloc (.map #[] 0)).alloc (.cells #[.map (some (W.heap.size + 1))] 66)).heap.size = W.heap.size + 1 + 1 + 1 := by simp
  have n4 := heap_alloc_new (((W.alloc (.cells #[.slice none 0 0] 27)).alloc (.map #[] 0)).alloc (.cells #[.map (some (W.heap.size + 1))] 66)) (.cells #[F] 63)
  rw [s3] at n4
  have n3 := (Below.heap_alloc _ (.cells #[F] 63) _ (by omega)).trans (heap_alloc_new ((W.alloc (.cells #[.slice none 0 0] 27)).alloc (.map #[] 0)) (.cells #[.map (some (W.heap.size + 1))] 66))
  rw [s2] at n3
  refine ⟨?_, ?_, ?_, n3, n4⟩
  · exact ((((Below.refl W.heap.size W).alloc (Nat.le_refl _) _).alloc (by omega) _).alloc (by omega) _).alloc (by omega) _
  · exact (Below.heap_alloc _ _ _ (by omega)).trans ((Below.heap_alloc _ _ _ (by omega)).trans ((Below.heap_alloc _ _ _ (by omega)).trans (heap_alloc_new W _)))
  · have h := World.ownsMap_made (H := Unit) (W.alloc (.cells #[.slice none 0 0] 27)) Try.prog 3 blobR
    rw [s1] at h
    exact ⟨0, _, Nat.le_refl _, (h.alloc _).alloc _, MRel.empty⟩

set_option maxRecDepth 100000 in
set_option maxHeartbeats 1000000 in
theorem label_walk (A0 : Option Addr) (c0 : Nat) (l0 : List Bool) (a1 : Int) (a2 : Bool) (w : World) (hr0 : Kd.C Kd.bool w A0 l0.length l0) (hc0 : l0.length ≤ c0)
    (fin : List Int × List Int × List (Option S38)) (hw1 : 1 ≤ a1) (hw2 : a1 ≤ 1000000) (hl1 : 0 < l0.length) (hl2 : l0.length ≤ 100000000) (hrun : runF a1 a2 l0 0 (List.replicate l0.length 0) [] [] = some fin) (hend : okEnd fin.1 fin.2.1 fin.2.2 = true) :
    Calls Try.prog 36 #[.slice A0 l0.length c0, .int .i64 a1, .bool a2] w fun e w' => ∃ v0_ v1_ : Value, e = .returned (.tuple #[v0_, v1_]) ∧ Kd.R (Kd.int .i64) 3 w' w.heap.size (fun _ => True) v0_ (fin.1.map (renum fin.2.2 fin.2.1)) ∧
      Kd.R k38 38 w' w.heap.size (fun _ => True) v1_ (outs fin.2.2) ∧ Below w.heap.size w w' := by
  have HR0 := Lib.hid hr0
  have HRUN := Lib.hid hrun
  have HEND := Lib.hid hend
  have HL2 := Lib.hid hl2
  clear hr0 hrun hend
  have hmm := @run_makeMap Try.prog
  go_enter Try.func36, Try.ntmps36
  go_wp2_with (first | (refine Kd.R_make (Kd.int .i64) (w0 := w) w.heap.size 3 rfl (N := 24) rfl 27 _ _ rfl (l0.length : Int) rfl rfl Try.underlying27 (.int .i64 0) 8 info3 rfl (by decide) (by omega) 0 (ok := fun _ => True) (okp := fun _ => True) rfl (fun _ hk => hk) trivial (Int.natCast_nonneg _) (by rw [Int.toNat_natCast]; have := HL2.out; omega) (Below.refl _ _) (Nat.le_refl _) ?_; intro v1 w1 ho hb hg hn; have HO1 := Lib.hid ho; have HB1 := Lib.hid hb; have HN1 := Lib.hid hn; clear ho hb hg hn; have hs1 := (setup0 w1).1; have hs2 := (setup0 w1).2))
  clear hs1 hs2 hmm
  have HS := Lib.hid (setup_ w1 (.func (.func 46) #[] #[.pointer (some ⟨w1.heap.size, 0, none⟩), .pointer (some ⟨w1.heap.size + 1 + 1 + 1, 0, none⟩)]))
  generalize hZ : ((((w1.alloc (.cells #[.slice none 0 0] 27)).alloc (.map #[] 0)).alloc (.cells #[.map (some (w1.heap.size + 1))] 66)).alloc (.cells #[(.func (.func 46) #[] #[.pointer (some ⟨w1.heap.size, 0, none⟩), .pointer (some ⟨w1.heap.size + 1 + 1 + 1, 0, none⟩)])] 63)) = w2 at *
  clear hZ
  have hle := HB1.out.size
  generalize hs3 : w1.heap.size + 1 + 1 + 1 = bf at *
  generalize hs2 : w1.heap.size + 1 + 1 = bb at *
  generalize hs1 : w1.heap.size + 1 = bm at *
  obtain ⟨gl, capl, ev, hgl, hgl2, _⟩ := Kd.R_form HO1.out (by rw [List.length_replicate, Int.toNat_natCast]; exact hl1)
  rw [List.length_replicate, Int.toNat_natCast] at ev
  subst ev
  generalize hm : l0.length = m at *
  have HLX : Hid (Lx w.heap.size w2 w1.heap.size bf bb bm gl 0 [] [] [] (.slice none 0 0)) := Lib.hid ⟨HS.out.hp, HS.out.hf, HS.out.hb, Kd.R_nil _ _ _ _ _, ⟨rfl, fun a h => by simp at h, fun a h => by simp at h, fun a h => by simp at h, fun a h => by simp at h⟩, HS.out.m, rfl⟩
  have HLS : Hid (w2.ownsRow w.heap.size 3 1 (.slice (some ⟨gl, 0, none⟩) m capl) m (vals (List.replicate m 0))) := Lib.hid (by
    have h := Kd.own_of_R (Kd.R_below HO1.out HS.out.B)
    rw [List.length_replicate, Int.toNat_natCast] at h
    exact h)
  have HBW : Hid (Below w.heap.size w w2) := Lib.hid (HB1.out.trans (HS.out.B.mono hle))
  have HGL : Hid (w.heap.size ≤ gl) := Lib.hid hgl
  have HBP : Hid (w.heap.size ≤ w1.heap.size) := Lib.hid hle
  have HBM : Hid (w.heap.size ≤ bm) := Lib.hid (by omega)
  generalize w1.heap.size = bp at *
  clear HS HO1 HB1 HN1 hle hs1 hs2 hs3 hgl hgl2
  go_loopw [30] (fun u30 wr => ∃ (i c : Nat) (ls rt p : List Int) (M : List (Option S38)) (pv : Value), u30 = .int .i64 (i : Int) ∧ i ≤ m ∧ ls.length = m ∧ rt.length ≤ i ∧ c ≤ 8 * i ∧ Lx w.heap.size wr bp bf bb bm gl c p rt M pv ∧
      wr.ownsRow w.heap.size 3 1 (.slice (some ⟨gl, 0, none⟩) m capl) m (vals ls) ∧ Below w.heap.size w wr ∧ runF a1 a2 (l0.drop i) i ls rt M = some fin) (fun u30 _ => m - (intV u30).toNat)
  case atStart =>
    exact ⟨0, 0, List.replicate m 0, [], [], [], .slice none 0 0, rfl, Nat.zero_le _, List.length_replicate, Nat.le_refl _, Nat.le_refl _, HLX.out, HLS.out, HBW.out, HRUN.out⟩
  case round =>
    obtain ⟨i, c, ls, rt, p, M, pv, rfl, him, hlen, hrti, hci, hLx, hls, hbw, hru⟩ := hrel
    have HLx := Lib.hid hLx
    have HLs := Lib.hid hls
    have HB := Lib.hid hbw
    have HRU := Lib.hid hru
    have HCI := Lib.hid hci
    clear hLx hls hbw hru hci
    rcases Nat.lt_or_ge i m with hlt | hge
    · have hlt' : (i : Int) < (m : Int) := by omega
      have hi0 : (0 : Int) ≤ (i : Int) := Int.natCast_nonneg _
      obtain ⟨ad, e0, hca⟩ := Kd.at_bool (Kd.C_below HR0.out HB.out) (i : Int) hi0 hlt'
      obtain ⟨d, hd⟩ : ∃ d, rdOf false l0 (i : Int) = d := ⟨_, rfl⟩
      rw [hd, Int.toNat_natCast] at hca
      subst e0
      obtain ⟨l, hl⟩ : ∃ l, ls.getD i 0 = l := ⟨_, rfl⟩
      have hcl : wr.cell? ⟨gl, i, none⟩ = some (.int .i64 l) := by
        rw [HLs.out.cellAt i (by omega)]
        unfold vals
        rw [List.getElem?_map, List.getElem?_eq_getElem (by omega), ← hl, List.getD_eq_getElem?_getD, List.getElem?_eq_getElem (by omega)]
        rfl
      have hfz := HLs.out.frozenAt i
      have HD := Lib.hid hd
      have HL := Lib.hid hl
      clear hd hl
      cases d with
      | false =>
        go_wp2_with fail
        have hru' := HRU.out
        rw [drop_step l0 i (by omega) HD.out] at hru'
        unfold runF stepF at hru'
        rw [if_neg (by decide)] at hru'
        obtain ⟨cs, hcs⟩ : ∃ cs, wr.heap[gl]? = some (.cells cs 3 (0, 0)) := own_typed HLs.out gl rfl
        have hg := grown_set wr gl i (.int .i64 (-1))
        have st := HLs.out.stored i (.int .i64 (-1))
        rw [vals_set] at st
        exact ⟨⟨i + 1, c, ls.set i (-1), rt, p, M, pv, rfl, hlt, by rw [List.length_set]; exact hlen, by omega, by have := HCI.out; omega, HLx.out.grown hcs hg, st.1, HB.out.setCell HGL.out _, hru'⟩, meas_i hlt⟩
      | true =>
        go_wp2_with fail
        obtain ⟨cs, hcs⟩ : ∃ cs, wr.heap[gl]? = some (.cells cs 3 (0, 0)) := own_typed HLs.out gl rfl
        have hg := grown_set wr gl i (.int .i64 (-1))
        have st := HLs.out.stored i (.int .i64 (-1))
        rw [vals_set] at st
        have HLx1 := Lib.hid (HLx.out.grown hcs hg)
        have HLs1 := Lib.hid st.1
        have HB1 := Lib.hid (HB.out.setCell HGL.out (.int .i64 (-1)) : Below w.heap.size w (wr.setCell ⟨gl, i, none⟩ (.int .i64 (-1))))
        clear hcs hg st
        generalize wr.setCell ⟨gl, i, none⟩ (.int .i64 (-1)) = w1 at *
        obtain ⟨x, hx⟩ : ∃ x, (i : Int) % a1 = x := ⟨_, rfl⟩
        obtain ⟨y, hy⟩ : ∃ y, (i : Int) / a1 = y := ⟨_, rfl⟩
        have hb := xy_bounds hw1 hi0 hlt' hx hy
        have hy1 : wrap64 y = y := wrap64_mid hb.2.2.1 (by have := HL2.out; omega)
        have HXY := Lib.hid hb
        clear hb
        go_quiet (fail)
        simp only [hx, hy1]
        have hbd : Below w1.heap.size w1 (w1.drewN nq) := pw_below_drewN (Below.refl _ _) nq
        have HLx2 := Lib.hid (HLx1.out.below hbd)
        have HLs2 := Lib.hid (HLs1.out.kept (row := none) (grown_below hbd) (by simp [Value.ownBlock]))
        have HB2 := Lib.hid (HB1.out.trans (hbd.mono HB1.out.size))
        clear hbd HLx1 HLs1 HB1
        generalize w1.drewN nq = w2 at *
        have HX := Lib.hid hx
        have HY := Lib.hid hy
        clear hx hy hy1
        go_wp2_with fail
        have hsz2 : w.heap.size ≤ w2.heap.size := HB2.out.size
        have hba : Below w2.heap.size w2 (w2.alloc (.cells #[.int .i64 x, .int .i64 y, .int .i64 1, .int .i64 1, .int .i64 1, .int .i64 x, .int .i64 y] 38)) := (Below.refl _ _).alloc (Nat.le_refl _) _
        have HLx3 := Lib.hid (HLx2.out.below hba)
        have HLs3 := Lib.hid (HLs2.out.kept (row := none) (grown_below hba) (by simp [Value.ownBlock]))
        have HB3 := Lib.hid (HB2.out.trans (hba.mono HB2.out.size))
        have HO3 := Lib.hid (heap_alloc_new w2 (.cells #[.int .i64 x, .int .i64 y, .int .i64 1, .int .i64 1, .int .i64 1, .int .i64 x, .int .i64 y] 38))
        clear hba HLx2 HLs2 HB2
        generalize (w2.alloc (.cells #[.int .i64 x, .int .i64 y, .int .i64 1, .int .i64 1, .int .i64 1, .int .i64 x, .int .i64 y] 38)) = w3 at *
        generalize hbo : w2.heap.size = bo at *
        clear hbo
        have HCE : Hid (∀ j : Nat, j < m → w3.cell? ⟨gl, j, none⟩ = some (.int .i64 ((ls.set i (-1)).getD j 0))) := Lib.hid (fun j hj => row_cell HLs3.out (by rw [List.length_set]; exact hlen) j hj)
        refine (nb_any (ls.set i (-1)) a1 (i : Int) a2 w3 gl m capl (by rw [List.length_set]; exact hlen) HCE.out (by omega) hw1 hw2 hi0 hlt' HL2.out).mono ?_
        rintro e w4 ⟨vn, rfl, hR4, hb4⟩
        have HLx4 := Lib.hid (HLx3.out.below hb4)
        have HLs4 := Lib.hid (HLs3.out.kept (row := none) (grown_below hb4) (by simp [Value.ownBlock]))
        have HB4 := Lib.hid (HB3.out.trans (hb4.mono HB3.out.size))
        have HO4 := Lib.hid ((hb4.block bo (blk_lt HO3.out)).trans HO3.out)
        have hru' := HRU.out
        rw [drop_step l0 i (by omega) HD.out] at hru'
        unfold runF stepF at hru'
        rw [if_pos rfl] at hru'
        obtain ⟨near, hnear⟩ : ∃ near, nbF (ls.set i (-1)) a1 (i : Int) a2 = near := ⟨_, rfl⟩
        rw [hnear] at hR4 hru'
        obtain ⟨An, cn, en⟩ := Kd.R_slice hR4
        subst en
        have HN4 := Lib.hid hR4
        have HZ3 : Hid (gl < w3.heap.size ∧ (∀ k, pv.ownBlock = some k → k < w3.heap.size) ∧ bm < w3.heap.size) := Lib.hid ⟨(by obtain ⟨cs, h⟩ := own_typed HLs3.out gl rfl; exact blk_lt h), fun k hk => Kd.R_lt HLx3.out.R k hk, HLx3.out.m.lt⟩
        have HRU' := Lib.hid hru'
        have HNE := Lib.hid hnear
        clear hR4 hb4 hru' hnear HLx3 HLs3 HB3 HO3 HCE
        generalize w3.heap.size = bN at *
        obtain ⟨Ap, capp, ep⟩ := Kd.R_slice HLx4.out.R
        rw [HLx4.out.P.len] at ep
        cases near with
        | nil =>
          have hru := HRU'.out
          dsimp only at hru
          have HRU2 := Lib.hid hru
          clear HRU' hru
          have hcp4 : w4.cell? ⟨bp, 0, none⟩ = some (.slice Ap rt.length capp) := ep ▸ cell_of_one HLx4.out.hp
          have hcl4 : w4.cell? ⟨gl, i, none⟩ = some (.int .i64 (-1)) := by
            rw [row_cell HLs4.out (by rw [List.length_set]; exact hlen) i hlt, getD_set, if_pos ⟨rfl, by omega⟩]
          have hfz4 := HLs4.out.frozenAt i
          go_wp2_with (first | ((with_reducible refine gate_dst (N := 66) rfl ?_); refine stop_ ?_))
          clear hcp4 hcl4 hfz4
          obtain ⟨cs, hcs⟩ : ∃ cs, w4.heap[gl]? = some (.cells cs 3 (0, 0)) := own_typed HLs4.out gl rfl
          have hg := grown_set w4 gl i (.int .i64 (rt.length : Int))
          have st := HLs4.out.stored i (.int .i64 (rt.length : Int))
          rw [vals_set, List.set_set] at st
          have HLx5 := Lib.hid (HLx4.out.grown hcs hg)
          have HLs5 := Lib.hid st.1
          have HB5 := Lib.hid (HB4.out.setCell HGL.out (.int .i64 (rt.length : Int)) : Below w.heap.size w (w4.setCell ⟨gl, i, none⟩ (.int .i64 (rt.length : Int))))
          have HO5 := Lib.hid ((hg.block bo (blk_lt HO4.out) (fun e => by injection e with e; subst e; rw [HO4.out] at hcs; injection hcs with hcs; injection hcs with _ h; exact absurd h (by decide))).trans HO4.out)
          have HG5 : Hid (gl < w4.heap.size) := Lib.hid (blk_lt hcs)
          have HZ5 := Lib.hid hg.size
          clear hcs hg st HN4
          generalize w4.setCell ⟨gl, i, none⟩ (.int .i64 (rt.length : Int)) = w5 at *
          have hcp5 : w5.cell? ⟨bp, 0, none⟩ = some (.slice Ap rt.length capp) := ep ▸ cell_of_one HLx5.out.hp
          have hpl := HLx5.out.P.len
          refine stop_go ?_
          go_wp2_with (first | ((with_reducible refine gate_builtin (b := .append) (xs := #[.tmp 66, .tmp 69]) rfl ?_); at_builtin; refine Kd.R_append (Kd.int .i64) (w0 := w) w.heap.size rfl (.tmp 66) (.tmp 69) 27 3 (.int .i64 0) 8 rfl Try.underlying27 info3 rfl (by decide) (by omega) (.slice Ap rt.length capp) p (rt.length : Int) [.int .i64 (rt.length : Int)] (fun k => k ≠ gl) (fun _ => False) rfl rfl ?aP (fun _ hk => hk.elim) ?aF ?aO ?aB ?aS ?aL ?_; (case aP => exact rfl); (case aF => exact fun k hk e => by have := HG5.out; have := HZ5.out; omega); (case aO => exact ep ▸ HLx5.out.R); (case aB => exact HB5.out); (case aS => exact HB5.out.size); (case aL => have := HL2.out; omega); intro v6 w6 ho hb hg hat3; obtain ⟨A6, c6, e6⟩ := Kd.R_slice ho; rw [List.length_append, hpl, List.length_singleton] at e6; subst e6; have hbp6 := blk_grown HLx5.out.hp hg (ep ▸ Kd.R_ne HLx5.out.R HLx5.out.hp (by decide)); have HBP6 := Lib.hid hbp6; have hcp6 := cell_of_one hbp6; have hfz6 := blk_frozen hbp6 0; have HO6 := Lib.hid ho; have HB6 := Lib.hid hb; have HG6 := Lib.hid hg; clear ho hb hg hat3 hbp6))
          have HPU := Lib.hid (HLx5.out.push (by rw [ep]; exact HG6.out) HO6.out)
          have HLs7 := Lib.hid ((HLs5.out.kept HG6.out (.inr (fun e => HLx5.out.R.1 gl (by rw [ep]; exact e.symm) rfl))).kept (grown_set w6 bp 0 (.slice A6 (rt.length + 1) c6)) (.inr (fun e => own_ne_type HLx5.out.hp HLs5.out (by decide) e)))
          have HO7 := Lib.hid ((Below.heap_setCell w6 ⟨bp, 0, none⟩ (.slice A6 (rt.length + 1) c6) bo (fun e => by subst e; have h1 := HO5.out; have h2 := HLx5.out.hp; rw [h1] at h2; injection h2 with h2; injection h2 with _ h; exact absurd h (by decide))).trans (blk_grown HO5.out HG6.out (ep ▸ Kd.R_ne HLx5.out.R HO5.out (by decide))))
          have HB7 := Lib.hid (HB6.out.setCell HBP.out (.slice A6 (rt.length + 1) c6) : Below w.heap.size w (w6.setCell ⟨bp, 0, none⟩ (.slice A6 (rt.length + 1) c6)))
          clear HLs5 HO5 HB6 hcp5
          go_wp2_with fail
          clear hcp6 hfz6
          generalize w6.setCell ⟨bp, 0, none⟩ (.slice A6 (rt.length + 1) c6) = w7 at *
          have hcb7 := cell_of_one HPU.out.2.1
          have hcl7 : w7.cell? ⟨gl, i, none⟩ = some (.int .i64 (rt.length : Int)) := by
            rw [row_cell HLs7.out (by rw [List.length_set]; exact hlen) i hlt, getD_set, if_pos ⟨rfl, by omega⟩]
          obtain ⟨w9, hup, m9, hg9⟩ := HPU.out.1.drew.more_ (by have := HCI.out; omega) (by have := HLx5.out.ml; omega) (own a1 i)
          rw [HLx5.out.ml] at hup
          have eo : own a1 i = ⟨⟨x, y, 1, 1⟩, 1, ⟨x, y⟩⟩ := by unfold own; rw [HX.out, HY.out]
          rw [eo] at hup
          replace hup : (Instr.mapUpdate 66 (.map (some bm)) (.int .i64 (rt.length : Int)) (.agg #[.int .i64 x, .int .i64 y, .int .i64 1, .int .i64 1, .int .i64 1, .int .i64 x, .int .i64 y])).run Try.prog w7.drew = .ok () w9 := hup
          have HEO := Lib.hid eo
          have HM9 := Lib.hid m9
          have HG9 := Lib.hid hg9
          clear eo m9 hg9
          refine start_ (n := 7) (S := fun w' => w'.cell? ⟨bb, 0, none⟩ = some (.map (some bm)) ∧ w'.cell? ⟨gl, i, none⟩ = some (.int .i64 (rt.length : Int)) ∧ w'.cell? ⟨bo, 0, none⟩ = some (.int .i64 x) ∧ w'.cell? ⟨bo, 1, none⟩ = some (.int .i64 y) ∧ w'.cell? ⟨bo, 2, none⟩ = some (.int .i64 1) ∧ w'.cell? ⟨bo, 3, none⟩ = some (.int .i64 1) ∧ w'.cell? ⟨bo, 4, none⟩ = some (.int .i64 1) ∧ w'.cell? ⟨bo, 5, none⟩ = some (.int .i64 x) ∧ w'.cell? ⟨bo, 6, none⟩ = some (.int .i64 y)) (ds := [6]) #[false, false, false, false, false, false, false] (by kernel_rfl) rfl rfl ⟨hcb7, hcl7, (blk_cell HO7.out 0), (blk_cell HO7.out 1), (blk_cell HO7.out 2), (blk_cell HO7.out 3), (blk_cell HO7.out 4), (blk_cell HO7.out 5), (blk_cell HO7.out 6)⟩ (fun hHeld => ?_)
          refine pure_ (i := 1) (N := some 72) (v := ?_) (a' := ?_) #[false, true, false, false, false, false, false] rfl rfl (by kernel_rfl) (fun _ _ _ h => h) (Or.inl ⟨by rfl, ?_⟩) ?_ ?_
          rotate_left
          · intro w'
            go_simp
            with_reducible rfl
          rotate_left
          · simp only [Act.put, List.setIfInBounds_toArray, List.set_cons_zero, List.set_cons_succ, i64_w, i32_w]
            rfl
          refine pure_ (i := 2) (N := some 73) (v := ?_) (a' := ?_) #[false, true, true, false, false, false, false] rfl rfl (by kernel_rfl) (fun _ _ _ h => h) (Or.inl ⟨by rfl, ?_⟩) ?_ ?_
          rotate_left
          · intro w'
            go_simp
            with_reducible rfl
          rotate_left
          · simp only [Act.put, List.setIfInBounds_toArray, List.set_cons_zero, List.set_cons_succ, i64_w, i32_w]
            rfl
          refine pure_ (i := 3) (N := some 74) (v := ?_) (a' := ?_) #[false, true, true, true, false, false, false] rfl rfl (by kernel_rfl) (fun _ _ _ h => h) (Or.inl ⟨by rfl, ?_⟩) ?_ ?_
          rotate_left
          · intro w'
            go_simp
            with_reducible rfl
          rotate_left
          · simp only [Act.put, List.setIfInBounds_toArray, List.set_cons_zero, List.set_cons_succ, i64_w, i32_w]
            rfl
          refine take_ (i := 0) (N := some 71) (v := ?_) (a' := ?_) #[true, true, true, true, false, false, false] rfl rfl (by kernel_rfl) (fun _ _ _ h => h) (Or.inl ⟨by rfl, ?_⟩) hHeld ?_ ?_
          rotate_left
          · rintro w' ⟨s0, s1, s2, s3, s4, s5, s6, s7, s8⟩
            go_simp
            with_reducible rfl
          rotate_left
          · simp only [Act.put, List.setIfInBounds_toArray, List.set_cons_zero, List.set_cons_succ, i64_w, i32_w]
            rfl
          refine take_ (i := 4) (N := some 75) (v := ?_) (a' := ?_) #[true, true, true, true, true, false, false] rfl rfl (by kernel_rfl) (fun _ _ _ h => h) (Or.inl ⟨by rfl, ?_⟩) hHeld ?_ ?_
          rotate_left
          · rintro w' ⟨s0, s1, s2, s3, s4, s5, s6, s7, s8⟩
            go_simp
            with_reducible rfl
          rotate_left
          · simp only [Act.put, List.setIfInBounds_toArray, List.set_cons_zero, List.set_cons_succ, i64_w, i32_w]
            rfl
          refine take_ (i := 5) (N := some 76) (v := ?_) (a' := ?_) #[true, true, true, true, true, true, false] rfl rfl (by kernel_rfl) (fun _ _ _ h => h) (Or.inl ⟨by rfl, ?_⟩) hHeld ?_ ?_
          rotate_left
          · rintro w' ⟨s0, s1, s2, s3, s4, s5, s6, s7, s8⟩
            go_simp
            with_reducible rfl
          rotate_left
          · simp only [Act.put, List.setIfInBounds_toArray, List.set_cons_zero, List.set_cons_succ, i64_w, i32_w]
            rfl
          refine last_ (i := 6) (N := none) #[true, true, true, true, true, true, true] rfl rfl (by kernel_rfl) (by decide) (fun K hK => ?_)
          refine skip_ (w1 := ?_) (by rfl) rfl ?_ ?_
          rotate_left
          · go_simp
            rfl
          refine hK.out _ _ ?_
          clear hK K
          refine done_ (by kernel_rfl) ?_

          go_wp2_with fail
          refine ⟨⟨i + 1, c + 1, ls.set i (rt.length : Int), rt ++ [(rt.length : Int)], p ++ [(rt.length : Int)], M ++ [some (own a1 i)], .slice A6 (rt.length + 1) c6, rfl, hlt, by rw [List.length_set]; exact hlen, by rw [List.length_append, List.length_singleton]; omega, by have := HCI.out; omega,
            HPU.out.2.2 w7.drew w9 (own a1 i) (below_drew (Below.refl _ _)) HM9.out HG9.out, HLs7.out.drew.kept HG9.out (.inr (fun e => own_ne_map HPU.out.1 HLs7.out e)), (below_drew HB7.out).grown HG9.out (Nat.le_trans HB7.out.size (below_drew (Below.refl 0 _)).size) (fun j hj => by injection hj with hj; subst hj; exact HBM.out), HRU2.out⟩, meas_i hlt⟩
        | cons a os =>
          have hru := HRU'.out
          dsimp only at hru
          split at hru
          case h_2 => cases hru
          rename_i s0 hst
          split at hst
          case isFalse => cases hst
          rename_i hab
          split at hst
          case h_2 => cases hst
          rename_i x0 hx0'
          split at hst
          case isFalse => cases hst
          rename_i hok
          split at hst
          case h_2 => cases hst
          rename_i s1 hun
          injection hst with hst
          subst hst
          dsimp only at hru
          obtain ⟨an, rfl⟩ := Int.eq_ofNat_of_zero_le hab.1
          rw [Int.toNat_natCast] at hx0' hun
          have hrl : 0 < rt.length := by omega
          obtain ⟨g, cap, epv, hggl, hlu4⟩ := HLx4.out.luw hrl
          have han : an < rt.length := by omega
          have hro := roots_of hlu4.P an han
          obtain ⟨ra, hra⟩ : ∃ ra, rt.getD an 0 = ra := ⟨_, rfl⟩
          rw [hra] at hro hx0' hun
          obtain ⟨ro, rfl⟩ := Int.eq_ofNat_of_zero_le hro.1
          rw [Int.toNat_natCast] at hx0' hun
          have hox := Lib.hid hok.1
          have hoy : Hid (Okb ⟨⟨x, y, 1, 1⟩, 1, ⟨x, y⟩⟩) := Lib.hid (by have h := hok.2; unfold own at h; rw [HX.out, HY.out] at h; exact h)
          have hx0 := Lib.hid hx0'
          have eo : own a1 i = ⟨⟨x, y, 1, 1⟩, 1, ⟨x, y⟩⟩ := by unfold own; rw [HX.out, HY.out]
          rw [eo] at hun
          clear eo
          have HUN := Lib.hid hun
          have HRU2 := Lib.hid hru
          have HRA := Lib.hid hra
          have HAN := Lib.hid han
          have hro9 : Hid (ro ≤ 1000000000) := Lib.hid (by have := HL2.out; omega)
          have hroM : Hid (ro < M.length) := Lib.hid (by have := HLx4.out.ml; omega)
          have hc9 : Hid (c ≤ 1000000000) := Lib.hid (by have := HCI.out; have := HL2.out; omega)
          have HOS : Hid (os.length ≤ 3) := Lib.hid (by have := nb_len (ls.set i (-1)) a1 i a2; rw [HNE.out] at this; simp at this; omega)
          have HGN : Hid (g < bN) := Lib.hid (HZ3.out.2.1 g (by rw [epv]; rfl))
          have HGG : Hid (w.heap.size ≤ g) := Lib.hid (Kd.R_base HLx4.out.R g (by rw [epv]; rfl))
          have HLu4 := Lib.hid hlu4
          clear hru hun hx0' hok hro hra han hlu4 HRU' hab
          obtain ⟨gn, capn, en, hgn, _, _⟩ := Kd.R_form HN4.out (by simp)
          rw [List.length_cons] at en
          injection en with en1 en2 en3
          subst en1
          subst en3
          have hcn4 : w4.cell? ⟨gn, 0, none⟩ = some (.int .i64 (an : Int)) := R_cell0 HN4.out
          have hcl4 : w4.cell? ⟨gl, i, none⟩ = some (.int .i64 (-1)) := by
            rw [row_cell HLs4.out (by rw [List.length_set]; exact hlen) i hlt, getD_set, if_pos ⟨rfl, by omega⟩]
          have hfz4 := HLs4.out.frozenAt i
          have hk0 : ((((an : Int) :: os).length : Int) == 0) = false := by rw [beq_eq_false_iff_ne, List.length_cons]; omega
          go_wp2_with fail
          obtain ⟨cs, hcs⟩ : ∃ cs, w4.heap[gl]? = some (.cells cs 3 (0, 0)) := own_typed HLs4.out gl rfl
          have hg := grown_set w4 gl i (.int .i64 (an : Int))
          have st := HLs4.out.stored i (.int .i64 (an : Int))
          rw [vals_set, List.set_set] at st
          have HLu5 := Lib.hid (HLu4.out.stored_ hcs (fun e => hggl e.symm) hg)
          have HLs5 := Lib.hid st.1
          have HB5 := Lib.hid (HB4.out.setCell HGL.out (.int .i64 (an : Int)) : Below w.heap.size w (w4.setCell ⟨gl, i, none⟩ (.int .i64 (an : Int))))
          have HO5 := Lib.hid ((hg.block bo (blk_lt HO4.out) (fun e => by injection e with e; subst e; rw [HO4.out] at hcs; injection hcs with hcs; injection hcs with _ h; exact absurd h (by decide))).trans HO4.out)
          have HN5 := Lib.hid (R_old HN4.out hg HZ3.out.1)
          clear hcs hg st HN4 HLs4 HB4 HO4 HLu4 hcn4 hcl4 hfz4
          generalize w4.setCell ⟨gl, i, none⟩ (.int .i64 (an : Int)) = w5 at *
          have hcf5 := cell_of_one HLu5.out.U.hf
          have hcn5 : w5.cell? ⟨gn, 0, none⟩ = some (.int .i64 (an : Int)) := R_cell0 HN5.out
          refine start_ (n := 6) (S := fun w' => w'.cell? ⟨bf, 0, none⟩ = some (.func (.func 46) #[] #[.pointer (some ⟨bp, 0, none⟩), .pointer (some ⟨bf, 0, none⟩)]) ∧ w'.cell? ⟨gn, 0, none⟩ = some (.int .i64 (an : Int))) (ds := []) #[false, false, false, false, false, false] (by kernel_rfl) rfl rfl ⟨hcf5, hcn5⟩ (fun hHeld => ?_)
          refine pure_ (i := 1) (N := some 84) (v := ?_) (a' := ?_) #[false, true, false, false, false, false] rfl rfl (by kernel_rfl) (fun _ _ _ h => h) (Or.inl ⟨by rfl, ?_⟩) ?_ ?_
          rotate_left
          · intro w'
            go_simp
            with_reducible rfl
          rotate_left
          · simp only [Act.put, List.setIfInBounds_toArray, List.set_cons_zero, List.set_cons_succ, i64_w, i32_w]
            rfl
          refine pure_ (i := 2) (N := some 85) (v := ?_) (a' := ?_) #[false, true, true, false, false, false] rfl rfl (by kernel_rfl) (fun _ _ _ h => h) (Or.inl ⟨by rfl, ?_⟩) ?_ ?_
          rotate_left
          · intro w'
            go_simp
            with_reducible rfl
          rotate_left
          · simp only [Act.put, List.setIfInBounds_toArray, List.set_cons_zero, List.set_cons_succ, i64_w, i32_w]
            rfl
          refine take_ (i := 0) (N := some 83) (v := ?_) (a' := ?_) #[true, true, true, false, false, false] rfl rfl (by kernel_rfl) (fun _ _ _ h => h) (Or.inl ⟨by rfl, ?_⟩) hHeld ?_ ?_
          rotate_left
          · rintro w' ⟨s0, s1⟩
            go_simp
            with_reducible rfl
          rotate_left
          · simp only [Act.put, List.setIfInBounds_toArray, List.set_cons_zero, List.set_cons_succ, i64_w, i32_w]
            rfl
          refine take_ (i := 3) (N := some 86) (v := ?_) (a' := ?_) #[true, true, true, true, false, false] rfl rfl (by kernel_rfl) (fun _ _ _ h => h) (Or.inl ⟨by rfl, ?_⟩) hHeld ?_ ?_
          rotate_left
          · rintro w' ⟨s0, s1⟩
            go_simp
            with_reducible rfl
          rotate_left
          · simp only [Act.put, List.setIfInBounds_toArray, List.set_cons_zero, List.set_cons_succ, i64_w, i32_w]
            rfl
          refine one_ (i := 4) (N := some 87) #[true, true, true, true, true, false] rfl rfl (by kernel_rfl) (by decide) (fun K hK => ?_)
          refine goesV #[.pointer (some ⟨bp, 0, none⟩), .pointer (some ⟨bf, 0, none⟩)] Try.func46 (by kernel_rfl) rfl #[.int .i64 (an : Int), .pointer (some ⟨bp, 0, none⟩), .pointer (some ⟨bf, 0, none⟩)] (by rfl) rfl rfl (by rfl) (by simp only [List.map_toArray, List.map_cons, List.map_nil, List.append_toArray, List.cons_append, List.nil_append]; rfl) ?_
          with_reducible refine (HLu5.out.drew.find an HAN.out _ HRA).mono ?_
          rintro e w6 ⟨rfl, p6, hlu6, hg6⟩
          refine ⟨_, rfl, ?_⟩
          have HLu6 := Lib.hid hlu6; have HG6 := Lib.hid hg6; clear hlu6 hg6
          refine hK.out _ _ ⟨(cell_of_one HLu6.out.U.hf), (R_cell0 (R_old (Kd.R_drew HN5.out) HG6.out HGN.out))⟩ (fun hHeld => ?_)
          clear hK K
          refine norm_ (a' := ?_) ?_ ?_
          rotate_left
          · show Act.put _ (some 87) _ = _
            simp only [Act.put, List.setIfInBounds_toArray, List.set_cons_zero, List.set_cons_succ, i64_w, i32_w]
            rfl
          refine pure_ (i := 5) (N := some 19) (v := ?_) (a' := ?_) #[true, true, true, true, true, true] rfl rfl (by kernel_rfl) (fun _ _ _ h => h) (Or.inl ⟨by rfl, ?_⟩) ?_ ?_
          rotate_left
          · intro w'
            go_simp
            with_reducible rfl
          rotate_left
          · simp only [Act.put, List.setIfInBounds_toArray, List.set_cons_zero, List.set_cons_succ, i64_w, i32_w]
            rfl
          refine done_ (by kernel_rfl) ?_

          have HO6 := Lib.hid ((HG6.out.block bo (blk_lt HO5.out) (fun e => by obtain ⟨cs, hcs⟩ := HLu5.out.gcells; injection e with e; subst e; have h := HO5.out; rw [h] at hcs; injection hcs with hcs; injection hcs with _ h; exact absurd h (by decide))).trans HO5.out)
          have HN6 := Lib.hid (R_old (Kd.R_drew HN5.out) HG6.out HGN.out)
          have HLs6 := Lib.hid (HLs5.out.drew.kept HG6.out (.inr (fun e => hggl (by simp only [Value.ownBlock] at e; injection e with e; exact e.symm))))
          have HB6 := Lib.hid ((below_drew HB5.out).grown HG6.out (by exact HB5.out.size) (fun j hj => by injection hj with hj; subst hj; exact HGG.out))
          clear HO5 HN5 HLs5 HB5 hcf5 hcn5
          have hcb6 := cell_of_one HLu6.out.hb
          go_wp2_with fail
          refine start_ (n := 8) (S := fun w' => w'.cell? ⟨bb, 0, none⟩ = some (.map (some bm)) ∧ (Instr.lookup 66 (.map (some bm)) (.int .i64 (ro : Int)) false).run Try.prog w' = .ok (bval x0) w' ∧ w'.cell? ⟨bo, 0, none⟩ = some (.int .i64 x) ∧ w'.cell? ⟨bo, 1, none⟩ = some (.int .i64 y) ∧ w'.cell? ⟨bo, 2, none⟩ = some (.int .i64 1) ∧ w'.cell? ⟨bo, 3, none⟩ = some (.int .i64 1) ∧ w'.cell? ⟨bo, 4, none⟩ = some (.int .i64 1) ∧ w'.cell? ⟨bo, 5, none⟩ = some (.int .i64 x) ∧ w'.cell? ⟨bo, 6, none⟩ = some (.int .i64 y)) (ds := [7]) #[false, false, false, false, false, false, false, false] (by kernel_rfl) rfl rfl ⟨hcb6, (HLu6.out.drew.m.look ro hro9.out x0 hx0.out), (blk_cell HO6.out 0), (blk_cell HO6.out 1), (blk_cell HO6.out 2), (blk_cell HO6.out 3), (blk_cell HO6.out 4), (blk_cell HO6.out 5), (blk_cell HO6.out 6)⟩ (fun hHeld => ?_)
          refine pure_ (i := 1) (N := some 89) (v := ?_) (a' := ?_) #[false, true, false, false, false, false, false, false] rfl rfl (by kernel_rfl) (fun _ _ _ h => h) (Or.inl ⟨by rfl, ?_⟩) ?_ ?_
          rotate_left
          · intro w'
            go_simp
            with_reducible rfl
          rotate_left
          · simp only [Act.put, List.setIfInBounds_toArray, List.set_cons_zero, List.set_cons_succ, i64_w, i32_w]
            rfl
          refine pure_ (i := 3) (N := some 91) (v := ?_) (a' := ?_) #[false, true, false, true, false, false, false, false] rfl rfl (by kernel_rfl) (fun _ _ _ h => h) (Or.inl ⟨by rfl, ?_⟩) ?_ ?_
          rotate_left
          · intro w'
            go_simp
            with_reducible rfl
          rotate_left
          · simp only [Act.put, List.setIfInBounds_toArray, List.set_cons_zero, List.set_cons_succ, i64_w, i32_w]
            rfl
          refine take_ (i := 0) (N := some 88) (v := ?_) (a' := ?_) #[true, true, false, true, false, false, false, false] rfl rfl (by kernel_rfl) (fun _ _ _ h => h) (Or.inl ⟨by rfl, ?_⟩) hHeld ?_ ?_
          rotate_left
          · rintro w' ⟨s0, s1, s2, s3, s4, s5, s6, s7, s8⟩
            go_simp
            with_reducible rfl
          rotate_left
          · simp only [Act.put, List.setIfInBounds_toArray, List.set_cons_zero, List.set_cons_succ, i64_w, i32_w]
            rfl
          refine take_ (i := 2) (N := some 90) (v := ?_) (a' := ?_) #[true, true, true, true, false, false, false, false] rfl rfl (by kernel_rfl) (fun _ _ _ h => h) (Or.inl ⟨by rfl, ?_⟩) hHeld ?_ ?_
          rotate_left
          · rintro w' ⟨s0, s1, s2, s3, s4, s5, s6, s7, s8⟩
            go_simp
            with_reducible rfl
          rotate_left
          · simp only [Act.put, List.setIfInBounds_toArray, List.set_cons_zero, List.set_cons_succ, i64_w, i32_w]
            rfl
          refine take_ (i := 4) (N := some 92) (v := ?_) (a' := ?_) #[true, true, true, true, true, false, false, false] rfl rfl (by kernel_rfl) (fun _ _ _ h => h) (Or.inl ⟨by rfl, ?_⟩) hHeld ?_ ?_
          rotate_left
          · rintro w' ⟨s0, s1, s2, s3, s4, s5, s6, s7, s8⟩
            go_simp
            with_reducible rfl
          rotate_left
          · simp only [Act.put, List.setIfInBounds_toArray, List.set_cons_zero, List.set_cons_succ, i64_w, i32_w]
            rfl
          refine take_ (i := 5) (N := some 93) (v := ?_) (a' := ?_) #[true, true, true, true, true, true, false, false] rfl rfl (by kernel_rfl) (fun _ _ _ h => h) (Or.inl ⟨by rfl, ?_⟩) hHeld ?_ ?_
          rotate_left
          · rintro w' ⟨s0, s1, s2, s3, s4, s5, s6, s7, s8⟩
            go_simp
            with_reducible rfl
          rotate_left
          · simp only [Act.put, List.setIfInBounds_toArray, List.set_cons_zero, List.set_cons_succ, i64_w, i32_w]
            rfl
          refine one_ (i := 6) (N := some 94) #[true, true, true, true, true, true, true, false] rfl rfl (by kernel_rfl) (by decide) (fun K hK => ?_)
          refine goes_ Try.func48 (by kernel_rfl) rfl #[bval x0, bval ⟨⟨x, y, 1, 1⟩, 1, ⟨x, y⟩⟩] (by rfl) rfl rfl (by simp only [List.map_toArray, List.map_cons, List.map_nil]; rfl) ?_
          with_reducible refine (joined_any x0 ⟨⟨x, y, 1, 1⟩, 1, ⟨x, y⟩⟩ hox.out hoy.out _).mono ?_
          rintro e w7 ⟨rfl, hb7⟩
          refine ⟨_, rfl, ?_⟩
          have hc7 := (hb7.cell (p := ⟨bb, 0, none⟩) (blk_lt HLu6.out.hb)).trans hcb6
          have m7 := HLu6.out.drew.m.below hb7 HLu6.out.m.lt
          have HB7 := Lib.hid hb7
          obtain ⟨w8, hup, m8, hg8⟩ := m7.put_ hc9.out ro hro9.out hroM.out (joinF x0 ⟨⟨x, y, 1, 1⟩, 1, ⟨x, y⟩⟩)
          have M7 := Lib.hid m7; have M8 := Lib.hid m8; have HG8 := Lib.hid hg8; clear m7 m8 hg8 hb7
          refine hK.out _ _ ⟨hc7, (M7.out.look ro hro9.out x0 hx0.out), ((HB7.out.cell (p := ⟨bo, 0, none⟩) (blk_lt HO6.out)).trans (blk_cell HO6.out 0)), ((HB7.out.cell (p := ⟨bo, 1, none⟩) (blk_lt HO6.out)).trans (blk_cell HO6.out 1)), ((HB7.out.cell (p := ⟨bo, 2, none⟩) (blk_lt HO6.out)).trans (blk_cell HO6.out 2)), ((HB7.out.cell (p := ⟨bo, 3, none⟩) (blk_lt HO6.out)).trans (blk_cell HO6.out 3)), ((HB7.out.cell (p := ⟨bo, 4, none⟩) (blk_lt HO6.out)).trans (blk_cell HO6.out 4)), ((HB7.out.cell (p := ⟨bo, 5, none⟩) (blk_lt HO6.out)).trans (blk_cell HO6.out 5)), ((HB7.out.cell (p := ⟨bo, 6, none⟩) (blk_lt HO6.out)).trans (blk_cell HO6.out 6))⟩ (fun hHeld => ?_)
          clear hK K
          refine norm_ (a' := ?_) ?_ ?_
          rotate_left
          · show Act.put _ (some 94) _ = _
            simp only [Act.put, List.setIfInBounds_toArray, List.set_cons_zero, List.set_cons_succ, i64_w, i32_w]
            rfl
          refine last_ (i := 7) (N := none) #[true, true, true, true, true, true, true, true] rfl rfl (by kernel_rfl) (by decide) (fun K hK => ?_)
          refine skip_ (w1 := ?_) (by rfl) rfl ?_ ?_
          rotate_left
          · go_simp
            rfl
          refine hK.out _ _ ?_
          clear hK K
          refine done_ (by kernel_rfl) ?_

          have HLu8 := Lib.hid ((HLu6.out.drew.below0 HB7.out).turned HG8.out M8.out (by rw [List.length_set]; exact HLu6.out.ml))
          have hls7 := HLs6.out.drew.kept (row := none) (grown_below HB7.out) (by simp [Value.ownBlock])
          have HLs8 := Lib.hid (hls7.kept HG8.out (.inr (fun e => own_ne_map M7.out hls7 e)))
          have HB8 := Lib.hid ((((below_drew HB6.out).trans (HB7.out.mono HB6.out.size)) : Below w.heap.size w w7).grown HG8.out (Nat.le_trans HB6.out.size HB7.out.size) (fun j hj => by injection hj with hj; subst hj; exact HBM.out))
          have HN8 := Lib.hid (R_old (Kd.R_below (Kd.R_drew HN6.out) HB7.out) HG8.out HZ3.out.2.2)
          clear HLs6 HB6 HN6 HO6 hls7 hcb6 hc7 M8 HG8 hup M7 HB7 HLu6
          have hosc : os.length + 1 ≤ cn := R_cap HN8.out
          go_wp2_with fail
          · obtain rfl : os = [] := List.length_eq_zero_iff.1 (by omega)
            refine wp_loop_rounds 1 ?_
            rw [rounds_succ]
            go_wp2_with fail
            have h := HUN.out
            unfold uniteAll at h
            injection h with h
            subst h
            exact ⟨⟨i + 1, c + 1, ls.set i (an : Int), rt, p6, _, _, rfl, hlt, by rw [List.length_set]; exact hlen, by omega, by have := HCI.out; omega, Lx.of g rt.length cap hggl HLu8.out, HLs8.out, HB8.out, HRU2.out⟩, meas_i hlt⟩
          · go_loopw [98] (fun u98 wr => ∃ (j cj : Nat) (pj rtj : List Int) (Mj : List (Option S38)), u98 = .int .i64 (j : Int) ∧ j ≤ os.length ∧ cj ≤ c + 1 + j ∧ Luw w.heap.size wr bp bf bb bm g rt.length cap cj pj rtj Mj ∧
              wr.ownsRow w.heap.size 3 1 (.slice (some ⟨gl, 0, none⟩) m capl) m (vals (ls.set i (an : Int))) ∧ Kd.R (Kd.int .i64) 3 wr bN (fun _ => True) (.slice (some ⟨gn, 0, none⟩) (os.length + 1) cn) ((an : Int) :: os) ∧ Below w.heap.size w wr ∧ uniteAll an (os.drop j) rtj Mj = some s1) (fun u98 _ => os.length - (intV u98).toNat)
            case atStart =>
              exact ⟨0, c + 1, p6, rt, _, rfl, Nat.zero_le _, Nat.le_refl _, HLu8.out, HLs8.out, HN8.out, HB8.out, HUN.out⟩
            case round =>
              obtain ⟨j, cj, pj, rtj, Mj, rfl, hjl, hcj, hLj, hlsj, hNj, hBj, huj⟩ := hrel
              have HLj := Lib.hid hLj
              have HLsj := Lib.hid hlsj
              have HNj := Lib.hid hNj
              have HBj := Lib.hid hBj
              have HUj := Lib.hid huj
              have HCj := Lib.hid hcj
              clear hLj hlsj hNj hBj huj hcj
              rcases Nat.lt_or_ge j os.length with hjt | hjg
              · have hjt' : (j : Int) < (os.length : Int) := by omega
                have hj0 : (0 : Int) ≤ (j : Int) := Int.natCast_nonneg _
                have hu := HUj.out
                rw [List.drop_eq_getElem_cons hjt] at hu
                obtain ⟨o, ho⟩ : ∃ o, os[j] = o := ⟨_, rfl⟩
                rw [ho] at hu
                unfold uniteAll at hu
                split at hu
                case isFalse => cases hu
                rename_i ho0
                split at hu
                case h_2 => cases hu
                rename_i s' hs'
                obtain ⟨ob, rfl⟩ := Int.eq_ofNat_of_zero_le ho0
                rw [Int.toNat_natCast] at hs'
                have hcg0 : wr.cell? ⟨gn, 0, none⟩ = some (.int .i64 (an : Int)) := R_cell0 HNj.out
                have hcg1 : wr.cell? ⟨gn, 1 + j, none⟩ = some (.int .i64 (ob : Int)) := R_cellS HNj.out j hjt ho
                have HU' := Lib.hid hu
                have HS' := Lib.hid hs'
                clear hu hs' ho
                go_wp2_with fail
                refine (unite_any an ob s'.1 s'.2 HS'.out (by omega) (by have := HCj.out; have := HOS.out; have := HCI.out; omega) HLj.out).mono ?_
                rintro e w' ⟨rfl, p', hL', hC'⟩
                have HL' := Lib.hid hL'
                have HC' := Lib.hid hC'
                clear hL' hC'
                go_wp2_with fail
                rw [step_i (show j < 1000000000 by have := HOS.out; omega)]
                refine ⟨⟨j + 1, cj + 1, p', s'.1, s'.2, rfl, hjt, by have := HCj.out; omega, HL'.out, ?_, R_chg HNj.out HC'.out (fun k hk => by have := HGN.out; have := HZ3.out.2.2; rcases hk with rfl | rfl <;> omega), HBj.out.trans (HC'.out.toBelow (fun k hk => by have := HGG.out; have := HBM.out; rcases hk with rfl | rfl <;> omega) HBj.out.size), HU'.out⟩, meas_i hjt⟩
                exact own_chg HLsj.out HC'.out (fun hk => by
                  rcases hk with rfl | rfl
                  · exact hggl rfl
                  · exact own_ne_map HLj.out.m HLsj.out rfl)
              · have hjt' : ¬ (j : Int) < (os.length : Int) := by omega
                go_wp2_with fail
                have h := HUj.out
                rw [List.drop_eq_nil_of_le (by omega)] at h
                unfold uniteAll at h
                injection h with h
                subst h
                have hrj : rtj.length = rt.length := by rw [← HLj.out.P.len, HLj.out.U.len]
                exact ⟨⟨i + 1, cj, ls.set i (an : Int), rtj, pj, Mj, _, rfl, hlt, by rw [List.length_set]; exact hlen, by omega, by have := HCI.out; have := HCj.out; have := HOS.out; omega, Lx.of g rt.length cap hggl HLj.out, HLsj.out, HBj.out, HRU2.out⟩, meas_i hlt⟩
    · have hlt' : ¬ (i : Int) < (m : Int) := by omega
      have hc1 := cell_of_one HLx.out.hb
      have hc2 := cell_of_one HLx.out.hf
      have efin : some (ls, rt, M) = some fin := by
        have h := HRU.out
        rw [List.drop_eq_nil_of_le (by omega)] at h
        unfold runF at h
        exact h
      have hend := HEND.out
      injection efin with efin
      subst efin
      have hin : ∀ l ∈ ls, 0 ≤ l → l < (rt.length : Int) ∧ (M.getD (rt.getD l.toNat 0).toNat none).isSome = true := by
        unfold okEnd at hend
        rw [List.all_eq_true] at hend
        exact fun l hl => of_decide_eq_true (hend l hl)
      have HIN := Lib.hid hin
      clear hin hend
      have key : ∃ g cap, g ≠ gl ∧ w.heap.size ≤ g ∧ (0 < rt.length → ∃ p, Luw w.heap.size wr bp bf bb bm g rt.length cap c p rt M) := by
        rcases Nat.eq_zero_or_pos rt.length with h0 | hp
        · exact ⟨gl + 1, 0, by omega, by have := HGL.out; omega, fun h => by omega⟩
        · obtain ⟨g, cap, e, hg, hL⟩ := HLx.out.luw hp
          exact ⟨g, cap, hg, Kd.R_base HLx.out.R g (by rw [e]; rfl), fun _ => ⟨p, hL⟩⟩
      obtain ⟨g, cap, hgl, hgb, hLu⟩ := key
      have HLu := Lib.hid hLu
      clear hLu
      go_wp2_with fail
      refine (numbered_any w.heap.size wr bp bf bb bm g rt.length cap c gl m capl rt M ls (by have := HCI.out; omega) (by omega) HLu.out HLx.out.m HLx.out.ml HLs.out hlen (by omega) (fun e => hgl e.symm) HIN.out).mono ?_
      rintro e w' ⟨v, rfl, ho, hR, hC⟩
      have HO := Lib.hid ho
      have HR := Lib.hid hR
      have HC := Lib.hid hC
      clear ho hR hC
      go_wp2_with fail
      go_ret2
      refine ⟨_, _, rfl, ?_, Kd.R_lower HR.out HB.out.size, HB.out.trans (HC.out.toBelow (fun j hj => by have := HGL.out; rcases hj with rfl | rfl <;> omega) HB.out.size)⟩
      refine Kd.R_of_own (enc := Value.int .i64) ?_ (fun _ _ => trivial)
      rw [List.length_map, hlen]
      exact HO.out
end Go.Proofs.Ytahibhipffojlaa.Label

namespace Go.Proofs.Ytahibhipffojlaa.M
open Go.Proofs.Ytahibhipffojlaa.Label Go.Proofs.Ytahibhipffojlaa.Num Go.RowKit Go.Proofs.YtahibhipffojlaaW.PrintWords Go.Proofs.YtahibhipffojlaaW.PrintMore
theorem label.calls (A0 : Option Addr) (c0 : Nat) (l0 : List Bool) (a1 : Int) (a2 : Bool) (r1 : List Int) (r2 : List S38) (w : World) (hr0 : Kd.C Kd.bool w A0 l0.length l0) (hc0 : l0.length ≤ c0) (h : label.f l0 a1 a2 = some (r1, r2)) :
    Calls Try.prog 36 #[.slice A0 l0.length c0, .int .i64 a1, .bool a2] w fun e w' => ∃ v0_ v1_ : Value, e = .returned (.tuple #[v0_, v1_]) ∧ Kd.R (Kd.int .i64) 3 w' w.heap.size (fun _ => True) v0_ r1 ∧ Kd.R k38 38 w' w.heap.size (fun _ => True) v1_ r2 ∧ Below w.heap.size w w' := by
  unfold label.f at h
  split at h
  case isFalse => cases h
  rename_i hg
  split at h
  case h_2 => cases h
  rename_i ls rt M hrun
  split at h
  case isFalse => cases h
  rename_i hend
  injection h with h
  injection h with h1 h2
  subst h1 h2
  exact label_walk A0 c0 l0 a1 a2 w hr0 hc0 (ls, rt, M) hg.1 hg.2.1 hg.2.2.1 hg.2.2.2 hrun hend
end Go.Proofs.Ytahibhipffojlaa.M
