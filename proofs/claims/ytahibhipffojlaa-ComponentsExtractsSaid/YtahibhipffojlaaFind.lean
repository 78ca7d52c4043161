/- The closure find of components.label returns the root of an entry, and leaves a table of parents with the same roots. -/
import Derived.Test.YtahibhipffojlaaProg
import Derived.Test.YtahibhipffojlaaUf
import Derived.WalkKit
import Derived.WalkSpells
import Derived.WalkLawsBesides
import Derived.Test.YtahibhipffojlaaWalk
import Derived.Deep.AppendLies
import Derived.Laws.Pointers
import Derived.OneCell
import Derived.KernelRfl
import Derived.Lib.Hide
import Derived.Maps.AppendAt
set_option linter.unusedSimpArgs false
set_option linter.unusedVariables false
namespace Go.Proofs.Ytahibhipffojlaa.Find
open Go.RowKit Go.Proofs.Ytahibhipffojlaa.Uf Go.Proofs.YtahibhipffojlaaW.PrintLast Go.Proofs.Ytahibhipffojlaa.Walk

theorem ret_int {k : IntKind} {a b : Int} (h : a = b) : Ending.returned (.int k a) = .returned (.int k b) := by rw [h]

def vals (p : List Int) : List Value := p.map (Value.int .i64)

/-- The table of parents p in block g, its variable in block bp; the closure find in block bf. -/
structure Ufw (base : Nat) (w : World) (bp bf g n cap : Nat) (p : List Int) : Prop where
  len : p.length = n
  hp : w.heap[bp]? = some (.cells #[.slice (some ⟨g, 0, none⟩) n cap] 27 (0, 0))
  hf : w.heap[bf]? = some (.cells #[.func (.func 46) #[] #[.pointer (some ⟨bp, 0, none⟩), .pointer (some ⟨bf, 0, none⟩)]] 63 (0, 0))
  own : w.ownsRow base 3 1 (.slice (some ⟨g, 0, none⟩) n cap) n (vals p)

section
variable {base : Nat} {w : World} {bp bf g n cap : Nat} {p : List Int}
theorem Ufw.drew (U : Ufw base w bp bf g n cap p) : Ufw base w.drew bp bf g n cap p := ⟨U.len, U.hp, U.hf, U.own⟩
theorem Ufw.at_ (U : Ufw base w bp bf g n cap p) (a : Nat) (ha : a < n) : w.cell? ⟨g, a, none⟩ = some (.int .i64 (p.getD a 0)) := by
  rw [U.own.cellAt a (by omega)]
  simp only [vals, List.getElem?_map]
  have hl := U.len
  rw [List.getElem?_eq_getElem (by omega), List.getD_eq_getElem?_getD, List.getElem?_eq_getElem (by omega)]; rfl
theorem Ufw.gp (U : Ufw base w bp bf g n cap p) : g ≠ bp := by
  rintro rfl
  rcases U.own.2 with ⟨h, _⟩ | ⟨g', cap', cur, h, _, hh, _⟩
  · cases h
  · injection h with h; injection h with h; injection h with h
    subst h
    rw [U.hp] at hh; injection hh with hh; injection hh with _ h3; exact absurd h3 (by decide)
theorem Ufw.gf (U : Ufw base w bp bf g n cap p) : g ≠ bf := by
  rintro rfl
  rcases U.own.2 with ⟨h, _⟩ | ⟨g', cap', cur, h, _, hh, _⟩
  · cases h
  · injection h with h; injection h with h; injection h with h
    subst h
    rw [U.hf] at hh; injection hh with hh; injection hh with _ h3; exact absurd h3 (by decide)
theorem vals_set (p : List Int) (a : Nat) (x : Int) : (vals p).set a (.int .i64 x) = vals (p.set a x) := by simp [vals]
theorem Ufw.set_ (U : Ufw base w bp bf g n cap p) (a : Nat) (x : Int) : Ufw base (w.setCell ⟨g, a, none⟩ (.int .i64 x)) bp bf g n cap (p.set a x) :=
  ⟨by rw [List.length_set]; exact U.len, (Below.heap_setCell w _ _ bp (fun e => U.gp e.symm)).trans U.hp, (Below.heap_setCell w _ _ bf (fun e => U.gf e.symm)).trans U.hf, by
    rw [← vals_set]; exact (U.own.stored a _).1⟩
end
theorem grown_set (w : World) (g a : Nat) (x : Value) : w.grownBy (w.setCell ⟨g, a, none⟩ x) (some g) :=
  ⟨rfl, rfl, rfl, by simp [World.setCell], fun i _ hi => Below.heap_setCell w _ _ i (fun e => hi (by rw [e]))⟩
theorem grown_drew {w w' : World} {row : Option Nat} (h : w.drew.grownBy w' row) : w.grownBy w' row := ⟨h.os, h.tape, h.output, h.size, h.block⟩

def FindPost (p rt : List Int) (base : Nat) (w : World) (bp bf g n cap a : Nat) (e : Ending) (w' : World) : Prop :=
  e = .returned (.int .i64 (rt.getD a 0)) ∧ ∃ p', Par p' rt ∧ Ufw base w' bp bf g n cap p' ∧ (∀ j : Nat, a < j → p'.getD j 0 = p.getD j 0) ∧ w.grownBy w' (some g)

theorem at_self (rt : List Int) (base : Nat) (w : World) (bp bf g n cap a : Nat) (p : List Int) (P : Par p rt) (U : Ufw base w bp bf g n cap p) (ha : a < n) (e : p.getD a 0 = a) :
    Calls Try.prog 46 #[.int .i64 (a : Int), .pointer (some ⟨bp, 0, none⟩), .pointer (some ⟨bf, 0, none⟩)] w (FindPost p rt base w bp bf g n cap a) := by
  have hc1 : w.cell? ⟨bp, 0, none⟩ = some (.slice (some ⟨g, 0, none⟩) n cap) := cell_of_one U.hp
  have hc2 : w.cell? ⟨g, a, none⟩ = some (.int .i64 (a : Int)) := by rw [U.at_ a ha, e]
  have hi0 : (0 : Int) ≤ (a : Int) := Int.natCast_nonneg _
  have hi1 : (a : Int) < (n : Int) := by omega
  have hl := Lib.hid U.len
  have HE := Lib.hid e
  clear e
  go_enter Try.func46, Try.ntmps46
  go_wp2
  go_ret
  exact ⟨ret_int (P.self a (by rw [hl.out]; exact ha) HE.out).symm, p, P, U, fun _ _ => rfl, World.grownBy.refl w _⟩

set_option maxRecDepth 100000 in
set_option maxHeartbeats 1000000 in
theorem at_other (rt : List Int) (base : Nat) (w : World) (bp bf g n cap a b : Nat) (p : List Int) (P : Par p rt) (U : Ufw base w bp bf g n cap p) (ha : a < n) (hb : p.getD a 0 = b) (hba : b < a)
    (ih : ∀ w1, Ufw base w1 bp bf g n cap p → Calls Try.prog 46 #[.int .i64 (b : Int), .pointer (some ⟨bp, 0, none⟩), .pointer (some ⟨bf, 0, none⟩)] w1 (FindPost p rt base w1 bp bf g n cap b)) :
    Calls Try.prog 46 #[.int .i64 (a : Int), .pointer (some ⟨bp, 0, none⟩), .pointer (some ⟨bf, 0, none⟩)] w (FindPost p rt base w bp bf g n cap a) := by
  have hc1 : w.cell? ⟨bp, 0, none⟩ = some (.slice (some ⟨g, 0, none⟩) n cap) := cell_of_one U.hp
  have hc3 : w.cell? ⟨bf, 0, none⟩ = some (.func (.func 46) #[] #[.pointer (some ⟨bp, 0, none⟩), .pointer (some ⟨bf, 0, none⟩)]) := cell_of_one U.hf
  have hc2 : w.cell? ⟨g, a, none⟩ = some (.int .i64 (b : Int)) := by rw [U.at_ a ha, hb]
  have hi0 : (0 : Int) ≤ (a : Int) := Int.natCast_nonneg _
  have hi1 : (a : Int) < (n : Int) := by omega
  have hne : ((b : Int) != (a : Int)) = true := by rw [bne_iff_ne]; omega
  have hne2 : ((b : Int) == (a : Int)) = false := by rw [beq_eq_false_iff_ne]; omega
  have IH := Lib.hid ih
  clear ih
  have HU := Lib.hid U
  have HP := Lib.hid P
  have HB := Lib.hid hb
  clear U P hb
  go_enter Try.func46, Try.ntmps46
  go_wp2_with fail
  refine start_ (n := 10) (S := fun w' => w'.cell? ⟨bp, 0, none⟩ = some (.slice (some ⟨g, 0, none⟩) n cap) ∧ w'.cell? ⟨bf, 0, none⟩ = some (.func (.func 46) #[] #[.pointer (some ⟨bp, 0, none⟩), .pointer (some ⟨bf, 0, none⟩)]) ∧ w'.cell? ⟨g, a, none⟩ = some (.int .i64 (b : Int))) (ds := [9]) #[false, false, false, false, false, false, false, false, false, false] (by kernel_rfl) rfl rfl ⟨hc1, hc3, hc2⟩ (fun hHeld => ?_)
  refine pure_ (i := 1) (N := some 12) (v := ?_) (a' := ?_) #[false, true, false, false, false, false, false, false, false, false] rfl rfl (by kernel_rfl) (fun _ _ _ h => h) (Or.inl ⟨by rfl, ?_⟩) ?_ ?_
  rotate_left
  · intro w'
    go_simp
    with_reducible rfl
  rotate_left
  · simp only [Act.put, List.setIfInBounds_toArray, List.set_cons_zero, List.set_cons_succ, i64_w, i32_w]
    rfl
  refine pure_ (i := 4) (N := some 15) (v := ?_) (a' := ?_) #[false, true, false, false, true, false, false, false, false, false] rfl rfl (by kernel_rfl) (fun _ _ _ h => h) (Or.inl ⟨by rfl, ?_⟩) ?_ ?_
  rotate_left
  · intro w'
    go_simp
    with_reducible rfl
  rotate_left
  · simp only [Act.put, List.setIfInBounds_toArray, List.set_cons_zero, List.set_cons_succ, i64_w, i32_w]
    rfl
  refine take_ (i := 0) (N := some 11) (v := ?_) (a' := ?_) #[true, true, false, false, true, false, false, false, false, false] rfl rfl (by kernel_rfl) (fun _ _ _ h => h) (Or.inl ⟨by rfl, ?_⟩) hHeld ?_ ?_
  rotate_left
  · rintro w' ⟨s0, s1, s2⟩
    go_simp
    with_reducible rfl
  rotate_left
  · simp only [Act.put, List.setIfInBounds_toArray, List.set_cons_zero, List.set_cons_succ, i64_w, i32_w]
    rfl
  refine take_ (i := 2) (N := some 13) (v := ?_) (a' := ?_) #[true, true, true, false, true, false, false, false, false, false] rfl rfl (by kernel_rfl) (fun _ _ _ h => h) (Or.inl ⟨by rfl, ?_⟩) hHeld ?_ ?_
  rotate_left
  · rintro w' ⟨s0, s1, s2⟩
    go_simp
    with_reducible rfl
  rotate_left
  · simp only [Act.put, List.setIfInBounds_toArray, List.set_cons_zero, List.set_cons_succ, i64_w, i32_w]
    rfl
  refine take_ (i := 3) (N := some 14) (v := ?_) (a' := ?_) #[true, true, true, true, true, false, false, false, false, false] rfl rfl (by kernel_rfl) (fun _ _ _ h => h) (Or.inl ⟨by rfl, ?_⟩) hHeld ?_ ?_
  rotate_left
  · rintro w' ⟨s0, s1, s2⟩
    go_simp
    with_reducible rfl
  rotate_left
  · simp only [Act.put, List.setIfInBounds_toArray, List.set_cons_zero, List.set_cons_succ, i64_w, i32_w]
    rfl
  refine pure_ (i := 5) (N := some 16) (v := ?_) (a' := ?_) #[true, true, true, true, true, true, false, false, false, false] rfl rfl (by kernel_rfl) (fun _ _ _ h => h) (Or.inl ⟨by rfl, ?_⟩) ?_ ?_
  rotate_left
  · intro w'
    go_simp
    with_reducible rfl
  rotate_left
  · simp only [Act.put, List.setIfInBounds_toArray, List.set_cons_zero, List.set_cons_succ, i64_w, i32_w]
    rfl
  refine take_ (i := 6) (N := some 17) (v := ?_) (a' := ?_) #[true, true, true, true, true, true, true, false, false, false] rfl rfl (by kernel_rfl) (fun _ _ _ h => h) (Or.inl ⟨by rfl, ?_⟩) hHeld ?_ ?_
  rotate_left
  · rintro w' ⟨s0, s1, s2⟩
    go_simp
    with_reducible rfl
  rotate_left
  · simp only [Act.put, List.setIfInBounds_toArray, List.set_cons_zero, List.set_cons_succ, i64_w, i32_w]
    rfl
  refine one_ (i := 7) (N := some 18) #[true, true, true, true, true, true, true, true, false, false] rfl rfl (by kernel_rfl) (by decide) (fun K hK => ?_)
  refine goesV #[.pointer (some ⟨bp, 0, none⟩), .pointer (some ⟨bf, 0, none⟩)] Try.func46 (by kernel_rfl) rfl #[.int .i64 (b : Int), .pointer (some ⟨bp, 0, none⟩), .pointer (some ⟨bf, 0, none⟩)] (by rfl) rfl rfl (by rfl) (by simp only [List.map_toArray, List.map_cons, List.map_nil, List.append_toArray, List.cons_append, List.nil_append]; rfl) ?_
  with_reducible refine (IH.out _ HU.out.drew).mono ?_
  rintro e w1 ⟨rfl, p1, P1, U1, hj1, hg1⟩
  refine ⟨_, rfl, ?_⟩
  have hk1 := cell_of_one U1.hp
  have hk3 := cell_of_one U1.hf
  have hk2 : w1.cell? ⟨g, a, none⟩ = some (.int .i64 (b : Int)) := (by rw [U1.at_ a ha, hj1 a hba, HB.out])
  have hfz := U1.own.frozenAt a
  have HU1 := Lib.hid U1; have HP1 := Lib.hid P1; have HJ1 := Lib.hid hj1; have HG1 := Lib.hid hg1; clear U1 P1 hj1 hg1
  refine hK.out _ _ ⟨hk1, hk3, hk2⟩ (fun hHeld => ?_)
  clear hK K
  refine norm_ (a' := ?_) ?_ ?_
  rotate_left
  · show Act.put _ (some 18) _ = _
    simp only [Act.put, List.setIfInBounds_toArray, List.set_cons_zero, List.set_cons_succ, i64_w, i32_w]
    rfl
  refine pure_ (i := 8) (N := some 19) (v := ?_) (a' := ?_) #[true, true, true, true, true, true, true, true, true, false] rfl rfl (by kernel_rfl) (fun _ _ _ h => h) (Or.inl ⟨by rfl, ?_⟩) ?_ ?_
  rotate_left
  · intro w'
    go_simp
    with_reducible rfl
  rotate_left
  · simp only [Act.put, List.setIfInBounds_toArray, List.set_cons_zero, List.set_cons_succ, i64_w, i32_w]
    rfl
  refine last_ (i := 9) (N := none) #[true, true, true, true, true, true, true, true, true, true] rfl rfl (by kernel_rfl) (by decide) (fun K hK => ?_)
  refine skip_ (w1 := ?_) (by rfl) rfl ?_ ?_
  rotate_left
  · go_simp
    rfl
  refine hK.out _ _ ?_
  clear hK K
  refine done_ (by kernel_rfl) ?_

  have hs := HU1.out.set_ a (rt.getD b 0)
  have hs1 := cell_of_one hs.hp
  have hs2 := hs.at_ a ha
  have hl1 := HU1.out.len
  rw [getD_set, if_pos ⟨rfl, by omega⟩] at hs2
  have HS := Lib.hid hs
  have HL := Lib.hid hl1
  clear hs hl1
  go_wp2
  go_ret
  have hl := HU.out.len
  have er : rt.getD a 0 = rt.getD b 0 := by
    have := HP.out.up a (by omega) (by rw [HB.out]; omega)
    rw [this, HB.out, Int.toNat_natCast]
  refine ⟨ret_int er.symm, p1.set a (rt.getD b 0), ?_, HS.out, fun j hj => ?_, ?_⟩
  · have := HP1.out.short a (by rw [HL.out]; exact ha)
    rw [er] at this
    exact this
  · rw [getD_set, if_neg (by omega)]; exact HJ1.out j (by omega)
  · exact (grown_drew HG1.out).trans (grown_set _ _ _ _)

/-- The closure find, at every entry. -/
theorem find_any (rt : List Int) (base bp bf g n cap : Nat) : ∀ m a : Nat, a < m → ∀ (w : World) (p : List Int), Par p rt → Ufw base w bp bf g n cap p → a < n →
    Calls Try.prog 46 #[.int .i64 (a : Int), .pointer (some ⟨bp, 0, none⟩), .pointer (some ⟨bf, 0, none⟩)] w (FindPost p rt base w bp bf g n cap a) := by
  intro m
  induction m with
  | zero => intro a h; omega
  | succ m ih =>
    intro a ham w p P U ha
    have hl := U.len
    have h0 := P.lo a (by omega)
    have h1 := P.hi a (by omega)
    by_cases e : p.getD a 0 = a
    · exact at_self rt base w bp bf g n cap a p P U ha e
    · exact at_other rt base w bp bf g n cap a (p.getD a 0).toNat p P U ha (by omega) (by omega) (fun w1 U1 => ih _ (by omega) w1 p P U1 (by omega))
end Go.Proofs.Ytahibhipffojlaa.Find
