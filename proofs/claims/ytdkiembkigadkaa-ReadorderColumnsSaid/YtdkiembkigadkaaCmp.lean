/- cmp.Compare and cmp.Or at ints; a box is valid or not. -/
import Derived.Test.YtdkiembkigadkaaMx1
import Derived.WalkKit
import Derived.WalkSpells
import Derived.KernelRfl
import Derived.Lib.Hide
import Derived.Outline
set_option linter.unusedSimpArgs false
set_option linter.unusedVariables false
namespace Go.Proofs.Ytdkiembkigadkaa.M
open Go.RowKit Go.Proofs.YtdkiembkigadkaaW.PrintLast Go.Proofs.YtdkiembkigadkaaW.PrintWords Go.Proofs.YtdkiembkigadkaaW.PrintMore
def cmpI (x y : Int) : Int := if x < y then -1 else if y < x then 1 else 0
theorem isNaN_any (x : Int) (w : World) : Calls Try.prog 50 #[.int .i64 x] w fun e w' => e = .returned (.bool false) ∧ w = w' := by
  go_enter Try.func50, Try.ntmps50
  go_wp2
  go_ret
  exact ⟨by simp, rfl⟩
theorem compare_any (x y : Int) (w : World) : Calls Try.prog 34 #[.int .i64 x, .int .i64 y] w fun e w' => e = .returned (.int .i64 (cmpI x y)) ∧ w = w' := by
  unfold cmpI
  by_cases h : x < y
  · rw [if_pos h]
    go_enter Try.func34, Try.ntmps34
    go_wp2_with (go_at_call 50; refine (isNaN_any _ _).mono ?_; rintro e w' ⟨rfl, rfl⟩)
    go_ret
    exact ⟨rfl, rfl⟩
  · rw [if_neg h]
    have h1 : decide (x < y) = false := decide_eq_false h
    by_cases h2 : y < x
    · rw [if_pos h2]
      go_enter Try.func34, Try.ntmps34
      go_wp2_with (go_at_call 50; refine (isNaN_any _ _).mono ?_; rintro e w' ⟨rfl, rfl⟩)
      go_ret
      exact ⟨rfl, rfl⟩
    · rw [if_neg h2]
      have h3 : decide (y < x) = false := decide_eq_false h2
      go_enter Try.func34, Try.ntmps34
      go_wp2_with (go_at_call 50; refine (isNaN_any _ _).mono ?_; rintro e w' ⟨rfl, rfl⟩)
      go_ret
      exact ⟨rfl, rfl⟩
def or3 (a b c : Int) : Int := if a = 0 then (if b = 0 then c else b) else a
/-- cmp.Or of three numbers in a block of their own -/
theorem or_any (a b c : Int) (g n : Nat) (w : World) (ha : w.cell? ⟨g, 0, none⟩ = some (.int .i64 a)) (hb : w.cell? ⟨g, 1, none⟩ = some (.int .i64 b)) (hc : w.cell? ⟨g, 2, none⟩ = some (.int .i64 c)) :
    Calls Try.prog 55 #[.slice (some ⟨g, 0, none⟩) 3 n] w fun e w' => e = .returned (.int .i64 (or3 a b c)) ∧ w = w' := by
  unfold or3
  by_cases h1 : a = 0
  · subst h1
    rw [if_pos rfl]
    by_cases h2 : b = 0
    · subst h2
      rw [if_pos rfl]
      by_cases h3 : c = 0
      · subst h3
        go_enter Try.func55, Try.ntmps55
        go_wp2
        refine wp_loop_rounds 4 ?_
        rw [rounds_succ]
        go_wp2
        rw [rounds_succ]
        go_wp2
        rw [rounds_succ]
        go_wp2
        rw [rounds_succ]
        go_wp2
        go_ret
        exact ⟨rfl, rfl⟩
      · have h3' : (c == 0) = false := by simpa using h3
        have h3'' : (c != 0) = true := by simpa using h3
        clear h3
        go_enter Try.func55, Try.ntmps55
        go_wp2
        refine wp_loop_rounds 3 ?_
        rw [rounds_succ]
        go_wp2
        rw [rounds_succ]
        go_wp2
        rw [rounds_succ]
        go_wp2
        go_ret
        exact ⟨rfl, rfl⟩
    · rw [if_neg h2]
      have h3' : (b == 0) = false := by simpa using h2
      have h3'' : (b != 0) = true := by simpa using h2
      clear h2
      go_enter Try.func55, Try.ntmps55
      go_wp2
      refine wp_loop_rounds 2 ?_
      rw [rounds_succ]
      go_wp2
      rw [rounds_succ]
      go_wp2
      go_ret
      exact ⟨rfl, rfl⟩
  · rw [if_neg h1]
    have h3' : (a == 0) = false := by simpa using h1
    have h3'' : (a != 0) = true := by simpa using h1
    clear h1
    go_enter Try.func55, Try.ntmps55
    go_wp2
    refine wp_loop_rounds 1 ?_
    rw [rounds_succ]
    go_wp2
    go_ret
    exact ⟨rfl, rfl⟩
/-- a box is valid -/
def vldB (b : S31) : Bool := decide (-4096 ≤ b.f0 ∧ b.f0 ≤ 4096 ∧ -4096 ≤ b.f1 ∧ b.f1 ≤ 4096 ∧ 1 ≤ b.f2 ∧ b.f2 ≤ 4096 ∧ 1 ≤ b.f3 ∧ b.f3 ≤ 4096)
theorem valid_f (b : S31) : readorder_valid.f b.f0 b.f1 b.f2 b.f3 = some (vldB b) := by
  unfold readorder_valid.f vldB
  repeat' split
  all_goals (congr 1; simp only [decide_eq_decide, eq_comm (a := false), decide_eq_false_iff_not]; omega)
end Go.Proofs.Ytdkiembkigadkaa.M
