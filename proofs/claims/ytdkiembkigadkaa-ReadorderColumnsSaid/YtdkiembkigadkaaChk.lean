/- readorder.check returns the specified error number. -/
import Derived.Test.YtdkiembkigadkaaCmp
import Derived.Shelf.SlicesQ.IndexFunc
set_option linter.unusedSimpArgs false
set_option linter.unusedVariables false
namespace Go.Proofs.Ytdkiembkigadkaa.M
open Go.RowKit Go.Shelf Go.Proofs.YtdkiembkigadkaaW.PrintLast Go.Proofs.YtdkiembkigadkaaW.PrintWords Go.Proofs.YtdkiembkigadkaaW.PrintMore
instance : Inhabited S31 := ⟨z31⟩
def laysCF_ren : Go.Shelf.Ren := ⟨fun | 6 => 57 | 8 => 44 | n => n, fun | 23 => 31 | 25 => 33 | n => n, fun n => n⟩
theorem laysCF : SlLaysH0.n8 Try.prog laysCF_ren where
  mixed := by kernel_rfl
  f6 := ⟨Try.f57.name, by decide, Try.func57.trans (congrArg some (by kernel_rfl))⟩
  f8 := ⟨Try.f44.name, by decide, Try.func44.trans (congrArg some (by kernel_rfl))⟩
  t0 := Try.underlying0
  a0 := Try.isAgg0
  z0 := Try.sizeOf0
  v0 := Try.zeroValue0
  t3 := Try.underlying3
  a3 := Try.isAgg3
  z3 := Try.sizeOf3
  v3 := Try.zeroValue3
  t4 := Try.underlying4
  a4 := Try.isAgg4
  z4 := Try.sizeOf4
  v4 := Try.zeroValue4
  t22 := Try.underlying22
  a22 := Try.isAgg22
  z22 := Try.sizeOf22
  v22 := Try.zeroValue22
  t25 := Try.underlying33
  a25 := Try.isAgg33
  z25 := Try.sizeOf33
  v25 := Try.zeroValue33
def enc31 (b : S31) : List Value := [.int .i64 b.f0, .int .i64 b.f1, .int .i64 b.f2, .int .i64 b.f3]
/-- a box is not valid: the closure -/
theorem inval_any (b : S31) (W : World) : Calls Try.prog 45 #[.agg #[.int .i64 b.f0, .int .i64 b.f1, .int .i64 b.f2, .int .i64 b.f3]] W fun e w' => e = .returned (.bool (!vldB b)) ∧ Below W.heap.size W w' := by
  go_enter Try.func45, Try.ntmps45
  go_wp2_with (go_at_call 30; refine (readorder_valid.calls _ _ _ _ _ _ (valid_f b)).mono ?_; rintro e w' ⟨rfl, hb⟩)
  go_ret
  exact ⟨rfl, below_then ((Below.refl _ _).alloc (Nat.le_refl _) _) (by simp) hb⟩
theorem pred_inval (w : World) : PredBelow Try.prog 45 #[] (fun x => .agg (enc31 x).toArray) (fun b => !vldB b) w := fun W x hb =>
  (inval_any x W).mono fun _ _ ⟨he, h⟩ => ⟨he, below_then hb hb.size h⟩
theorem plain_addr {w : World} {ad : Addr} {v : Value} (h : w.cell? ad = some v) : ad = ⟨ad.block, ad.off, none⟩ := by
  obtain ⟨b, o, s⟩ := ad
  cases s with
  | none => rfl
  | some x =>
    exfalso
    unfold World.cell? at h
    split at h
    · simp at h
    · cases h
theorem C31_cells {w : World} {ad : Addr} {l0 : List S31} (hr0 : Kd.C k31 w (some ad) l0.length l0) (hp : 0 < l0.length) :
    ad.block < w.heap.size ∧ ad = ⟨ad.block, ad.off, none⟩ ∧ ∀ j, j < l0.length → ∀ i v, (enc31 l0[j]!)[i]? = some v → w.cell? ⟨ad.block, ad.off + j * 4 + i, none⟩ = some v := by
  obtain ⟨ad0, c, e0, _, hK, hc⟩ := Kd.C_get hr0 z31 0 (Int.le_refl _) (by omega)
  have h00 := hc 0 _ (by rw [k31_open hK]; rfl)
  have e : ad0 = ad := (Option.some.inj e0).symm
  subst e
  have h01 : w.cell? ad0 = some _ := h00
  have hpl := plain_addr h01
  refine ⟨World.block_lt_of_cell? w _ h01, hpl, fun j hj i v hi => ?_⟩
  obtain ⟨ad1, c1, e1, _, hK1, hc1⟩ := Kd.C_get hr0 z31 (j : Int) (Int.natCast_nonneg _) (by omega)
  have e : ad1 = ad0 := (Option.some.inj e1).symm
  subst e
  have h := hc1 i v (by
    rw [k31_open hK1]
    have : l0.getD ((j : Int).toNat) z31 = l0[j]! := by
      rw [Int.toNat_natCast, getElem!_def, List.getD_eq_getElem?_getD]
      cases l0[j]? <;> rfl
    rw [this]
    exact hi)
  rw [Int.toNat_natCast] at h
  have h4 : k31.sz = 4 := rfl
  rw [h4, hpl] at h
  have ha : (⟨ad1.block, ad1.off, none⟩ : Addr).add (j * 4 + i) = ⟨ad1.block, ad1.off + j * 4 + i, none⟩ := by
    unfold Addr.add
    split
    · next q => simp only [Addr.mk.injEq, true_and, and_true]; omega
    · simp [Nat.add_assoc]
  rw [ha] at h
  exact h
/-- the boxes of a row: some are not valid -/
theorem contains_any (A0 : Option Addr) (c0 : Nat) (l0 : List S31) (w : World) (hr0 : Kd.C k31 w A0 l0.length l0) :
    Calls Try.prog 44 #[.slice A0 l0.length c0, .func (.func 45) #[] #[]] w fun e w' => e = .returned (.bool (l0.any fun b => !vldB b)) ∧ Below w.heap.size w w' := by
  rcases A0 with _ | ad
  · have h0 : l0 = [] := by
      rcases Nat.eq_zero_or_pos l0.length with h0 | h0
      · exact List.length_eq_zero_iff.1 h0
      · obtain ⟨ad, h, _⟩ := hr0.2.2 h0
        cases h
    subst h0
    have hi : ∀ w : World, Calls Try.prog 57 #[.slice none 0 c0, .func (.func 45) #[] #[]] w fun e w' => e = .returned (.int .i64 (-1)) ∧ w = w' := by
      intro w
      go_enter Try.func57, Try.ntmps57
      go_wp2
      refine wp_loop_rounds 1 ?_
      rw [rounds_succ]
      go_wp2
      go_ret
      exact ⟨rfl, rfl⟩
    go_enter Try.func44, Try.ntmps44
    go_wp2_with (go_at_call 57; refine (hi _).mono ?_; rintro e w' ⟨rfl, rfl⟩)
    go_ret
    exact ⟨rfl, Below.refl _ _⟩
  · rcases Nat.eq_zero_or_pos l0.length with h0 | hp
    · have h0 : l0 = [] := List.length_eq_zero_iff.1 h0
      subst h0
      have hi : ∀ w : World, Calls Try.prog 57 #[.slice (some ad) 0 c0, .func (.func 45) #[] #[]] w fun e w' => e = .returned (.int .i64 (-1)) ∧ w = w' := by
        intro w
        go_enter Try.func57, Try.ntmps57
        go_wp2
        refine wp_loop_rounds 1 ?_
        rw [rounds_succ]
        go_wp2
        go_ret
        exact ⟨rfl, rfl⟩
      go_enter Try.func44, Try.ntmps44
      go_wp2_with (go_at_call 57; refine (hi _).mono ?_; rintro e w' ⟨rfl, rfl⟩)
      go_ret
      exact ⟨rfl, Below.refl _ _⟩
    · obtain ⟨h1, h2, h3⟩ := C31_cells hr0 hp
      have h := AnyQ.slices_ContainsFunc (P := Try.prog) (ρ := laysCF_ren) laysCF 4 Try.isAgg31 Try.sizeOf31 enc31 (fun _ => rfl) (fun b => !vldB b) 45 #[] (enters_of Try.func45 (by kernel_rfl) rfl) ad.block ad.off l0.length c0 l0 w (pred_inval w) (Nat.le_refl _) hr0.2.1 h1 h3
      rw [List.take_length, ← h2] at h
      exact h
def check.f (l0 : List S31) (a1 : Int) : Option Int := some (if 4096 < l0.length then 4 else if (l0.any fun b => !vldB b) = true then 3 else if a1 < 0 then 3 else if 4096 < a1 then 3 else 0)
theorem check.calls (A0 : Option Addr) (c0 : Nat) (l0 : List S31) (a1 : Int) (r1 : Int) (w : World) (hr0 : Kd.C k31 w A0 l0.length l0) (hc0 : l0.length ≤ c0) (h : check.f l0 a1 = some r1) :
    Calls Try.prog 26 #[.slice A0 l0.length c0, .int .i64 a1] w fun e w' => e = .returned (.int .i64 r1) ∧ Below w.heap.size w w' := by
  obtain rfl := Option.some.inj h
  have hcl := contains_any A0 c0 l0 w hr0
  clear h hr0 hc0
  generalize (l0.any fun b => !vldB b) = q at hcl ⊢
  generalize l0.length = n at hcl ⊢
  by_cases h1 : 4096 < n
  · rw [if_pos h1]
    have h2 : decide ((4096 : Int) < (n : Int)) = true := decide_eq_true (by omega)
    clear hcl
    go_enter Try.func26, Try.ntmps26
    go_wp2
    go_ret
    exact ⟨rfl, Below.refl _ _⟩
  · rw [if_neg h1]
    have h2 : decide ((4096 : Int) < (n : Int)) = false := decide_eq_false (by omega)
    clear h1
    cases q with
    | true =>
      go_enter Try.func26, Try.ntmps26
      go_wp2_with (go_at_call 44; refine hcl.mono ?_; rintro e w' ⟨rfl, hb⟩)
      go_ret
      exact ⟨rfl, hb⟩
    | false =>
      rw [if_neg (by decide)]
      by_cases h3 : a1 < 0
      · rw [if_pos h3]
        have h4 : decide (a1 < 0) = true := decide_eq_true h3
        clear h3
        go_enter Try.func26, Try.ntmps26
        go_wp2_with (go_at_call 44; refine hcl.mono ?_; rintro e w' ⟨rfl, hb⟩)
        go_ret
        exact ⟨rfl, hb⟩
      · rw [if_neg h3]
        have h4 : decide (a1 < 0) = false := decide_eq_false h3
        clear h3
        by_cases h5 : 4096 < a1
        · rw [if_pos h5]
          have h6 : decide (4096 < a1) = true := decide_eq_true h5
          clear h5
          go_enter Try.func26, Try.ntmps26
          go_wp2_with (go_at_call 44; refine hcl.mono ?_; rintro e w' ⟨rfl, hb⟩)
          go_ret
          exact ⟨rfl, hb⟩
        · rw [if_neg h5]
          have h6 : decide (4096 < a1) = false := decide_eq_false h5
          clear h5
          go_enter Try.func26, Try.ntmps26
          go_wp2_with (go_at_call 44; refine hcl.mono ?_; rintro e w' ⟨rfl, hb⟩)
          go_ret
          exact ⟨rfl, hb⟩
end Go.Proofs.Ytdkiembkigadkaa.M
