/- components.neighbours returns the labels of the neighbours that come before a pixel. -/
import Derived.Test.YtahibhipffojlaaWalk
import Derived.Test.YtahibhipffojlaaMx0
import Derived.Outline
set_option linter.unusedSimpArgs false
set_option linter.unusedVariables false
namespace Go.Proofs.Ytahibhipffojlaa.Nb
open Go.RowKit Go.Proofs.YtahibhipffojlaaW.PrintLast Go.Proofs.YtahibhipffojlaaW.PrintWords Go.Proofs.YtahibhipffojlaaW.PrintMore Go.Proofs.Ytahibhipffojlaa.Walk Go.Proofs.Ytahibhipffojlaa.M

/-- what the closure add makes of a list -/
def addF (ls : List Int) (is : Bool) (at_ : Int) (xs : List Int) : List Int := if is = true ∧ 0 ≤ at_ ∧ 0 ≤ rd ls at_ then xs ++ [rd ls at_] else xs

structure Nbw (base : Nat) (w0 w : World) (bl bo gl n cl : Nat) (vo : Value) (xs : List Int) : Prop where
  B : Below base w0 w
  size : base ≤ w.heap.size
  hl : w.heap[bl]? = some (.cells #[.slice (some ⟨gl, 0, none⟩) n cl] 27 (0, 0))
  ho : w.heap[bo]? = some (.cells #[vo] 27 (0, 0))
  own : Kd.R (Kd.int .i64) 3 w base (fun _ => True) vo xs
  bb : base ≤ bo
  ne : bl ≠ bo

section
variable {base : Nat} {w0 w : World} {bl bo gl n cl : Nat} {vo : Value} {xs : List Int}
def AddPost (base : Nat) (w0 : World) (bl bo gl n cl : Nat) (ys : List Int) (e : Ending) (w' : World) : Prop := e = .returned (.tuple #[]) ∧ ∃ v', Nbw base w0 w' bl bo gl n cl v' ys

theorem Nbw.drew (U : Nbw base w0 w bl bo gl n cl vo xs) : Nbw base w0 w.drew bl bo gl n cl vo xs := ⟨below_drew U.B, U.size, U.hl, U.ho, U.own, U.bb, U.ne⟩

theorem add_off (is : Bool) (at_ : Int) (h : is = false ∨ at_ < 0) (U : Nbw base w0 w bl bo gl n cl vo xs) :
    Calls Try.prog 53 #[.bool is, .int .i64 at_, .pointer (some ⟨bl, 0, none⟩), .pointer (some ⟨bo, 0, none⟩)] w (AddPost base w0 bl bo gl n cl xs) := by
  cases is with
  | false =>
    go_enter Try.func53, Try.ntmps53
    go_wp2
    go_end0
    exact ⟨rfl, vo, U⟩
  | true =>
    have h1 : at_ < 0 := h.resolve_left (by simp)
    have h2 : decide (0 ≤ at_) = false := decide_eq_false (by omega)
    go_enter Try.func53, Try.ntmps53
    go_wp2
    go_end0
    exact ⟨rfl, vo, U⟩

theorem add_light (at_ : Nat) (v : Int) (ha : at_ < n) (hc : w.cell? ⟨gl, at_, none⟩ = some (.int .i64 v)) (hv : v < 0) (U : Nbw base w0 w bl bo gl n cl vo xs) :
    Calls Try.prog 53 #[.bool true, .int .i64 (at_ : Int), .pointer (some ⟨bl, 0, none⟩), .pointer (some ⟨bo, 0, none⟩)] w (AddPost base w0 bl bo gl n cl xs) := by
  have hc1 : w.cell? ⟨bl, 0, none⟩ = some (.slice (some ⟨gl, 0, none⟩) n cl) := (blk_cell U.hl 0).trans rfl
  have hi0 : (0 : Int) ≤ (at_ : Int) := Int.natCast_nonneg _
  have hi1 : (at_ : Int) < (n : Int) := by omega
  have h2 : decide (0 ≤ v) = false := decide_eq_false (by omega)
  go_enter Try.func53, Try.ntmps53
  go_wp2
  go_end0
  exact ⟨rfl, vo, U⟩

set_option maxRecDepth 100000 in
set_option maxHeartbeats 1000000 in
theorem add_dark (at_ : Nat) (v : Int) (ha : at_ < n) (hc3 : w.cell? ⟨gl, at_, none⟩ = some (.int .i64 v)) (hg : gl < base) (hv : 0 ≤ v) (hn : (xs.length + 1) * 8 ≤ 140737488355328) (U : Nbw base w0 w bl bo gl n cl vo xs) :
    Calls Try.prog 53 #[.bool true, .int .i64 (at_ : Int), .pointer (some ⟨bl, 0, none⟩), .pointer (some ⟨bo, 0, none⟩)] w (AddPost base w0 bl bo gl n cl (xs ++ [v])) := by
  have hc1 : w.cell? ⟨bl, 0, none⟩ = some (.slice (some ⟨gl, 0, none⟩) n cl) := (blk_cell U.hl 0).trans rfl
  have hc2 : w.cell? ⟨bo, 0, none⟩ = some vo := (blk_cell U.ho 0).trans rfl
  have hi0 : (0 : Int) ≤ (at_ : Int) := Int.natCast_nonneg _
  have hi1 : (at_ : Int) < (n : Int) := by omega
  have h2 : decide (0 ≤ v) = true := decide_eq_true (by omega)
  have HB := Lib.hid U.B
  have HS := Lib.hid U.size
  have HL := Lib.hid U.hl
  have HO := Lib.hid U.ho
  have HR := Lib.hid U.own
  have HN := Lib.hid hn
  have HG := Lib.hid (World.block_lt_of_cell? w _ hc3)
  have HW := Lib.hid (HB.out.cell (p := ⟨gl, at_, none⟩) hg)
  have HBB := Lib.hid U.bb
  have hg0 := Lib.hid hg
  clear hg
  have HNE := Lib.hid U.ne
  clear U hn
  go_enter Try.func53, Try.ntmps53
  go_wp2_with fail
  refine start_ (n := 8) (S := fun w' => w'.cell? ⟨bo, 0, none⟩ = some vo ∧ w'.cell? ⟨bl, 0, none⟩ = some (.slice (some ⟨gl, 0, none⟩) n cl) ∧ w'.cell? ⟨gl, at_, none⟩ = some (.int .i64 v)) (ds := [7]) #[false, false, false, false, false, false, false, false] (by kernel_rfl) rfl rfl ⟨hc2, hc1, hc3⟩ (fun hHeld => ?_)
  refine pure_ (i := 2) (N := some 20) (v := ?_) (a' := ?_) #[false, false, true, false, false, false, false, false] rfl rfl (by kernel_rfl) (fun _ _ _ h => h) (Or.inl ⟨by rfl, ?_⟩) ?_ ?_
  rotate_left
  · intro w'
    go_simp
    with_reducible rfl
  rotate_left
  · simp only [Act.put, List.setIfInBounds_toArray, List.set_cons_zero, List.set_cons_succ, i64_w, i32_w]
    rfl
  refine take_ (i := 0) (N := some 18) (v := ?_) (a' := ?_) #[true, false, true, false, false, false, false, false] rfl rfl (by kernel_rfl) (fun _ _ _ h => h) (Or.inl ⟨by rfl, ?_⟩) hHeld ?_ ?_
  rotate_left
  · rintro w' ⟨s0, s1, s2⟩
    go_simp
    with_reducible rfl
  rotate_left
  · simp only [Act.put, List.setIfInBounds_toArray, List.set_cons_zero, List.set_cons_succ, i64_w, i32_w]
    rfl
  refine take_ (i := 1) (N := some 19) (v := ?_) (a' := ?_) #[true, true, true, false, false, false, false, false] rfl rfl (by kernel_rfl) (fun _ _ _ h => h) (Or.inl ⟨by rfl, ?_⟩) hHeld ?_ ?_
  rotate_left
  · rintro w' ⟨s0, s1, s2⟩
    go_simp
    with_reducible rfl
  rotate_left
  · simp only [Act.put, List.setIfInBounds_toArray, List.set_cons_zero, List.set_cons_succ, i64_w, i32_w]
    rfl
  refine pure_ (i := 3) (N := some 21) (v := ?_) (a' := ?_) #[true, true, true, true, false, false, false, false] rfl rfl (by kernel_rfl) (fun _ _ _ h => h) (Or.inl ⟨by rfl, ?_⟩) ?_ ?_
  rotate_left
  · intro w'
    go_simp
    with_reducible rfl
  rotate_left
  · simp only [Act.put, List.setIfInBounds_toArray, List.set_cons_zero, List.set_cons_succ, i64_w, i32_w]
    rfl
  refine take_ (i := 4) (N := some 22) (v := ?_) (a' := ?_) #[true, true, true, true, true, false, false, false] rfl rfl (by kernel_rfl) (fun _ _ _ h => h) (Or.inl ⟨by rfl, ?_⟩) hHeld ?_ ?_
  rotate_left
  · rintro w' ⟨s0, s1, s2⟩
    go_simp
    with_reducible rfl
  rotate_left
  · simp only [Act.put, List.setIfInBounds_toArray, List.set_cons_zero, List.set_cons_succ, i64_w, i32_w]
    rfl
  refine one_ (i := 5) (N := some 23) #[true, true, true, true, true, true, false, false] rfl rfl (by kernel_rfl) (by decide) (fun K hK => ?_)
  refine value_ (w1 := ?_) (v := ?_) (by rfl) rfl ?_ ?_
  rotate_left 2
  · go_simp
    constructor
    · rfl
    · rfl
  refine hK.out _ _ ⟨(blk_cell (blk_alloc (blk_drew HO.out) _) 0).trans rfl, (blk_cell (blk_alloc (blk_drew HL.out) _) 0).trans rfl, (World.cell?_alloc_lt _ _ _ HG.out).trans hc3⟩ (fun hHeld => ?_)
  clear hK K
  refine norm_ (a' := ?_) ?_ ?_
  rotate_left
  · show Act.put _ (some 23) _ = _
    simp only [Act.put, List.setIfInBounds_toArray, List.set_cons_zero, List.set_cons_succ, i64_w, i32_w]
    rfl
  refine one_ (i := 6) (N := some 24) #[true, true, true, true, true, true, true, false] rfl rfl (by kernel_rfl) (by decide) (fun K hK => ?_)
  refine Kd.R_append_step (Kd.int .i64) (w0 := w0) (W := w.drew) base (by rfl) (.tmp 18) (.tmp 23) 27 3 (.int .i64 0) 8 rfl Try.underlying27 info3 rfl (by decide) (by omega) vo xs v [.int .i64 v] (fun _ => True) (fun _ => False) rfl rfl ?aP (fun _ hk => hk.elim) ?aF ?aO ?aB ?aS ?aL ?_
  (case aP => exact rfl)
  (case aF => exact (fun _ _ => trivial))
  (case aO => exact HR.out)
  (case aB => exact below_drew HB.out)
  (case aS => exact HS.out)
  (case aL => exact HN.out)
  intro v1 w1 ho hb hg hat
  obtain ⟨A1, c1, e1⟩ := Kd.R_slice ho
  subst e1
  have n1 := Lib.hid (blk_grown (blk_drew HO.out) hg (Kd.R_ne HR.out HO.out (by decide)))
  have n2 := Lib.hid (blk_grown (blk_drew HL.out) hg (Kd.R_ne HR.out HL.out (by decide)))
  have hfz := blk_frozen n1.out 0
  have hc4 := (blk_cell n1.out 0).trans rfl
  have hv1 := Lib.hid ho
  have hb1 := Lib.hid hb
  have hsz := Lib.hid hg.size
  clear ho hb hg hat
  refine hK.out _ _ ⟨hc4, (blk_cell n2.out 0).trans rfl, (hb1.out.cell (p := ⟨gl, at_, none⟩) hg0.out).trans (HW.out.symm.trans hc3)⟩ (fun hHeld => ?_)
  clear hK K
  refine norm_ (a' := ?_) ?_ ?_
  rotate_left
  · show Act.put _ (some 24) _ = _
    simp only [Act.put, List.setIfInBounds_toArray, List.set_cons_zero, List.set_cons_succ, i64_w, i32_w]
    rfl
  refine last_ (i := 7) (N := none) #[true, true, true, true, true, true, true, true] rfl rfl (by kernel_rfl) (by decide) (fun K hK => ?_)
  refine skip_ (w1 := ?_) (by rfl) rfl ?_ ?_
  rotate_left
  · go_simp
    rfl
  refine hK.out _ _ ?_
  clear hK K
  refine done_ (by kernel_rfl) ?_

  go_wp2
  go_end0
  have hv2 : Kd.R (Kd.int .i64) 3 w1 base (fun _ => True) (.slice A1 (xs.length + 1) c1) (xs ++ [v]) := by
    have h := hv1.out
    rw [List.length_append, List.length_singleton] at h
    exact h
  refine ⟨rfl, .slice A1 (xs.length + 1) c1, ⟨?_, ?_, ?_, ?_, ?_, HBB.out, HNE.out⟩⟩
  · exact Below.setCell hb1.out HBB.out _
  · have h1 := hsz.out
    have h2 := HS.out
    simp [World.setCell] at h1 ⊢
    omega
  · exact blk_far n2.out HNE.out _
  · exact (blk_set n1.out 0 _).trans rfl
  · exact Kd.R_mono (Kd.R_far (p := ⟨bo, 0, none⟩) (Kd.R_types hv2 n1.out (by decide)) (fun _ hk => hk.2) _) (fun _ hk => hk.1)

/-- The closure add. -/
theorem add_any (ls : List Int) (is : Bool) (at_ : Int) (hlen : ls.length = n) (ha : is = true → at_ < n) (hcells : ∀ j : Nat, j < n → w0.cell? ⟨gl, j, none⟩ = some (.int .i64 (ls.getD j 0))) (hg : gl < base) (hn : xs.length ≤ 10) (U : Nbw base w0 w bl bo gl n cl vo xs) :
    Calls Try.prog 53 #[.bool is, .int .i64 at_, .pointer (some ⟨bl, 0, none⟩), .pointer (some ⟨bo, 0, none⟩)] w (AddPost base w0 bl bo gl n cl (addF ls is at_ xs)) := by
  by_cases h : is = false ∨ at_ < 0
  · have e : addF ls is at_ xs = xs := by
      unfold addF
      rw [if_neg]
      rintro ⟨h1, h2, _⟩
      rcases h with h | h
      · rw [h] at h1; cases h1
      · omega
    rw [e]
    exact add_off is at_ h U
  · have h1 : is = true := by cases is with | true => rfl | false => exact absurd (.inl rfl) h
    have h2 : 0 ≤ at_ := by omega
    subst h1
    have h3 := ha rfl
    obtain ⟨a, rfl⟩ := Int.eq_ofNat_of_zero_le h2
    have hc : w.cell? ⟨gl, a, none⟩ = some (.int .i64 (ls.getD a 0)) := (U.B.cell (p := ⟨gl, a, none⟩) hg).trans (hcells a (by omega))
    have hr : rd ls (a : Int) = ls.getD a 0 := by unfold rd; rw [Int.toNat_natCast]
    by_cases h4 : 0 ≤ ls.getD a 0
    · have e : addF ls true a xs = xs ++ [ls.getD a 0] := by unfold addF; rw [hr, if_pos ⟨rfl, h2, h4⟩]
      rw [e]
      exact add_dark a _ (by omega) hc hg h4 (by omega) U
    · have e : addF ls true a xs = xs := by unfold addF; rw [hr, if_neg (fun h => h4 h.2.2)]
      rw [e]
      exact add_light a _ (by omega) hc (by omega) U
end

/-- the labels of the neighbours of pixel i that come before it -/
def nbF (ls : List Int) (ww i : Int) (eight : Bool) : List Int :=
  let xs := addF ls true (i - ww) (addF ls (decide (0 < i % ww)) (i - 1) [])
  if eight = true then addF ls (decide (i % ww + 1 < ww)) (i - ww + 1) (addF ls (decide (0 < i % ww)) (i - ww - 1) xs) else xs
theorem addF_len (ls : List Int) (is : Bool) (at_ : Int) (xs : List Int) : (addF ls is at_ xs).length ≤ xs.length + 1 := by
  unfold addF; split <;> simp
theorem nb_start (w : World) (gl n cl : Nat) : Nbw w.heap.size w ((w.alloc (.cells #[.slice (some ⟨gl, 0, none⟩) n cl] 27)).alloc (.cells #[.slice none 0 0] 27)) w.heap.size (w.heap.size + 1) gl n cl (.slice none 0 0) [] := by
  have s1 : (w.alloc (.cells #[.slice (some ⟨gl, 0, none⟩) n cl] 27)).heap.size = w.heap.size + 1 := by simp
  refine ⟨((Below.refl _ w).alloc (Nat.le_refl _) _).alloc (by omega) _, by simp; omega, ?_, ?_, Kd.R_nil _ _ _ _ _, by omega, by omega⟩
  · exact (Below.heap_alloc _ _ _ (by omega)).trans (heap_alloc_new w _)
  · have := heap_alloc_new (w.alloc (.cells #[.slice (some ⟨gl, 0, none⟩) n cl] 27)) (.cells #[.slice none 0 0] 27)
    rw [s1] at this
    exact this

set_option maxRecDepth 100000 in
set_option maxHeartbeats 2000000 in
theorem nb_any (ls : List Int) (ww i : Int) (eight : Bool) (w : World) (gl n cl : Nat) (hlen0 : ls.length = n) (hcells0 : ∀ j : Nat, j < n → w.cell? ⟨gl, j, none⟩ = some (.int .i64 (ls.getD j 0))) (hn0 : 0 < n) (hw1 : 1 ≤ ww) (hw2 : ww ≤ 1000000) (hi0 : 0 ≤ i) (hi1 : i < n) (hn : n ≤ 100000000) :
    Calls Try.prog 49 #[.slice (some ⟨gl, 0, none⟩) n cl, .int .i64 ww, .int .i64 i, .bool eight] w fun e w' => ∃ v', e = .returned v' ∧ Kd.R (Kd.int .i64) 3 w' w.heap.size (fun _ => True) v' (nbF ls ww i eight) ∧ Below w.heap.size w w' := by
  have hlen : ls.length = n := hlen0
  have hcells := Lib.hid hcells0
  have hg := Lib.hid (World.block_lt_of_cell? w _ (hcells0 0 hn0))
  have U0 := Lib.hid (nb_start w gl n cl)
  have hx0 : Hid (([] : List Int).length ≤ 0) := Lib.hid (Nat.le_refl 0)
  have hr0 : 0 ≤ i % ww := Int.emod_nonneg _ (by omega)
  have hr1 : i % ww < ww := Int.emod_lt_of_pos _ (by omega)
  clear hcells0
  cases eight with
  | true =>
    go_enter Try.func49, Try.ntmps49
    go_wp2_with fail
    refine (add_any ls (decide (0 < i % ww)) (i - 1) hlen ?_ hcells.out hg.out ?_ U0.out).mono ?_
    · intro _; omega
    · exact Nat.le_trans hx0.out (by decide)
    rintro e w1 ⟨rfl, v1, V1⟩
    have U1 := Lib.hid V1
    have hx1 := Lib.hid (Nat.le_trans (addF_len ls (decide (0 < i % ww)) (i - 1) _) (Nat.succ_le_succ hx0.out))
    have hb1 : w1.cell? ⟨w.heap.size + 1, 0, none⟩ = some v1 := (blk_cell V1.ho 0).trans rfl
    clear V1
    go_wp2_with fail
    refine (add_any ls (true) (i - ww) hlen ?_ hcells.out hg.out ?_ U1.out).mono ?_
    · intro _; omega
    · exact Nat.le_trans hx1.out (by decide)
    rintro e w2 ⟨rfl, v2, V2⟩
    have U2 := Lib.hid V2
    have hx2 := Lib.hid (Nat.le_trans (addF_len ls (true) (i - ww) _) (Nat.succ_le_succ hx1.out))
    have hb2 : w2.cell? ⟨w.heap.size + 1, 0, none⟩ = some v2 := (blk_cell V2.ho 0).trans rfl
    clear V2
    go_wp2_with fail
    refine (add_any ls (decide (0 < i % ww)) (i - ww - 1) hlen ?_ hcells.out hg.out ?_ U2.out).mono ?_
    · intro _; omega
    · exact Nat.le_trans hx2.out (by decide)
    rintro e w3 ⟨rfl, v3, V3⟩
    have U3 := Lib.hid V3
    have hx3 := Lib.hid (Nat.le_trans (addF_len ls (decide (0 < i % ww)) (i - ww - 1) _) (Nat.succ_le_succ hx2.out))
    have hb3 : w3.cell? ⟨w.heap.size + 1, 0, none⟩ = some v3 := (blk_cell V3.ho 0).trans rfl
    clear V3
    go_wp2_with fail
    refine (add_any ls (decide (i % ww + 1 < ww)) (i - ww + 1) hlen ?_ hcells.out hg.out ?_ U3.out).mono ?_
    · intro _; omega
    · exact Nat.le_trans hx3.out (by decide)
    rintro e w4 ⟨rfl, v4, V4⟩
    have U4 := Lib.hid V4
    have hx4 := Lib.hid (Nat.le_trans (addF_len ls (decide (i % ww + 1 < ww)) (i - ww + 1) _) (Nat.succ_le_succ hx3.out))
    have hb4 : w4.cell? ⟨w.heap.size + 1, 0, none⟩ = some v4 := (blk_cell V4.ho 0).trans rfl
    clear V4
    go_wp2
    go_ret
    exact ⟨v4, rfl, U4.out.own, U4.out.B⟩
  | false =>
    go_enter Try.func49, Try.ntmps49
    go_wp2_with fail
    refine (add_any ls (decide (0 < i % ww)) (i - 1) hlen ?_ hcells.out hg.out ?_ U0.out).mono ?_
    · intro _; omega
    · exact Nat.le_trans hx0.out (by decide)
    rintro e w1 ⟨rfl, v1, V1⟩
    have U1 := Lib.hid V1
    have hx1 := Lib.hid (Nat.le_trans (addF_len ls (decide (0 < i % ww)) (i - 1) _) (Nat.succ_le_succ hx0.out))
    have hb1 : w1.cell? ⟨w.heap.size + 1, 0, none⟩ = some v1 := (blk_cell V1.ho 0).trans rfl
    clear V1
    go_wp2_with fail
    refine (add_any ls (true) (i - ww) hlen ?_ hcells.out hg.out ?_ U1.out).mono ?_
    · intro _; omega
    · exact Nat.le_trans hx1.out (by decide)
    rintro e w2 ⟨rfl, v2, V2⟩
    have U2 := Lib.hid V2
    have hx2 := Lib.hid (Nat.le_trans (addF_len ls (true) (i - ww) _) (Nat.succ_le_succ hx1.out))
    have hb2 : w2.cell? ⟨w.heap.size + 1, 0, none⟩ = some v2 := (blk_cell V2.ho 0).trans rfl
    clear V2
    go_wp2
    go_ret
    exact ⟨v2, rfl, U2.out.own, U2.out.B⟩
end Go.Proofs.Ytahibhipffojlaa.Nb
