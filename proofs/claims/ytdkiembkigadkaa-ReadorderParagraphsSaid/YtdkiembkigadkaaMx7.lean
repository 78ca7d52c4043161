-- Machine side, printed by this session's own program over the kit's print (wip/tools/myprint.py). Lean checks it.
import Derived.Test.YtdkiembkigadkaaMx0
import Derived.Test.YtdkiembkigadkaaMx5
namespace Go.Proofs.Ytdkiembkigadkaa.M
open Go.RowKit Go.Proofs.YtdkiembkigadkaaW.PrintWords Go.Proofs.YtdkiembkigadkaaW.PrintLast Go.Proofs.YtdkiembkigadkaaW.PrintMore
theorem max2_mx7 (k k' : IntKind) (x y : Int) : Builtin.max2 (.int k x) (.int k' y) = pure (.int k (mx x y)) := max2_int k k' x y
attribute [local go_sem high] max2_mx7
attribute [local go_sem] min2_int max_two min_two max_three min_three max_four min_four   -- for this text's walks alone
set_option linter.unusedVariables false
set_option linter.unusedSimpArgs false

/-! ### barscanref50_Paragraphs: function 20 -/
mutual
def barscanref50_Paragraphs.l0 : Nat → List (S31) → Int → List Int → Int → Option ((List (List Int)) × Int)
  | 0, _, _, _, _ => none
  | k + 1, x0, x1, x7, x8 => if x8 < (x0.length : Int) then ((barscanref50_insert.f k x0 x7 x8).bind fun t370 => (barscanref50_Paragraphs.l0 k x0 x1 t370 (wrap64 (x8 + 1)))) else (barscanref50_Paragraphs.l1 k x0 x1 x7 ([] : List (S61)) ([] : List Int) 0 0)
def barscanref50_Paragraphs.l1 : Nat → List (S31) → Int → List Int → List (S61) → List Int → Int → Int → Option ((List (List Int)) × Int)
  | 0, _, _, _, _, _, _, _ => none
  | k + 1, x0, x1, x7, x9, x10, x11, x12 => if x12 < (x7.length : Int) then (if 0 ≤ x12 then (if 0 ≤ (rd x7 x12) then (if (rd x7 x12) < (x0.length : Int) then (if x12 > 0 then (barscanref50_Paragraphs.j2 k x0 x1 x7 x9 x10 x11 x12 (decide (((rd_T31 x0 (rd x7 x12)).f1) > (wrap64 (x11 + x1)))) ((rd_T31 x0 (rd x7 x12)).f0) ((rd_T31 x0 (rd x7 x12)).f1) ((rd_T31 x0 (rd x7 x12)).f2) ((rd_T31 x0 (rd x7 x12)).f3)) else (barscanref50_Paragraphs.j2 k x0 x1 x7 x9 x10 x11 x12 false ((rd_T31 x0 (rd x7 x12)).f0) ((rd_T31 x0 (rd x7 x12)).f1) ((rd_T31 x0 (rd x7 x12)).f2) ((rd_T31 x0 (rd x7 x12)).f3))) else (none)) else (none)) else (none)) else (if (x10.length : Int) > 0 then (if x9.length < 5864062014805 then ((barscanref50_lists.f k (x9 ++ [(⟨x10⟩ : S61)])).bind fun t376 => (some (t376, 0))) else (none)) else ((barscanref50_lists.f k x9).bind fun t379 => (some (t379, 0))))
def barscanref50_Paragraphs.j2 : Nat → List (S31) → Int → List Int → List (S61) → List Int → Int → Int → Bool → Int → Int → Int → Int → Option ((List (List Int)) × Int)
  | 0, _, _, _, _, _, _, _, _, _, _, _, _ => none
  | k + 1, x0, x1, x7, x9, x10, x11, x12, x52, x385000, x385001, x385002, x385003 => if x52 = true then (if x9.length < 5864062014805 then ((some (x9 ++ [(⟨x10⟩ : S61)] : List (S61))).bind fun y385 => (if (([] : List Int).length : Int) = 0 then (if 0 ≤ x12 then (if x12 < (x7.length : Int) then (if ([] : List Int).length < 17592186044416 then (barscanref50_Paragraphs.l1 k x0 x1 x7 y385 (([] : List Int) ++ [rd x7 x12]) (mx (wrap64 (x385001 + x385003)) (wrap64 (x385001 + x385003))) (wrap64 (x12 + 1))) else (none)) else (none)) else (none)) else (if 0 ≤ x12 then (if x12 < (x7.length : Int) then (if ([] : List Int).length < 17592186044416 then (barscanref50_Paragraphs.l1 k x0 x1 x7 y385 (([] : List Int) ++ [rd x7 x12]) (mx x11 (wrap64 (x385001 + x385003))) (wrap64 (x12 + 1))) else (none)) else (none)) else (none)))) else (none)) else (if (x10.length : Int) = 0 then (if 0 ≤ x12 then (if x12 < (x7.length : Int) then (if x10.length < 17592186044416 then (barscanref50_Paragraphs.l1 k x0 x1 x7 x9 (x10 ++ [rd x7 x12]) (mx (wrap64 (x385001 + x385003)) (wrap64 (x385001 + x385003))) (wrap64 (x12 + 1))) else (none)) else (none)) else (none)) else (if 0 ≤ x12 then (if x12 < (x7.length : Int) then (if x10.length < 17592186044416 then (barscanref50_Paragraphs.l1 k x0 x1 x7 x9 (x10 ++ [rd x7 x12]) (mx x11 (wrap64 (x385001 + x385003))) (wrap64 (x12 + 1))) else (none)) else (none)) else (none)))
end
def barscanref50_Paragraphs.f (k : Nat) (l0 : List (S31)) (a1 : Int) : Option ((List (List Int)) × Int) := (barscanref50_check.f k l0 a1).bind fun t369 => (if t369 = 0 then (barscanref50_Paragraphs.l0 k l0 a1 ([] : List Int) 0) else (some (([] : List (List Int)), t369)))
theorem barscanref50_Paragraphs.mono_l : ∀ k, (∀ y0 y1 y2 y3, LeO (barscanref50_Paragraphs.l0 k y0 y1 y2 y3) (barscanref50_Paragraphs.l0 (k + 1) y0 y1 y2 y3)) ∧ (∀ y0 y1 y2 y3 y4 y5 y6, LeO (barscanref50_Paragraphs.l1 k y0 y1 y2 y3 y4 y5 y6) (barscanref50_Paragraphs.l1 (k + 1) y0 y1 y2 y3 y4 y5 y6)) ∧ (∀ y0 y1 y2 y3 y4 y5 y6 y7 y8 y9 y10 y11, LeO (barscanref50_Paragraphs.j2 k y0 y1 y2 y3 y4 y5 y6 y7 y8 y9 y10 y11) (barscanref50_Paragraphs.j2 (k + 1) y0 y1 y2 y3 y4 y5 y6 y7 y8 y9 y10 y11))
  | 0 => ⟨fun _ _ _ _ r h => by simp [barscanref50_Paragraphs.l0] at h, fun _ _ _ _ _ _ _ r h => by simp [barscanref50_Paragraphs.l1] at h, fun _ _ _ _ _ _ _ _ _ _ _ _ r h => by simp [barscanref50_Paragraphs.j2] at h⟩
  | k + 1 => by
    obtain ⟨ih0, ih1, ih2⟩ := barscanref50_Paragraphs.mono_l k
    refine ⟨?_, ?_, ?_⟩
    · intro y0 y1 y2 y3
      unfold barscanref50_Paragraphs.l0
      repeat' first
      | (with_reducible exact ih0 _ _ _ _)
      | (with_reducible exact ih1 _ _ _ _ _ _ _)
      | (with_reducible exact ih2 _ _ _ _ _ _ _ _ _ _ _ _)
      | (with_reducible exact barscanref50_check.mono _ _ _)
      | (with_reducible exact barscanref50_insert.mono _ _ _ _)
      | (with_reducible exact barscanref50_lists.mono _ _)
      | (with_reducible exact LeO.refl _)
      | (with_reducible exact LeO.none _)
      | (with_reducible refine LeO.ite ?_ ?_)
      | (with_reducible refine LeO.bind ?_ (fun _ => ?_))
      | exact ih0 _ _ _ _
      | exact ih1 _ _ _ _ _ _ _
      | exact ih2 _ _ _ _ _ _ _ _ _ _ _ _
      | exact barscanref50_check.mono _ _ _
      | exact barscanref50_insert.mono _ _ _ _
      | exact barscanref50_lists.mono _ _
      | exact LeO.none _
      | refine LeO.ite ?_ ?_
      | refine LeO.bind ?_ (fun _ => ?_)
    · intro y0 y1 y2 y3 y4 y5 y6
      unfold barscanref50_Paragraphs.l1
      repeat' first
      | (with_reducible exact ih0 _ _ _ _)
      | (with_reducible exact ih1 _ _ _ _ _ _ _)
      | (with_reducible exact ih2 _ _ _ _ _ _ _ _ _ _ _ _)
      | (with_reducible exact barscanref50_check.mono _ _ _)
      | (with_reducible exact barscanref50_insert.mono _ _ _ _)
      | (with_reducible exact barscanref50_lists.mono _ _)
      | (with_reducible exact LeO.refl _)
      | (with_reducible exact LeO.none _)
      | (with_reducible refine LeO.ite ?_ ?_)
      | (with_reducible refine LeO.bind ?_ (fun _ => ?_))
      | exact ih0 _ _ _ _
      | exact ih1 _ _ _ _ _ _ _
      | exact ih2 _ _ _ _ _ _ _ _ _ _ _ _
      | exact barscanref50_check.mono _ _ _
      | exact barscanref50_insert.mono _ _ _ _
      | exact barscanref50_lists.mono _ _
      | exact LeO.none _
      | refine LeO.ite ?_ ?_
      | refine LeO.bind ?_ (fun _ => ?_)
    · intro y0 y1 y2 y3 y4 y5 y6 y7 y8 y9 y10 y11
      unfold barscanref50_Paragraphs.j2
      repeat' first
      | (with_reducible exact ih0 _ _ _ _)
      | (with_reducible exact ih1 _ _ _ _ _ _ _)
      | (with_reducible exact ih2 _ _ _ _ _ _ _ _ _ _ _ _)
      | (with_reducible exact barscanref50_check.mono _ _ _)
      | (with_reducible exact barscanref50_insert.mono _ _ _ _)
      | (with_reducible exact barscanref50_lists.mono _ _)
      | (with_reducible exact LeO.refl _)
      | (with_reducible exact LeO.none _)
      | (with_reducible refine LeO.ite ?_ ?_)
      | (with_reducible refine LeO.bind ?_ (fun _ => ?_))
      | exact ih0 _ _ _ _
      | exact ih1 _ _ _ _ _ _ _
      | exact ih2 _ _ _ _ _ _ _ _ _ _ _ _
      | exact barscanref50_check.mono _ _ _
      | exact barscanref50_insert.mono _ _ _ _
      | exact barscanref50_lists.mono _ _
      | exact LeO.none _
      | refine LeO.ite ?_ ?_
      | refine LeO.bind ?_ (fun _ => ?_)
theorem barscanref50_Paragraphs.mono : ∀ a0 a1 k, LeO (barscanref50_Paragraphs.f k a0 a1) (barscanref50_Paragraphs.f (k + 1) a0 a1) := by
  intro a0 a1 k
  obtain ⟨ih0, ih1, ih2⟩ := barscanref50_Paragraphs.mono_l k
  unfold barscanref50_Paragraphs.f
  repeat' first
      | (with_reducible exact ih0 _ _ _ _)
      | (with_reducible exact ih1 _ _ _ _ _ _ _)
      | (with_reducible exact ih2 _ _ _ _ _ _ _ _ _ _ _ _)
      | (with_reducible exact barscanref50_check.mono _ _ _)
      | (with_reducible exact barscanref50_insert.mono _ _ _ _)
      | (with_reducible exact barscanref50_lists.mono _ _)
      | (with_reducible exact LeO.refl _)
      | (with_reducible exact LeO.none _)
      | (with_reducible refine LeO.ite ?_ ?_)
      | (with_reducible refine LeO.bind ?_ (fun _ => ?_))
      | exact ih0 _ _ _ _
      | exact ih1 _ _ _ _ _ _ _
      | exact ih2 _ _ _ _ _ _ _ _ _ _ _ _
      | exact barscanref50_check.mono _ _ _
      | exact barscanref50_insert.mono _ _ _ _
      | exact barscanref50_lists.mono _ _
      | exact LeO.none _
      | refine LeO.ite ?_ ?_
      | refine LeO.bind ?_ (fun _ => ?_)
set_option maxHeartbeats 8000000 in
set_option maxRecDepth 100000 in
theorem barscanref50_Paragraphs.calls (k : Nat) (A0 : Option Addr) (c0 : Nat) (l0 : List (S31)) (a1 : Int) (r1 : List (List Int)) (r2 : Int) (w : World) (hr0 : Kd.C k31 w A0 l0.length l0) (hc0 : l0.length ≤ c0) (h : barscanref50_Paragraphs.f k l0 a1 = some (r1, r2)) :
    Calls Try.prog 20 #[.slice A0 l0.length c0, .int .i64 a1] w fun e w' => ∃ v0_ : Value, e = .returned (.tuple #[v0_, .int .i64 r2]) ∧ Kd.N (Kd.slice 3 (Kd.int .i64)) 24 w' w.heap.size (fun k_ => (w.heap.size ≤ k_)) v0_ r1 ∧ Below w.heap.size w w' := by
  have hu31 := Try.underlying31
  have hu61 := Try.underlying61
  have HR0 := Aside0.mk hr0
  have HC0 := Aside0.mk hc0
  clear hr0 hc0
  have HB := Aside0.mk (Below.refl w.heap.size w)
  have H : ((barscanref50_check.f k l0 a1).bind fun t369 => (if t369 = 0 then (barscanref50_Paragraphs.l0 k l0 a1 ([] : List Int) 0) else (some (([] : List (List Int)), t369)))) = some (r1, r2) := h
  clear h
  replace H := Option.bind_eq_some_iff.mp H
  obtain ⟨t369, A30, H⟩ := H
  replace H : (if t369 = 0 then (barscanref50_Paragraphs.l0 k l0 a1 ([] : List Int) 0) else (some (([] : List (List Int)), t369))) = some (r1, r2) := H
  have A3 := Aside0.mk A30
  clear A30
  by_cases c4 : t369 = 0
  · rw [if_pos c4] at H
    have c4b0 : (t369 == 0) = true := beq_iff_eq.mpr c4
    have c4b1 : (t369 != 0) = false := bne_eq_false_iff_eq.mpr c4
    clear c4
    have H' := Aside0.mk H
    clear H
    go_enter Try.func20, Try.ntmps20
    go_wp2_with (first | ((with_reducible refine gate_callee (f := 37) rfl ?_); refine goesL_ (some 16) rfl rfl Try.func37 (by kernel_rfl) rfl #[.slice A0 l0.length c0, .int .i64 a1] rfl (by (try simp only [List.map_toArray, List.map_cons, List.map_nil]); first | done | rfl | (simp only [List.length_drop, List.length_take]; rfl)) ?_; (with_reducible refine (barscanref50_check.calls k _ _ l0 a1 t369 _ ?side1 ?side2 A3.out).mono ?_); (case side1 => repeat (first | exact HR0.out | (with_reducible refine Kd.C_alloc ?_ _) | (with_reducible refine Kd.C_drewN ?_ _) | (with_reducible refine Kd.C_drew ?_))); (case side2 => exact HC0.out); rintro e w5 ⟨rfl, hb⟩; refine ⟨_, rfl, ?_⟩; have n0_ := Aside0.mk (below_step (by repeat (first | (with_reducible first | exact HB.out | apply below_alloc | apply pw_below_drewN | apply below_drew1) | exact HB.out)) hb); clear HB; have HB := n0_; clear n0_; (try clear hb); (try clear hb2); (try clear hk); (try clear hi)))
    go_loopg [7, 8] k (fun kq v7 v8 w' => ∃ (x7_1 : List Int) (x8_1 : Int), v8 = .int .i64 x8_1 ∧ Aside0 (barscanref50_Paragraphs.l0 kq l0 a1 x7_1 x8_1 = some (r1, r2)) ∧ Aside0 (kq ≤ k) ∧ Aside0 (Kd.R (Kd.int .i64) 3 w' w.heap.size (fun k_ => (w.heap.size ≤ k_)) v7 x7_1) ∧ Aside0 (Below w.heap.size w w'))
    case atStart => exact ⟨(([] : List Int)), (0), (by first | rfl | (simp; done) | (simp [*]; done)), H', ⟨Nat.le_refl _⟩, ⟨by first | exact Kd.R_nil _ _ _ _ _ | exact Kd.N_nil _ _ _ _ _ | exact Kd.V_nil _ _ _ _ _ | exact Kd.Q_nil _ _ _ _ _ | exact Kd.S_nil _ _ _ _ _⟩, ⟨by repeat (first | (with_reducible first | exact HB.out | apply below_alloc | apply pw_below_drewN | apply below_drew1) | exact HB.out)⟩⟩
    case round =>
      clear H'
      try clear c2
      try clear p2
      try clear c3
      try clear c4
      try clear c4b0
      try clear c4b1
      obtain ⟨x7_1, x8_1, rfl, HA, HK1, HO_7, HB⟩ := hrel
      cases gk with
      | zero => exact absurd HA.out (by simp [barscanref50_Paragraphs.l0])
      | succ k1 =>
        have H := HA.out
        clear HA
        simp only [barscanref50_Paragraphs.l0] at H
        by_cases c6 : x8_1 < (l0.length : Int)
        · rw [if_pos c6] at H
          have c6b0 : decide (x8_1 < (l0.length : Int)) = true := decide_eq_true c6
          clear c6
          replace H := Option.bind_eq_some_iff.mp H
          obtain ⟨t370, A70, H⟩ := H
          replace H : (barscanref50_Paragraphs.l0 k1 l0 a1 t370 (wrap64 (x8_1 + 1))) = some (r1, r2) := H
          have A7 := Aside0.mk A70
          clear A70
          have H' := Aside0.mk H
          clear H
          obtain ⟨Ao8, co8, eo8⟩ := Kd.R_slice HO_7.out
          subst eo8
          go_wp2_with (first | ((with_reducible refine gate_callee (f := 40) rfl ?_); refine goesL_ (some 29) rfl rfl Try.func40 (by kernel_rfl) rfl #[.slice A0 l0.length c0, .slice Ao8 x7_1.length co8, .int .i64 x8_1] rfl (by (try simp only [List.map_toArray, List.map_cons, List.map_nil]); first | done | rfl | (simp only [List.length_drop, List.length_take]; rfl)) ?_; (with_reducible refine (barscanref50_insert.calls k1 _ _ l0 _ _ x7_1 x8_1 t370 _ ?side1 ?side2 ?side3 ?side4 A7.out).mono ?_); (case side1 => repeat (first | exact (Kd.C_below HR0.out HB.out) | (with_reducible refine Kd.C_alloc ?_ _) | (with_reducible refine Kd.C_drewN ?_ _) | (with_reducible refine Kd.C_drew ?_))); (case side2 => exact HC0.out); (case side3 => repeat (first | exact (Kd.R_reads' HO_7.out).2.2 | (with_reducible refine Kd.C_alloc ?_ _) | (with_reducible refine Kd.C_drewN ?_ _) | (with_reducible refine Kd.C_drew ?_))); (case side4 => exact (Kd.R_reads' HO_7.out).2.1); rintro e w9 ⟨v371, rfl, ho0, hb⟩; refine ⟨_, rfl, ?_⟩; have n0_ := Aside0.mk (Kd.R_elder' (by (with_reducible repeat (first | apply Kd.R_alloc | apply Kd.R_drewN | apply Kd.R_drew)); exact HO_7.out) (Kd.R_base ho0) hb); have n1_ := Aside0.mk (Kd.R_lower (Kd.R_new' (Kd.R_newM (M := fun k_ => (w.heap.size ≤ k_)) ho0 (below_size (by repeat (first | (with_reducible first | exact HB.out | apply below_alloc | apply pw_below_drewN | apply below_drew1) | exact HB.out))) (fun k_ h_ => h_)) (Kd.R_lt (by (with_reducible repeat (first | apply Kd.R_alloc | apply Kd.R_drewN | apply Kd.R_drew)); exact HO_7.out))) (below_size (by repeat (first | (with_reducible first | exact HB.out | apply below_alloc | apply pw_below_drewN | apply below_drew1) | exact HB.out)))); have n2_ := Aside0.mk (below_step (by repeat (first | (with_reducible first | exact HB.out | apply below_alloc | apply pw_below_drewN | apply below_drew1) | exact HB.out)) hb); clear HO_7; clear HB; have HO_7 := n0_; have HO372 := n1_; have HB := n2_; clear n0_ n1_ n2_; (try clear hb); (try clear hb2); (try clear hk); (try clear hi); (try clear ho0)))
          go_roundg k1
          case measure => have := HK1.out; omega
          case rel => exact ⟨(t370), (wrap64 (x8_1 + 1)), (by first | rfl | (simp; done) | (simp [*]; done)), H', ⟨by have := HK1.out; omega⟩, ⟨by (with_reducible repeat (first | apply Kd.R_alloc | apply Kd.R_drewN | apply Kd.R_drew)); exact Kd.R_mono HO372.out (fun _ hk => hk.1.1)⟩, ⟨by repeat (first | (with_reducible first | exact HB.out | apply below_alloc | apply pw_below_drewN | apply below_drew1) | exact HB.out)⟩⟩
        · rw [if_neg c6] at H
          have c6b0 : decide (x8_1 < (l0.length : Int)) = false := decide_eq_false c6
          clear c6
          have H' := Aside0.mk H
          clear H
          go_wp2
          go_loopg [9, 10, 11, 12] k1 (fun kq v9 v10 v11 v12 w' => ∃ (x9_2 : List (S61)) (x10_2 : List Int) (x11_2 : Int) (x12_2 : Int), v11 = .int .i64 x11_2 ∧ v12 = .int .i64 x12_2 ∧ Aside0 (barscanref50_Paragraphs.l1 kq l0 a1 x7_1 x9_2 x10_2 x11_2 x12_2 = some (r1, r2)) ∧ Aside0 (kq ≤ k1) ∧ Aside0 (Kd.R (Kd.int .i64) 3 w' w.heap.size (fun k_ => (w.heap.size ≤ k_) ∧ some k_ ≠ (v10 : Value).ownBlock) u7 x7_1) ∧ Aside0 (Kd.N k61 61 w' w.heap.size (fun k_ => (w.heap.size ≤ k_) ∧ some k_ ≠ (u7 : Value).ownBlock ∧ some k_ ≠ (v10 : Value).ownBlock) v9 x9_2) ∧ Aside0 (Kd.R (Kd.int .i64) 3 w' w.heap.size (fun k_ => (w.heap.size ≤ k_) ∧ some k_ ≠ (u7 : Value).ownBlock) v10 x10_2) ∧ Aside0 (Below w.heap.size w w'))
          case atStart => exact ⟨(([] : List (S61))), (([] : List Int)), (0), (0), (by first | rfl | (simp; done) | (simp [*]; done)), (by first | rfl | (simp; done) | (simp [*]; done)), H', ⟨Nat.le_refl _⟩, ⟨by (with_reducible repeat (first | apply Kd.R_alloc | apply Kd.R_drewN | apply Kd.R_drew)); exact Kd.R_mono HO_7.out (fun _ hk => ⟨hk, (by simp [Value.ownBlock])⟩)⟩, ⟨by first | exact Kd.S_nil _ _ _ _ _ | exact Kd.N_nil _ _ _ _ _ | exact Kd.V_nil _ _ _ _ _ | exact Kd.Q_nil _ _ _ _ _ | exact Kd.R_nil _ _ _ _ _⟩, ⟨by first | exact Kd.R_nil _ _ _ _ _ | exact Kd.N_nil _ _ _ _ _ | exact Kd.V_nil _ _ _ _ _ | exact Kd.Q_nil _ _ _ _ _ | exact Kd.S_nil _ _ _ _ _⟩, ⟨by repeat (first | (with_reducible first | exact HB.out | apply below_alloc | apply pw_below_drewN | apply below_drew1) | exact HB.out)⟩⟩
          case round =>
            clear H'
            try clear c2
            try clear p2
            try clear c3
            try clear c4
            try clear c4b0
            try clear c4b1
            try clear c6
            try clear c6b0
            try clear p6
            try clear p2
            obtain ⟨x9_2, x10_2, x11_2, x12_2, rfl, rfl, HA, HK2, HO_7, HO_9, HO_10, HB⟩ := hrel
            cases gk with
            | zero => exact absurd HA.out (by simp [barscanref50_Paragraphs.l1])
            | succ k2 =>
              have H := HA.out
              clear HA
              simp only [barscanref50_Paragraphs.l1] at H
              by_cases c10 : x12_2 < (x7_1.length : Int)
              · rw [if_pos c10] at H
                have c10b0 : decide (x12_2 < (x7_1.length : Int)) = true := decide_eq_true c10
                clear c10
                by_cases c11 : 0 ≤ x12_2
                · rw [if_pos c11] at H
                  have c11b0 : decide (0 ≤ x12_2) = true := decide_eq_true c11
                  clear c11
                  by_cases c12 : 0 ≤ (rd x7_1 x12_2)
                  · rw [if_pos c12] at H
                    have c12b0 : decide (0 ≤ (rd x7_1 x12_2)) = true := decide_eq_true c12
                    clear c12
                    by_cases c13 : (rd x7_1 x12_2) < (l0.length : Int)
                    · rw [if_pos c13] at H
                      have c13b0 : decide ((rd x7_1 x12_2) < (l0.length : Int)) = true := decide_eq_true c13
                      clear c13
                      have HC14 := Aside0.mk H
                      clear H
                      obtain ⟨Ao15, co15, eo15⟩ := Kd.R_slice HO_7.out
                      subst eo15
                      have p382 : 0 ≤ (x12_2 : Int) := of_decide_eq_true (by first | (with_reducible assumption) | assumption)
                      have q382 : x12_2 < (x7_1.length : Int) := of_decide_eq_true (by first | (with_reducible assumption) | assumption)
                      obtain ⟨ad382, e382, hx382_0⟩ := Kd.at_int (Kd.R_reads' HO_7.out).2.2 x12_2 p382 q382
                      cases e382
                      replace p382 := eq_true p382
                      replace q382 := eq_true q382
                      have p383 : 0 ≤ ((rd x7_1 x12_2) : Int) := of_decide_eq_true (by first | (with_reducible assumption) | assumption)
                      have q383 : (rd x7_1 x12_2) < (l0.length : Int) := of_decide_eq_true (by first | (with_reducible assumption) | assumption)
                      obtain ⟨ad383, e383, hx383_0, hx383_1, hx383_2, hx383_3⟩ := at_T31 HR0.out (rd x7_1 x12_2) p383 q383
                      cases e383
                      replace hx383_0 := (HB.out.cell (World.block_lt_of_cell? w _ hx383_0)).trans hx383_0
                      replace hx383_1 := (HB.out.cell (World.block_lt_of_cell? w _ hx383_1)).trans hx383_1
                      replace hx383_2 := (HB.out.cell (World.block_lt_of_cell? w _ hx383_2)).trans hx383_2
                      replace hx383_3 := (HB.out.cell (World.block_lt_of_cell? w _ hx383_3)).trans hx383_3
                      replace p383 := eq_true p383
                      replace q383 := eq_true q383
                      go_upto_region 16 with (first | ((with_reducible refine gate_dst (N := 13) rfl ?_); refine box_event ?hg (N := 13) ?hd (cs := #[.int .i64 0, .int .i64 0, .int .i64 0, .int .i64 0]) (t := 31) ?hr ?_; (case hd => rfl); (case hg => rfl); (case hr => first | (go_simp; done) | (go_simp; rfl)); intro gb384 hg w16 hbox hb; have n0_ := Aside0.mk (Kd.R_below (by (with_reducible repeat (first | apply Kd.R_alloc | apply Kd.R_drewN | apply Kd.R_drew)); exact HO_7.out) hb); have n1_ := Aside0.mk (Kd.N_below (Kd.N_elderB (by (with_reducible repeat (first | apply Kd.N_alloc | apply Kd.N_drewN | apply Kd.N_drew)); exact HO_9.out) gb384 (Nat.le_of_eq hg.symm)) hb); have n2_ := Aside0.mk (Kd.R_below (by (with_reducible repeat (first | apply Kd.R_alloc | apply Kd.R_drewN | apply Kd.R_drew)); exact HO_10.out) hb); have n3_ := Aside0.mk (below_step (by repeat (first | (with_reducible first | exact HB.out | apply below_alloc | apply pw_below_drewN | apply below_drew1) | exact HB.out)) hb); have n4_ := Aside0.mk (hbox); have n5_ := Aside0.mk ((by rw [hg]; exact (below_size (by repeat (first | (with_reducible first | exact HB.out | apply below_alloc | apply pw_below_drewN | apply below_drew1) | exact HB.out))) : w.heap.size ≤ gb384)); have n6_ := Aside0.mk ((by rw [hg]; exact (below_size (by repeat (first | (with_reducible first | exact HB.out | apply below_alloc | apply pw_below_drewN | apply below_drew1) | exact HB.out))) : w.heap.size ≤ gb384)); clear HO_7; clear HO_9; clear HO_10; clear HB; have HO_7 := n0_; have HO_9 := n1_; have HO_10 := n2_; have HB := n3_; have BK384 := n4_; have GW384 := n5_; have GE384 := n6_; clear n0_ n1_ n2_ n3_ n4_ n5_ n6_; clear hb hbox hg; have hcz17_0 : w16.cell? ⟨gb384, 0, none⟩ = some (.int .i64 0) := (blk_cell BK384.out 0).trans rfl; have hcz17_1 : w16.cell? ⟨gb384, 1, none⟩ = some (.int .i64 0) := (blk_cell BK384.out 1).trans rfl; have hcz17_2 : w16.cell? ⟨gb384, 2, none⟩ = some (.int .i64 0) := (blk_cell BK384.out 2).trans rfl; have hcz17_3 : w16.cell? ⟨gb384, 3, none⟩ = some (.int .i64 0) := (blk_cell BK384.out 3).trans rfl; have hfz17_0 := blk_frozen BK384.out 0; have hfz17_1 := blk_frozen BK384.out 1; have hfz17_2 := blk_frozen BK384.out 2; have hfz17_3 := blk_frozen BK384.out 3))
                      (try simp only [Act.put, List.setIfInBounds_toArray, List.set_cons_zero, List.set_cons_succ])
                      go_cut [52] (fun v52 wc => ∃ (kq : Nat) (x52_13 : Bool), v52 = .bool x52_13 ∧ Aside0 (barscanref50_Paragraphs.j2 kq l0 a1 x7_1 x9_2 x10_2 x11_2 x12_2 x52_13 ((rd_T31 l0 (rd x7_1 x12_2)).f0) ((rd_T31 l0 (rd x7_1 x12_2)).f1) ((rd_T31 l0 (rd x7_1 x12_2)).f2) ((rd_T31 l0 (rd x7_1 x12_2)).f3) = some (r1, r2)) ∧ Aside0 (kq ≤ k2) ∧ Aside0 (Kd.R (Kd.int .i64) 3 wc w.heap.size (fun k_ => (w.heap.size ≤ k_) ∧ some k_ ≠ (u10 : Value).ownBlock) (.slice (some ad382) x7_1.length co15) x7_1) ∧ Aside0 (Kd.N k61 61 wc w.heap.size (fun k_ => (w.heap.size ≤ k_) ∧ some k_ ≠ ((.slice (some ad382) x7_1.length co15) : Value).ownBlock ∧ some k_ ≠ (u10 : Value).ownBlock ∧ k_ ≠ gb384) u9 x9_2) ∧ Aside0 (Kd.R (Kd.int .i64) 3 wc w.heap.size (fun k_ => (w.heap.size ≤ k_) ∧ some k_ ≠ ((.slice (some ad382) x7_1.length co15) : Value).ownBlock) u10 x10_2) ∧ Aside0 (wc.heap[gb384]? = some (.cells #[.int .i64 ((rd_T31 l0 (rd x7_1 x12_2)).f0), .int .i64 ((rd_T31 l0 (rd x7_1 x12_2)).f1), .int .i64 ((rd_T31 l0 (rd x7_1 x12_2)).f2), .int .i64 ((rd_T31 l0 (rd x7_1 x12_2)).f3)] 31 (0, 0))) ∧ Aside0 (Below w.heap.size w wc))
                      case first =>
                        have H := HC14.out
                        clear HC14
                        by_cases c18 : x12_2 > 0
                        · rw [if_pos c18] at H
                          have c18b0 : decide (0 < x12_2) = true := decide_eq_true c18
                          clear c18
                          (first | rw [c18b0] | (simp only [i64_w, i32_w]; rw [c18b0]) | skip)
                          have H' := Aside0.mk H
                          clear H
                          have hcz19_0 : w16.cell? ⟨gb384, 0, none⟩ = some (.int .i64 0) := (blk_cell BK384.out 0).trans rfl
                          have hcz19_1 : w16.cell? ⟨gb384, 1, none⟩ = some (.int .i64 0) := (blk_cell BK384.out 1).trans rfl
                          have hcz19_2 : w16.cell? ⟨gb384, 2, none⟩ = some (.int .i64 0) := (blk_cell BK384.out 2).trans rfl
                          have hcz19_3 : w16.cell? ⟨gb384, 3, none⟩ = some (.int .i64 0) := (blk_cell BK384.out 3).trans rfl
                          have hfz19_0 := blk_frozen BK384.out 0
                          have hfz19_1 := blk_frozen BK384.out 1
                          have hfz19_2 := blk_frozen BK384.out 2
                          have hfz19_3 := blk_frozen BK384.out 3
                          go_wp2
                          go_meet
                          case rel => exact ⟨_, (decide (((rd_T31 l0 (rd x7_1 x12_2)).f1) > (wrap64 (x11_2 + a1)))), (by first | rfl | (simp; done) | (simp [*]; done)), H', ⟨by have := HK1.out; have := HK2.out; first | omega | exact Nat.le_refl _⟩, ⟨by (with_reducible repeat (first | apply Kd.R_alloc | apply Kd.R_drewN | apply Kd.R_drew)); exact Kd.R_mono (Kd.R_far (p := ⟨gb384, 3, none⟩) (Kd.R_far (p := ⟨gb384, 2, none⟩) (Kd.R_far (p := ⟨gb384, 1, none⟩) (Kd.R_far (p := ⟨gb384, 0, none⟩) (Kd.R_types HO_7.out BK384.out (by decide)) (fun _ hk => hk.2) (.int .i64 ((rd_T31 l0 (rd x7_1 x12_2)).f0))) (fun _ hk => hk.2) (.int .i64 ((rd_T31 l0 (rd x7_1 x12_2)).f1))) (fun _ hk => hk.2) (.int .i64 ((rd_T31 l0 (rd x7_1 x12_2)).f2))) (fun _ hk => hk.2) (.int .i64 ((rd_T31 l0 (rd x7_1 x12_2)).f3))) (fun _ hk => ⟨hk.1.1, hk.1.2⟩)⟩, ⟨by (with_reducible repeat (first | apply Kd.N_alloc | apply Kd.N_drewN | apply Kd.N_drew)); exact Kd.N_mono (Kd.N_far (p := ⟨gb384, 3, none⟩) (Kd.N_far (p := ⟨gb384, 2, none⟩) (Kd.N_far (p := ⟨gb384, 1, none⟩) (Kd.N_far (p := ⟨gb384, 0, none⟩) (Kd.N_mono HO_9.out (fun k_ hk => (⟨hk, hk.2⟩ : _ ∧ k_ ≠ gb384))) (fun _ hk => hk.2) (.int .i64 ((rd_T31 l0 (rd x7_1 x12_2)).f0))) (fun _ hk => hk.2) (.int .i64 ((rd_T31 l0 (rd x7_1 x12_2)).f1))) (fun _ hk => hk.2) (.int .i64 ((rd_T31 l0 (rd x7_1 x12_2)).f2))) (fun _ hk => hk.2) (.int .i64 ((rd_T31 l0 (rd x7_1 x12_2)).f3))) (fun _ hk => ⟨hk.1.1.1, ⟨hk.1.1.2.1, ⟨hk.1.1.2.2, hk.1.2⟩⟩⟩)⟩, ⟨by (with_reducible repeat (first | apply Kd.R_alloc | apply Kd.R_drewN | apply Kd.R_drew)); exact Kd.R_mono (Kd.R_far (p := ⟨gb384, 3, none⟩) (Kd.R_far (p := ⟨gb384, 2, none⟩) (Kd.R_far (p := ⟨gb384, 1, none⟩) (Kd.R_far (p := ⟨gb384, 0, none⟩) (Kd.R_types HO_10.out BK384.out (by decide)) (fun _ hk => hk.2) (.int .i64 ((rd_T31 l0 (rd x7_1 x12_2)).f0))) (fun _ hk => hk.2) (.int .i64 ((rd_T31 l0 (rd x7_1 x12_2)).f1))) (fun _ hk => hk.2) (.int .i64 ((rd_T31 l0 (rd x7_1 x12_2)).f2))) (fun _ hk => hk.2) (.int .i64 ((rd_T31 l0 (rd x7_1 x12_2)).f3))) (fun _ hk => ⟨hk.1.1, hk.1.2⟩)⟩, ⟨by (with_reducible repeat (first | refine blk_drewN ?_ _ | refine blk_drew ?_ | refine blk_alloc ?_ _)); refine blk_put (cs := #[.int .i64 ((rd_T31 l0 (rd x7_1 x12_2)).f0), .int .i64 ((rd_T31 l0 (rd x7_1 x12_2)).f1), .int .i64 ((rd_T31 l0 (rd x7_1 x12_2)).f2), .int .i64 0]) ?_ 3 _ rfl; (with_reducible repeat (first | refine blk_drewN ?_ _ | refine blk_drew ?_ | refine blk_alloc ?_ _)); refine blk_put (cs := #[.int .i64 ((rd_T31 l0 (rd x7_1 x12_2)).f0), .int .i64 ((rd_T31 l0 (rd x7_1 x12_2)).f1), .int .i64 0, .int .i64 0]) ?_ 2 _ rfl; (with_reducible repeat (first | refine blk_drewN ?_ _ | refine blk_drew ?_ | refine blk_alloc ?_ _)); refine blk_put (cs := #[.int .i64 ((rd_T31 l0 (rd x7_1 x12_2)).f0), .int .i64 0, .int .i64 0, .int .i64 0]) ?_ 1 _ rfl; (with_reducible repeat (first | refine blk_drewN ?_ _ | refine blk_drew ?_ | refine blk_alloc ?_ _)); refine blk_put (cs := #[.int .i64 0, .int .i64 0, .int .i64 0, .int .i64 0]) ?_ 0 _ rfl; (with_reducible repeat (first | refine blk_drewN ?_ _ | refine blk_drew ?_ | refine blk_alloc ?_ _)); exact BK384.out⟩, ⟨by repeat (first | (with_reducible first | exact HB.out | apply below_alloc | apply pw_below_drewN | apply below_drew1 | refine below_set ?_ GE384.out) | exact HB.out)⟩⟩
                        · rw [if_neg c18] at H
                          have c18b0 : decide (0 < x12_2) = false := decide_eq_false c18
                          clear c18
                          (first | rw [c18b0] | (simp only [i64_w, i32_w]; rw [c18b0]) | skip)
                          have H' := Aside0.mk H
                          clear H
                          go_wp2
                          go_meet
                          case rel => exact ⟨_, (false), (by first | rfl | (simp; done) | (simp [*]; done)), H', ⟨by have := HK1.out; have := HK2.out; first | omega | exact Nat.le_refl _⟩, ⟨by (with_reducible repeat (first | apply Kd.R_alloc | apply Kd.R_drewN | apply Kd.R_drew)); exact Kd.R_mono (Kd.R_far (p := ⟨gb384, 3, none⟩) (Kd.R_far (p := ⟨gb384, 2, none⟩) (Kd.R_far (p := ⟨gb384, 1, none⟩) (Kd.R_far (p := ⟨gb384, 0, none⟩) (Kd.R_types HO_7.out BK384.out (by decide)) (fun _ hk => hk.2) (.int .i64 ((rd_T31 l0 (rd x7_1 x12_2)).f0))) (fun _ hk => hk.2) (.int .i64 ((rd_T31 l0 (rd x7_1 x12_2)).f1))) (fun _ hk => hk.2) (.int .i64 ((rd_T31 l0 (rd x7_1 x12_2)).f2))) (fun _ hk => hk.2) (.int .i64 ((rd_T31 l0 (rd x7_1 x12_2)).f3))) (fun _ hk => ⟨hk.1.1, hk.1.2⟩)⟩, ⟨by (with_reducible repeat (first | apply Kd.N_alloc | apply Kd.N_drewN | apply Kd.N_drew)); exact Kd.N_mono (Kd.N_far (p := ⟨gb384, 3, none⟩) (Kd.N_far (p := ⟨gb384, 2, none⟩) (Kd.N_far (p := ⟨gb384, 1, none⟩) (Kd.N_far (p := ⟨gb384, 0, none⟩) (Kd.N_mono HO_9.out (fun k_ hk => (⟨hk, hk.2⟩ : _ ∧ k_ ≠ gb384))) (fun _ hk => hk.2) (.int .i64 ((rd_T31 l0 (rd x7_1 x12_2)).f0))) (fun _ hk => hk.2) (.int .i64 ((rd_T31 l0 (rd x7_1 x12_2)).f1))) (fun _ hk => hk.2) (.int .i64 ((rd_T31 l0 (rd x7_1 x12_2)).f2))) (fun _ hk => hk.2) (.int .i64 ((rd_T31 l0 (rd x7_1 x12_2)).f3))) (fun _ hk => ⟨hk.1.1.1, ⟨hk.1.1.2.1, ⟨hk.1.1.2.2, hk.1.2⟩⟩⟩)⟩, ⟨by (with_reducible repeat (first | apply Kd.R_alloc | apply Kd.R_drewN | apply Kd.R_drew)); exact Kd.R_mono (Kd.R_far (p := ⟨gb384, 3, none⟩) (Kd.R_far (p := ⟨gb384, 2, none⟩) (Kd.R_far (p := ⟨gb384, 1, none⟩) (Kd.R_far (p := ⟨gb384, 0, none⟩) (Kd.R_types HO_10.out BK384.out (by decide)) (fun _ hk => hk.2) (.int .i64 ((rd_T31 l0 (rd x7_1 x12_2)).f0))) (fun _ hk => hk.2) (.int .i64 ((rd_T31 l0 (rd x7_1 x12_2)).f1))) (fun _ hk => hk.2) (.int .i64 ((rd_T31 l0 (rd x7_1 x12_2)).f2))) (fun _ hk => hk.2) (.int .i64 ((rd_T31 l0 (rd x7_1 x12_2)).f3))) (fun _ hk => ⟨hk.1.1, hk.1.2⟩)⟩, ⟨by (with_reducible repeat (first | refine blk_drewN ?_ _ | refine blk_drew ?_ | refine blk_alloc ?_ _)); refine blk_put (cs := #[.int .i64 ((rd_T31 l0 (rd x7_1 x12_2)).f0), .int .i64 ((rd_T31 l0 (rd x7_1 x12_2)).f1), .int .i64 ((rd_T31 l0 (rd x7_1 x12_2)).f2), .int .i64 0]) ?_ 3 _ rfl; (with_reducible repeat (first | refine blk_drewN ?_ _ | refine blk_drew ?_ | refine blk_alloc ?_ _)); refine blk_put (cs := #[.int .i64 ((rd_T31 l0 (rd x7_1 x12_2)).f0), .int .i64 ((rd_T31 l0 (rd x7_1 x12_2)).f1), .int .i64 0, .int .i64 0]) ?_ 2 _ rfl; (with_reducible repeat (first | refine blk_drewN ?_ _ | refine blk_drew ?_ | refine blk_alloc ?_ _)); refine blk_put (cs := #[.int .i64 ((rd_T31 l0 (rd x7_1 x12_2)).f0), .int .i64 0, .int .i64 0, .int .i64 0]) ?_ 1 _ rfl; (with_reducible repeat (first | refine blk_drewN ?_ _ | refine blk_drew ?_ | refine blk_alloc ?_ _)); refine blk_put (cs := #[.int .i64 0, .int .i64 0, .int .i64 0, .int .i64 0]) ?_ 0 _ rfl; (with_reducible repeat (first | refine blk_drewN ?_ _ | refine blk_drew ?_ | refine blk_alloc ?_ _)); exact BK384.out⟩, ⟨by repeat (first | (with_reducible first | exact HB.out | apply below_alloc | apply pw_below_drewN | apply below_drew1 | refine below_set ?_ GE384.out) | exact HB.out)⟩⟩
                      case rest =>
                        clear HC14
                        try clear c1
                        try clear c2
                        try clear p2
                        try clear c3
                        try clear p3
                        try clear q3
                        try clear hx3
                        try clear c4
                        try clear c4b0
                        try clear c4b1
                        try clear c6
                        try clear c6b0
                        try clear p6
                        try clear c10
                        try clear c10b0
                        try clear c11
                        try clear c11b0
                        try clear c12
                        try clear c12b0
                        try clear c13
                        try clear c13b0
                        try clear c18
                        try clear c18b0
                        try clear hcz17_0
                        try clear hcz17_1
                        try clear hcz17_2
                        try clear hcz17_3
                        try clear hcz19_0
                        try clear hcz19_1
                        try clear hcz19_2
                        try clear hcz19_3
                        try clear hfz17_0
                        try clear hfz17_1
                        try clear hfz17_2
                        try clear hfz17_3
                        try clear hfz19_0
                        try clear hfz19_1
                        try clear hfz19_2
                        try clear hfz19_3
                        try clear hx382_0
                        try clear hx383_0
                        try clear hx383_1
                        try clear hx383_2
                        try clear hx383_3
                        try clear p2
                        try clear p382
                        try clear p383
                        try clear p6
                        try clear q382
                        try clear q383
                        obtain ⟨kq, x52_13, rfl, HA, HJ13, HO_7, HO_9, HO_10, BK384, HB⟩ := hcut
                        cases kq with
                        | zero => exact absurd HA.out (by simp [barscanref50_Paragraphs.j2])
                        | succ kj13 =>
                          have H := HA.out
                          clear HA
                          simp only [barscanref50_Paragraphs.j2] at H
                          by_cases c20 : x52_13 = true
                          · subst c20
                            have H1 : (if x9_2.length < 5864062014805 then ((some (x9_2 ++ [(⟨x10_2⟩ : S61)] : List (S61))).bind fun y385 => (if (([] : List Int).length : Int) = 0 then (if 0 ≤ x12_2 then (if x12_2 < (x7_1.length : Int) then (if ([] : List Int).length < 17592186044416 then (barscanref50_Paragraphs.l1 kj13 l0 a1 x7_1 y385 (([] : List Int) ++ [rd x7_1 x12_2]) (mx (wrap64 (((rd_T31 l0 (rd x7_1 x12_2)).f1) + ((rd_T31 l0 (rd x7_1 x12_2)).f3))) (wrap64 (((rd_T31 l0 (rd x7_1 x12_2)).f1) + ((rd_T31 l0 (rd x7_1 x12_2)).f3)))) (wrap64 (x12_2 + 1))) else (none)) else (none)) else (none)) else (if 0 ≤ x12_2 then (if x12_2 < (x7_1.length : Int) then (if ([] : List Int).length < 17592186044416 then (barscanref50_Paragraphs.l1 kj13 l0 a1 x7_1 y385 (([] : List Int) ++ [rd x7_1 x12_2]) (mx x11_2 (wrap64 (((rd_T31 l0 (rd x7_1 x12_2)).f1) + ((rd_T31 l0 (rd x7_1 x12_2)).f3)))) (wrap64 (x12_2 + 1))) else (none)) else (none)) else (none)))) else (none)) = some (r1, r2) := by rw [if_pos rfl] at H; exact H
                            clear H
                            have H := H1
                            clear H1
                            by_cases c21 : x9_2.length < 5864062014805
                            · rw [if_pos c21] at H
                              have LMc21 := Aside0.mk c21
                              clear c21
                              obtain ⟨y385, hy385⟩ : ∃ y_ : List (S61), y_ = (x9_2 ++ [(⟨x10_2⟩ : S61)]) := ⟨_, rfl⟩
                              replace H : (if (([] : List Int).length : Int) = 0 then (if 0 ≤ x12_2 then (if x12_2 < (x7_1.length : Int) then (if ([] : List Int).length < 17592186044416 then (barscanref50_Paragraphs.l1 kj13 l0 a1 x7_1 y385 (([] : List Int) ++ [rd x7_1 x12_2]) (mx (wrap64 (((rd_T31 l0 (rd x7_1 x12_2)).f1) + ((rd_T31 l0 (rd x7_1 x12_2)).f3))) (wrap64 (((rd_T31 l0 (rd x7_1 x12_2)).f1) + ((rd_T31 l0 (rd x7_1 x12_2)).f3)))) (wrap64 (x12_2 + 1))) else (none)) else (none)) else (none)) else (if 0 ≤ x12_2 then (if x12_2 < (x7_1.length : Int) then (if ([] : List Int).length < 17592186044416 then (barscanref50_Paragraphs.l1 kj13 l0 a1 x7_1 y385 (([] : List Int) ++ [rd x7_1 x12_2]) (mx x11_2 (wrap64 (((rd_T31 l0 (rd x7_1 x12_2)).f1) + ((rd_T31 l0 (rd x7_1 x12_2)).f3)))) (wrap64 (x12_2 + 1))) else (none)) else (none)) else (none))) = some (r1, r2) := by first | (rw [hy385]; with_reducible exact H) | (have H2_ := (Option.bind_some _ _).symm.trans H; rw [hy385]; with_reducible exact H2_) | (have H2_ := (Option.bind_some _ _).symm.trans H; with_reducible exact H2_) | with_reducible exact H | (rw [hy385]; exact H) | exact H
                              have Ny385 := Aside0.mk hy385
                              clear hy385
                              by_cases c22 : (([] : List Int).length : Int) = 0
                              · rw [if_pos c22] at H
                                have c22b0 : ((([] : List Int).length : Int) == 0) = true := beq_iff_eq.mpr c22
                                have c22b1 : ((([] : List Int).length : Int) != 0) = false := bne_eq_false_iff_eq.mpr c22
                                clear c22
                                obtain ⟨ji23, hji23⟩ : ∃ j_ : Int, (mx (wrap64 (((rd_T31 l0 (rd x7_1 x12_2)).f1) + ((rd_T31 l0 (rd x7_1 x12_2)).f3))) (wrap64 (((rd_T31 l0 (rd x7_1 x12_2)).f1) + ((rd_T31 l0 (rd x7_1 x12_2)).f3)))) = j_ := ⟨_, rfl⟩
                                replace H : (if 0 ≤ x12_2 then (if x12_2 < (x7_1.length : Int) then (if ([] : List Int).length < 17592186044416 then (barscanref50_Paragraphs.l1 kj13 l0 a1 x7_1 y385 (([] : List Int) ++ [rd x7_1 x12_2]) ji23 (wrap64 (x12_2 + 1))) else (none)) else (none)) else (none)) = some (r1, r2) := by first | (rw [hji23] at H; exact H) | (simp only [hji23] at H ⊢; exact H)
                                have hji23_ : (if (wrap64 (((rd_T31 l0 (rd x7_1 x12_2)).f1) + ((rd_T31 l0 (rd x7_1 x12_2)).f3))) < (wrap64 (((rd_T31 l0 (rd x7_1 x12_2)).f1) + ((rd_T31 l0 (rd x7_1 x12_2)).f3))) then (wrap64 (((rd_T31 l0 (rd x7_1 x12_2)).f1) + ((rd_T31 l0 (rd x7_1 x12_2)).f3))) else (wrap64 (((rd_T31 l0 (rd x7_1 x12_2)).f1) + ((rd_T31 l0 (rd x7_1 x12_2)).f3)))) = ji23 := hji23
                                by_cases c24 : 0 ≤ x12_2
                                · rw [if_pos c24] at H
                                  have c24b0 : decide (0 ≤ x12_2) = true := decide_eq_true c24
                                  clear c24
                                  by_cases c25 : x12_2 < (x7_1.length : Int)
                                  · rw [if_pos c25] at H
                                    have c25b0 : decide (x12_2 < (x7_1.length : Int)) = true := decide_eq_true c25
                                    clear c25
                                    by_cases c26 : ([] : List Int).length < 17592186044416
                                    · rw [if_pos c26] at H
                                      have LMc26 := Aside0.mk c26
                                      clear c26
                                      obtain ⟨y389, hy389⟩ : ∃ y_ : List Int, y_ = (([] : List Int) ++ [rd x7_1 x12_2]) := ⟨_, rfl⟩
                                      replace H : (barscanref50_Paragraphs.l1 kj13 l0 a1 x7_1 y385 y389 ji23 (wrap64 (x12_2 + 1))) = some (r1, r2) := by first | (rw [hy389]; with_reducible exact H) | (have H2_ := (Option.bind_some _ _).symm.trans H; rw [hy389]; with_reducible exact H2_) | (have H2_ := (Option.bind_some _ _).symm.trans H; with_reducible exact H2_) | with_reducible exact H | (rw [hy389]; exact H) | exact H
                                      have Ny389 := Aside0.mk hy389
                                      clear hy389
                                      have H' := Aside0.mk H
                                      clear H
                                      obtain ⟨Ao27, co27, eo27⟩ := Kd.R_slice HO_10.out
                                      subst eo27
                                      go_wp2_with (first | ((with_reducible refine gate_builtin (b := .append) (xs := #[.tmp 53, .tmp 56]) rfl ?_); at_builtin; refine Kd.N_append k61 (w0 := w) w.heap.size rfl (.tmp 53) (.tmp 56) 56 61 (.agg #[(.slice none 0 0)]) 24 rfl Try.underlying56 info61 rfl (by decide) (by omega) u9 x9_2 (⟨x10_2⟩ : S61) [.slice Ao27 x10_2.length co27] (fun k_ => (w.heap.size ≤ k_) ∧ some k_ ≠ (.slice (some ad382) x7_1.length co15 : Value).ownBlock ∧ k_ ≠ gb384) (fun k_ => ((fun k_ => (w.heap.size ≤ k_) ∧ some k_ ≠ (.slice (some ad382) x7_1.length co15 : Value).ownBlock ∧ k_ ≠ gb384)) k_ ∧ some k_ ≠ (u9 : Value).ownBlock) rfl rfl ?aP (fun _ hk => hk) ?aF ?aO ?aB ?aS ?aL ?_; (case aP => exact (k61_mkF _ _ (⟨x10_2⟩ : S61) (Kd.R_reads' (Kd.R_mono (ok' := (fun k_ => ((fun k_ => (w.heap.size ≤ k_) ∧ some k_ ≠ (.slice (some ad382) x7_1.length co15 : Value).ownBlock ∧ k_ ≠ gb384)) k_ ∧ some k_ ≠ (u9 : Value).ownBlock)) (Kd.R_types (Kd.R_apart' (HO_10.out) (Kd.N_typed HO_9.out) (by decide)) BK384.out (by decide)) (fun k_ hk => ⟨⟨hk.1.1.1, ⟨hk.1.1.2, hk.2⟩⟩, hk.1.2⟩))).2.1 (Kd.R_F (Kd.R_mono (ok' := (fun k_ => ((fun k_ => (w.heap.size ≤ k_) ∧ some k_ ≠ (.slice (some ad382) x7_1.length co15 : Value).ownBlock ∧ k_ ≠ gb384)) k_ ∧ some k_ ≠ (u9 : Value).ownBlock)) (Kd.R_types (Kd.R_apart' (HO_10.out) (Kd.N_typed HO_9.out) (by decide)) BK384.out (by decide)) (fun k_ hk => ⟨⟨hk.1.1.1, ⟨hk.1.1.2, hk.2⟩⟩, hk.1.2⟩))))); (case aB => exact (by repeat (first | (with_reducible first | exact HB.out | apply below_alloc | apply pw_below_drewN | apply below_drew1 | refine below_set ?_ GE384.out) | exact HB.out))); (case aF => exact (fun k_ hk => ⟨(Nat.le_trans (below_size (by repeat (first | (with_reducible first | exact HB.out | apply below_alloc | apply pw_below_drewN | apply below_drew1 | refine below_set ?_ GE384.out) | exact HB.out))) hk), Kd.fresh' (Kd.R_lt (by (with_reducible repeat (first | apply Kd.R_alloc | apply Kd.R_drewN | apply Kd.R_drew)); exact HO_7.out)) k_ hk, Kd.freshB (g := gb384) (o := .cells #[.int .i64 ((rd_T31 l0 (rd x7_1 x12_2)).f0), .int .i64 ((rd_T31 l0 (rd x7_1 x12_2)).f1), .int .i64 ((rd_T31 l0 (rd x7_1 x12_2)).f2), .int .i64 ((rd_T31 l0 (rd x7_1 x12_2)).f3)] 31 (0, 0)) (by (with_reducible repeat (first | refine blk_drewN ?_ _ | refine blk_drew ?_ | refine blk_alloc ?_ _)); exact BK384.out) k_ hk⟩)); (case aO => exact (by (with_reducible repeat (first | apply Kd.N_alloc | apply Kd.N_drewN | apply Kd.N_drew)); exact Kd.N_mono HO_9.out (fun _ hk => ⟨hk.1, ⟨hk.2.1, hk.2.2.2⟩⟩))); (case aS => exact (below_size (by repeat (first | (with_reducible first | exact HB.out | apply below_alloc | apply pw_below_drewN | apply below_drew1 | refine below_set ?_ GE384.out) | exact HB.out)))); (case aL => have := LMc21.out; omega); intro v386 w28 ho hb hg hat; rw [← Ny385.out] at ho; have n0_ := Aside0.mk (Kd.R_over' (by (with_reducible repeat (first | apply Kd.R_alloc | apply Kd.R_drewN | apply Kd.R_drew)); exact HO_7.out) (Kd.N_typed (by (with_reducible repeat (first | apply Kd.N_alloc | apply Kd.N_drewN | apply Kd.N_drew)); exact HO_9.out)) (by decide) hg); have n1_ := Aside0.mk (blk_grown (g := gb384) (o := .cells #[.int .i64 ((rd_T31 l0 (rd x7_1 x12_2)).f0), .int .i64 ((rd_T31 l0 (rd x7_1 x12_2)).f1), .int .i64 ((rd_T31 l0 (rd x7_1 x12_2)).f2), .int .i64 ((rd_T31 l0 (rd x7_1 x12_2)).f3)] 31 (0, 0)) (by (with_reducible repeat (first | refine blk_drewN ?_ _ | refine blk_drew ?_ | refine blk_alloc ?_ _)); exact BK384.out) hg (Kd.N_ne HO_9.out BK384.out (by decide))); have n2_ := Aside0.mk (hb); have n3_ := Aside0.mk (ho); clear HO_7; clear BK384; clear HB; clear HO_9; clear HO_10; have HO_7 := n0_; have BK384 := n1_; have HB := n2_; have HO387 := n3_; clear n0_ n1_ n2_ n3_; clear ho hb hg hat; have hcz29_0 : w28.cell? ⟨gb384, 0, none⟩ = some (.int .i64 ((rd_T31 l0 (rd x7_1 x12_2)).f0)) := (blk_cell BK384.out 0).trans rfl; have hcz29_1 : w28.cell? ⟨gb384, 1, none⟩ = some (.int .i64 ((rd_T31 l0 (rd x7_1 x12_2)).f1)) := (blk_cell BK384.out 1).trans rfl; have hcz29_2 : w28.cell? ⟨gb384, 2, none⟩ = some (.int .i64 ((rd_T31 l0 (rd x7_1 x12_2)).f2)) := (blk_cell BK384.out 2).trans rfl; have hcz29_3 : w28.cell? ⟨gb384, 3, none⟩ = some (.int .i64 ((rd_T31 l0 (rd x7_1 x12_2)).f3)) := (blk_cell BK384.out 3).trans rfl; have hfz29_0 := blk_frozen BK384.out 0; have hfz29_1 := blk_frozen BK384.out 1; have hfz29_2 := blk_frozen BK384.out 2; have hfz29_3 := blk_frozen BK384.out 3; have p388 : 0 ≤ (x12_2 : Int) := of_decide_eq_true (by first | (with_reducible assumption) | assumption); have q388 : x12_2 < (x7_1.length : Int) := of_decide_eq_true (by first | (with_reducible assumption) | assumption); obtain ⟨ad388, e388, hx388_0⟩ := Kd.at_int (Kd.R_reads' HO_7.out).2.2 x12_2 p388 q388; obtain rfl : ad382 = ad388 := (by injection e388); replace p388 := eq_true p388; replace q388 := eq_true q388) | ((with_reducible refine gate_builtin (b := .append) (xs := #[.tmp 73, .tmp 78]) rfl ?_); at_builtin; refine Kd.R_append (Kd.int .i64) (w0 := w) w.heap.size rfl (.tmp 73) (.tmp 78) 24 3 (.int .i64 0) 8 rfl Try.underlying24 info3 rfl (by decide) (by omega) (.slice none 0 0) ([] : List Int) (rd x7_1 x12_2) [.int .i64 (rd x7_1 x12_2)] (fun k_ => (w.heap.size ≤ k_) ∧ some k_ ≠ (.slice (some ad382) x7_1.length co15 : Value).ownBlock) (fun _ => False) rfl rfl ?aP (fun _ hk => hk.elim) ?aF ?aO ?aB ?aS ?aL ?_; (case aP => exact rfl); (case aB => exact (by repeat (first | (with_reducible first | exact HB.out | apply below_alloc | apply pw_below_drewN | apply below_drew1 | refine below_set ?_ GE384.out) | exact HB.out))); (case aF => exact (fun k_ hk => ⟨(Nat.le_trans (below_size (by repeat (first | (with_reducible first | exact HB.out | apply below_alloc | apply pw_below_drewN | apply below_drew1 | refine below_set ?_ GE384.out) | exact HB.out))) hk), Kd.fresh' (Kd.R_lt (by (with_reducible repeat (first | apply Kd.R_alloc | apply Kd.R_drewN | apply Kd.R_drew)); exact HO_7.out)) k_ hk⟩)); (case aO => exact ((Kd.R_nil _ _ _ _ (fun k_ => (w.heap.size ≤ k_) ∧ some k_ ≠ (.slice (some ad382) x7_1.length co15 : Value).ownBlock)))); (case aS => exact (below_size (by repeat (first | (with_reducible first | exact HB.out | apply below_alloc | apply pw_below_drewN | apply below_drew1 | refine below_set ?_ GE384.out) | exact HB.out)))); (case aL => have := LMc26.out; omega); intro v390 w30 ho hb hg hat; rw [← Ny389.out] at ho; have n0_ := Aside0.mk (Kd.R_after (Kd.R_apart_nil (by (with_reducible repeat (first | apply Kd.R_alloc | apply Kd.R_drewN | apply Kd.R_drew)); exact HO_7.out)) hg hat); have n1_ := Aside0.mk (blk_grown (g := gb384) (o := .cells #[.int .i64 ((rd_T31 l0 (rd x7_1 x12_2)).f0), .int .i64 ((rd_T31 l0 (rd x7_1 x12_2)).f1), .int .i64 ((rd_T31 l0 (rd x7_1 x12_2)).f2), .int .i64 ((rd_T31 l0 (rd x7_1 x12_2)).f3)] 31 (0, 0)) (by (with_reducible repeat (first | refine blk_drewN ?_ _ | refine blk_drew ?_ | refine blk_alloc ?_ _)); exact BK384.out) hg (by simp [Value.ownBlock])); have n2_ := Aside0.mk (Kd.N_afterv (Kd.N_apart_nil (by (with_reducible repeat (first | apply Kd.N_alloc | apply Kd.N_drewN | apply Kd.N_drew)); exact HO387.out)) hg hat); have n3_ := Aside0.mk (hb); have n4_ := Aside0.mk (ho); clear HO_7; clear BK384; clear HO387; clear HB; have HO_7 := n0_; have BK384 := n1_; have HO387 := n2_; have HB := n3_; have HO391 := n4_; clear n0_ n1_ n2_ n3_ n4_; clear ho hb hg hat))
                                      go_roundg kj13
                                      case measure => have := HK1.out; have := HK2.out; have := HJ13.out; omega
                                      case rel => exact ⟨(y385), (y389), (ji23), (wrap64 (x12_2 + 1)), (by first | rfl | (simp; done) | (simp only [← hji23] <;> (first | rfl | simp)) | (simp [*]; done)), (by first | rfl | (simp; done) | (simp [*]; done)), H', ⟨by have := HK1.out; have := HK2.out; have := HJ13.out; omega⟩, ⟨by (with_reducible repeat (first | apply Kd.R_alloc | apply Kd.R_drewN | apply Kd.R_drew)); exact Kd.R_mono HO_7.out (fun _ hk => ⟨hk.1.1, hk.2⟩)⟩, ⟨by (with_reducible repeat (first | apply Kd.N_alloc | apply Kd.N_drewN | apply Kd.N_drew)); exact Kd.N_mono HO387.out (fun _ hk => ⟨hk.1.1, ⟨hk.1.2.1, hk.2⟩⟩)⟩, ⟨by (with_reducible repeat (first | apply Kd.R_alloc | apply Kd.R_drewN | apply Kd.R_drew)); exact HO391.out⟩, ⟨by repeat (first | (with_reducible first | exact HB.out | apply below_alloc | apply pw_below_drewN | apply below_drew1 | refine below_set ?_ GE384.out) | exact HB.out)⟩⟩
                                    · rw [if_neg c26] at H
                                      exact absurd H (by simp)
                                  · rw [if_neg c25] at H
                                    exact absurd H (by simp)
                                · rw [if_neg c24] at H
                                  exact absurd H (by simp)
                              · rw [if_neg c22] at H
                                exact absurd (show (([] : List Int).length : Int) = 0 from rfl) c22
                            · rw [if_neg c21] at H
                              exact absurd H (by simp)
                          · replace c20 := Bool.eq_false_iff.mpr c20
                            subst c20
                            have H1 : (if (x10_2.length : Int) = 0 then (if 0 ≤ x12_2 then (if x12_2 < (x7_1.length : Int) then (if x10_2.length < 17592186044416 then (barscanref50_Paragraphs.l1 kj13 l0 a1 x7_1 x9_2 (x10_2 ++ [rd x7_1 x12_2]) (mx (wrap64 (((rd_T31 l0 (rd x7_1 x12_2)).f1) + ((rd_T31 l0 (rd x7_1 x12_2)).f3))) (wrap64 (((rd_T31 l0 (rd x7_1 x12_2)).f1) + ((rd_T31 l0 (rd x7_1 x12_2)).f3)))) (wrap64 (x12_2 + 1))) else (none)) else (none)) else (none)) else (if 0 ≤ x12_2 then (if x12_2 < (x7_1.length : Int) then (if x10_2.length < 17592186044416 then (barscanref50_Paragraphs.l1 kj13 l0 a1 x7_1 x9_2 (x10_2 ++ [rd x7_1 x12_2]) (mx x11_2 (wrap64 (((rd_T31 l0 (rd x7_1 x12_2)).f1) + ((rd_T31 l0 (rd x7_1 x12_2)).f3)))) (wrap64 (x12_2 + 1))) else (none)) else (none)) else (none))) = some (r1, r2) := by rw [if_neg (show ¬ (false = true) by decide)] at H; exact H
                            clear H
                            have H := H1
                            clear H1
                            by_cases c39 : (x10_2.length : Int) = 0
                            · rw [if_pos c39] at H
                              have c39b0 : ((x10_2.length : Int) == 0) = true := beq_iff_eq.mpr c39
                              have c39b1 : ((x10_2.length : Int) != 0) = false := bne_eq_false_iff_eq.mpr c39
                              clear c39
                              obtain ⟨ji40, hji40⟩ : ∃ j_ : Int, (mx (wrap64 (((rd_T31 l0 (rd x7_1 x12_2)).f1) + ((rd_T31 l0 (rd x7_1 x12_2)).f3))) (wrap64 (((rd_T31 l0 (rd x7_1 x12_2)).f1) + ((rd_T31 l0 (rd x7_1 x12_2)).f3)))) = j_ := ⟨_, rfl⟩
                              replace H : (if 0 ≤ x12_2 then (if x12_2 < (x7_1.length : Int) then (if x10_2.length < 17592186044416 then (barscanref50_Paragraphs.l1 kj13 l0 a1 x7_1 x9_2 (x10_2 ++ [rd x7_1 x12_2]) ji40 (wrap64 (x12_2 + 1))) else (none)) else (none)) else (none)) = some (r1, r2) := by first | (rw [hji40] at H; exact H) | (simp only [hji40] at H ⊢; exact H)
                              have hji40_ : (if (wrap64 (((rd_T31 l0 (rd x7_1 x12_2)).f1) + ((rd_T31 l0 (rd x7_1 x12_2)).f3))) < (wrap64 (((rd_T31 l0 (rd x7_1 x12_2)).f1) + ((rd_T31 l0 (rd x7_1 x12_2)).f3))) then (wrap64 (((rd_T31 l0 (rd x7_1 x12_2)).f1) + ((rd_T31 l0 (rd x7_1 x12_2)).f3))) else (wrap64 (((rd_T31 l0 (rd x7_1 x12_2)).f1) + ((rd_T31 l0 (rd x7_1 x12_2)).f3)))) = ji40 := hji40
                              by_cases c41 : 0 ≤ x12_2
                              · rw [if_pos c41] at H
                                have c41b0 : decide (0 ≤ x12_2) = true := decide_eq_true c41
                                clear c41
                                by_cases c42 : x12_2 < (x7_1.length : Int)
                                · rw [if_pos c42] at H
                                  have c42b0 : decide (x12_2 < (x7_1.length : Int)) = true := decide_eq_true c42
                                  clear c42
                                  by_cases c43 : x10_2.length < 17592186044416
                                  · rw [if_pos c43] at H
                                    have LMc43 := Aside0.mk c43
                                    clear c43
                                    obtain ⟨y397, hy397⟩ : ∃ y_ : List Int, y_ = (x10_2 ++ [rd x7_1 x12_2]) := ⟨_, rfl⟩
                                    replace H : (barscanref50_Paragraphs.l1 kj13 l0 a1 x7_1 x9_2 y397 ji40 (wrap64 (x12_2 + 1))) = some (r1, r2) := by first | (rw [hy397]; with_reducible exact H) | (have H2_ := (Option.bind_some _ _).symm.trans H; rw [hy397]; with_reducible exact H2_) | (have H2_ := (Option.bind_some _ _).symm.trans H; with_reducible exact H2_) | with_reducible exact H | (rw [hy397]; exact H) | exact H
                                    have Ny397 := Aside0.mk hy397
                                    clear hy397
                                    have H' := Aside0.mk H
                                    clear H
                                    obtain ⟨Ao44, co44, eo44⟩ := Kd.R_slice HO_10.out
                                    subst eo44
                                    have hcz45_0 : wc.cell? ⟨gb384, 0, none⟩ = some (.int .i64 ((rd_T31 l0 (rd x7_1 x12_2)).f0)) := (blk_cell BK384.out 0).trans rfl
                                    have hcz45_1 : wc.cell? ⟨gb384, 1, none⟩ = some (.int .i64 ((rd_T31 l0 (rd x7_1 x12_2)).f1)) := (blk_cell BK384.out 1).trans rfl
                                    have hcz45_2 : wc.cell? ⟨gb384, 2, none⟩ = some (.int .i64 ((rd_T31 l0 (rd x7_1 x12_2)).f2)) := (blk_cell BK384.out 2).trans rfl
                                    have hcz45_3 : wc.cell? ⟨gb384, 3, none⟩ = some (.int .i64 ((rd_T31 l0 (rd x7_1 x12_2)).f3)) := (blk_cell BK384.out 3).trans rfl
                                    have hfz45_0 := blk_frozen BK384.out 0
                                    have hfz45_1 := blk_frozen BK384.out 1
                                    have hfz45_2 := blk_frozen BK384.out 2
                                    have hfz45_3 := blk_frozen BK384.out 3
                                    have p396 : 0 ≤ (x12_2 : Int) := of_decide_eq_true (by first | (with_reducible assumption) | assumption)
                                    have q396 : x12_2 < (x7_1.length : Int) := of_decide_eq_true (by first | (with_reducible assumption) | assumption)
                                    obtain ⟨ad396, e396, hx396_0⟩ := Kd.at_int (Kd.R_reads' HO_7.out).2.2 x12_2 p396 q396
                                    obtain rfl : ad382 = ad396 := (by injection e396)
                                    replace p396 := eq_true p396
                                    replace q396 := eq_true q396
                                    go_wp2_with (first | ((with_reducible refine gate_builtin (b := .append) (xs := #[.tmp 73, .tmp 78]) rfl ?_); at_builtin; refine Kd.R_append (Kd.int .i64) (w0 := w) w.heap.size rfl (.tmp 73) (.tmp 78) 24 3 (.int .i64 0) 8 rfl Try.underlying24 info3 rfl (by decide) (by omega) (.slice Ao44 x10_2.length co44) x10_2 (rd x7_1 x12_2) [.int .i64 (rd x7_1 x12_2)] (fun k_ => (w.heap.size ≤ k_) ∧ some k_ ≠ (.slice (some ad382) x7_1.length co15 : Value).ownBlock) (fun _ => False) rfl rfl ?aP (fun _ hk => hk.elim) ?aF ?aO ?aB ?aS ?aL ?_; (case aP => exact rfl); (case aB => exact (by repeat (first | (with_reducible first | exact HB.out | apply below_alloc | apply pw_below_drewN | apply below_drew1 | refine below_set ?_ GE384.out) | exact HB.out))); (case aF => exact (fun k_ hk => ⟨(Nat.le_trans (below_size (by repeat (first | (with_reducible first | exact HB.out | apply below_alloc | apply pw_below_drewN | apply below_drew1 | refine below_set ?_ GE384.out) | exact HB.out))) hk), Kd.fresh' (Kd.R_lt (by (with_reducible repeat (first | apply Kd.R_alloc | apply Kd.R_drewN | apply Kd.R_drew)); exact HO_7.out)) k_ hk⟩)); (case aO => exact (by (with_reducible repeat (first | apply Kd.R_alloc | apply Kd.R_drewN | apply Kd.R_drew)); exact HO_10.out)); (case aS => exact (below_size (by repeat (first | (with_reducible first | exact HB.out | apply below_alloc | apply pw_below_drewN | apply below_drew1 | refine below_set ?_ GE384.out) | exact HB.out)))); (case aL => have := LMc43.out; omega); intro v398 w46 ho hb hg hat; rw [← Ny397.out] at ho; have n0_ := Aside0.mk (Kd.R_after (ok := (fun k_ => (w.heap.size ≤ k_))) (by (with_reducible repeat (first | apply Kd.R_alloc | apply Kd.R_drewN | apply Kd.R_drew)); exact HO_7.out) hg hat); have n1_ := Aside0.mk (Kd.N_afterv (ok := (fun k_ => (w.heap.size ≤ k_) ∧ some k_ ≠ (.slice (some ad382) x7_1.length co15 : Value).ownBlock ∧ k_ ≠ gb384)) (by (with_reducible repeat (first | apply Kd.N_alloc | apply Kd.N_drewN | apply Kd.N_drew)); exact Kd.N_mono HO_9.out (fun _ hk => ⟨⟨hk.1, ⟨hk.2.1, hk.2.2.2⟩⟩, hk.2.2.1⟩)) hg hat); have n2_ := Aside0.mk (blk_grown (g := gb384) (o := .cells #[.int .i64 ((rd_T31 l0 (rd x7_1 x12_2)).f0), .int .i64 ((rd_T31 l0 (rd x7_1 x12_2)).f1), .int .i64 ((rd_T31 l0 (rd x7_1 x12_2)).f2), .int .i64 ((rd_T31 l0 (rd x7_1 x12_2)).f3)] 31 (0, 0)) (by (with_reducible repeat (first | refine blk_drewN ?_ _ | refine blk_drew ?_ | refine blk_alloc ?_ _)); exact BK384.out) hg (Kd.R_ne HO_10.out BK384.out (by decide))); have n3_ := Aside0.mk (hb); have n4_ := Aside0.mk (ho); clear HO_7; clear HO_9; clear BK384; clear HB; clear HO_10; have HO_7 := n0_; have HO_9 := n1_; have BK384 := n2_; have HB := n3_; have HO399 := n4_; clear n0_ n1_ n2_ n3_ n4_; clear ho hb hg hat))
                                    go_roundg kj13
                                    case measure => have := HK1.out; have := HK2.out; have := HJ13.out; omega
                                    case rel => exact ⟨(x9_2), (y397), (ji40), (wrap64 (x12_2 + 1)), (by first | rfl | (simp; done) | (simp only [← hji40] <;> (first | rfl | simp)) | (simp [*]; done)), (by first | rfl | (simp; done) | (simp [*]; done)), H', ⟨by have := HK1.out; have := HK2.out; have := HJ13.out; omega⟩, ⟨by (with_reducible repeat (first | apply Kd.R_alloc | apply Kd.R_drewN | apply Kd.R_drew)); exact HO_7.out⟩, ⟨by (with_reducible repeat (first | apply Kd.N_alloc | apply Kd.N_drewN | apply Kd.N_drew)); exact Kd.N_mono HO_9.out (fun _ hk => ⟨hk.1.1, ⟨hk.1.2.1, hk.2⟩⟩)⟩, ⟨by (with_reducible repeat (first | apply Kd.R_alloc | apply Kd.R_drewN | apply Kd.R_drew)); exact HO399.out⟩, ⟨by repeat (first | (with_reducible first | exact HB.out | apply below_alloc | apply pw_below_drewN | apply below_drew1 | refine below_set ?_ GE384.out) | exact HB.out)⟩⟩
                                  · rw [if_neg c43] at H
                                    exact absurd H (by simp)
                                · rw [if_neg c42] at H
                                  exact absurd H (by simp)
                              · rw [if_neg c41] at H
                                exact absurd H (by simp)
                            · rw [if_neg c39] at H
                              have c39b0 : ((x10_2.length : Int) == 0) = false := beq_eq_false_iff_ne.mpr c39
                              have c39b1 : ((x10_2.length : Int) != 0) = true := bne_iff_ne.mpr c39
                              have c39b2 : ¬ (x10_2 = []) := fun h_ => c39 (by rw [h_]; rfl)
                              obtain ⟨ji47, hji47⟩ : ∃ j_ : Int, (mx x11_2 (wrap64 (((rd_T31 l0 (rd x7_1 x12_2)).f1) + ((rd_T31 l0 (rd x7_1 x12_2)).f3)))) = j_ := ⟨_, rfl⟩
                              replace H : (if 0 ≤ x12_2 then (if x12_2 < (x7_1.length : Int) then (if x10_2.length < 17592186044416 then (barscanref50_Paragraphs.l1 kj13 l0 a1 x7_1 x9_2 (x10_2 ++ [rd x7_1 x12_2]) ji47 (wrap64 (x12_2 + 1))) else (none)) else (none)) else (none)) = some (r1, r2) := by first | (rw [hji47] at H; exact H) | (simp only [hji47] at H ⊢; exact H)
                              have hji47_ : (if x11_2 < (wrap64 (((rd_T31 l0 (rd x7_1 x12_2)).f1) + ((rd_T31 l0 (rd x7_1 x12_2)).f3))) then (wrap64 (((rd_T31 l0 (rd x7_1 x12_2)).f1) + ((rd_T31 l0 (rd x7_1 x12_2)).f3))) else x11_2) = ji47 := hji47
                              by_cases c48 : 0 ≤ x12_2
                              · rw [if_pos c48] at H
                                have c48b0 : decide (0 ≤ x12_2) = true := decide_eq_true c48
                                clear c48
                                by_cases c49 : x12_2 < (x7_1.length : Int)
                                · rw [if_pos c49] at H
                                  have c49b0 : decide (x12_2 < (x7_1.length : Int)) = true := decide_eq_true c49
                                  clear c49
                                  by_cases c50 : x10_2.length < 17592186044416
                                  · rw [if_pos c50] at H
                                    have LMc50 := Aside0.mk c50
                                    clear c50
                                    obtain ⟨y401, hy401⟩ : ∃ y_ : List Int, y_ = (x10_2 ++ [rd x7_1 x12_2]) := ⟨_, rfl⟩
                                    replace H : (barscanref50_Paragraphs.l1 kj13 l0 a1 x7_1 x9_2 y401 ji47 (wrap64 (x12_2 + 1))) = some (r1, r2) := by first | (rw [hy401]; with_reducible exact H) | (have H2_ := (Option.bind_some _ _).symm.trans H; rw [hy401]; with_reducible exact H2_) | (have H2_ := (Option.bind_some _ _).symm.trans H; with_reducible exact H2_) | with_reducible exact H | (rw [hy401]; exact H) | exact H
                                    have Ny401 := Aside0.mk hy401
                                    clear hy401
                                    have H' := Aside0.mk H
                                    clear H
                                    obtain ⟨Ao51, co51, eo51⟩ := Kd.R_slice HO_10.out
                                    subst eo51
                                    have hcz52_0 : wc.cell? ⟨gb384, 0, none⟩ = some (.int .i64 ((rd_T31 l0 (rd x7_1 x12_2)).f0)) := (blk_cell BK384.out 0).trans rfl
                                    have hcz52_1 : wc.cell? ⟨gb384, 1, none⟩ = some (.int .i64 ((rd_T31 l0 (rd x7_1 x12_2)).f1)) := (blk_cell BK384.out 1).trans rfl
                                    have hcz52_2 : wc.cell? ⟨gb384, 2, none⟩ = some (.int .i64 ((rd_T31 l0 (rd x7_1 x12_2)).f2)) := (blk_cell BK384.out 2).trans rfl
                                    have hcz52_3 : wc.cell? ⟨gb384, 3, none⟩ = some (.int .i64 ((rd_T31 l0 (rd x7_1 x12_2)).f3)) := (blk_cell BK384.out 3).trans rfl
                                    have hfz52_0 := blk_frozen BK384.out 0
                                    have hfz52_1 := blk_frozen BK384.out 1
                                    have hfz52_2 := blk_frozen BK384.out 2
                                    have hfz52_3 := blk_frozen BK384.out 3
                                    have p400 : 0 ≤ (x12_2 : Int) := of_decide_eq_true (by first | (with_reducible assumption) | assumption)
                                    have q400 : x12_2 < (x7_1.length : Int) := of_decide_eq_true (by first | (with_reducible assumption) | assumption)
                                    obtain ⟨ad400, e400, hx400_0⟩ := Kd.at_int (Kd.R_reads' HO_7.out).2.2 x12_2 p400 q400
                                    obtain rfl : ad382 = ad400 := (by injection e400)
                                    replace p400 := eq_true p400
                                    replace q400 := eq_true q400
                                    go_wp2_with (first | ((with_reducible refine gate_builtin (b := .append) (xs := #[.tmp 73, .tmp 78]) rfl ?_); at_builtin; refine Kd.R_append (Kd.int .i64) (w0 := w) w.heap.size rfl (.tmp 73) (.tmp 78) 24 3 (.int .i64 0) 8 rfl Try.underlying24 info3 rfl (by decide) (by omega) (.slice Ao51 x10_2.length co51) x10_2 (rd x7_1 x12_2) [.int .i64 (rd x7_1 x12_2)] (fun k_ => (w.heap.size ≤ k_) ∧ some k_ ≠ (.slice (some ad382) x7_1.length co15 : Value).ownBlock) (fun _ => False) rfl rfl ?aP (fun _ hk => hk.elim) ?aF ?aO ?aB ?aS ?aL ?_; (case aP => exact rfl); (case aB => exact (by repeat (first | (with_reducible first | exact HB.out | apply below_alloc | apply pw_below_drewN | apply below_drew1 | refine below_set ?_ GE384.out) | exact HB.out))); (case aF => exact (fun k_ hk => ⟨(Nat.le_trans (below_size (by repeat (first | (with_reducible first | exact HB.out | apply below_alloc | apply pw_below_drewN | apply below_drew1 | refine below_set ?_ GE384.out) | exact HB.out))) hk), Kd.fresh' (Kd.R_lt (by (with_reducible repeat (first | apply Kd.R_alloc | apply Kd.R_drewN | apply Kd.R_drew)); exact HO_7.out)) k_ hk⟩)); (case aO => exact (by (with_reducible repeat (first | apply Kd.R_alloc | apply Kd.R_drewN | apply Kd.R_drew)); exact HO_10.out)); (case aS => exact (below_size (by repeat (first | (with_reducible first | exact HB.out | apply below_alloc | apply pw_below_drewN | apply below_drew1 | refine below_set ?_ GE384.out) | exact HB.out)))); (case aL => have := LMc50.out; omega); intro v402 w53 ho hb hg hat; rw [← Ny401.out] at ho; have n0_ := Aside0.mk (Kd.R_after (ok := (fun k_ => (w.heap.size ≤ k_))) (by (with_reducible repeat (first | apply Kd.R_alloc | apply Kd.R_drewN | apply Kd.R_drew)); exact HO_7.out) hg hat); have n1_ := Aside0.mk (Kd.N_afterv (ok := (fun k_ => (w.heap.size ≤ k_) ∧ some k_ ≠ (.slice (some ad382) x7_1.length co15 : Value).ownBlock ∧ k_ ≠ gb384)) (by (with_reducible repeat (first | apply Kd.N_alloc | apply Kd.N_drewN | apply Kd.N_drew)); exact Kd.N_mono HO_9.out (fun _ hk => ⟨⟨hk.1, ⟨hk.2.1, hk.2.2.2⟩⟩, hk.2.2.1⟩)) hg hat); have n2_ := Aside0.mk (blk_grown (g := gb384) (o := .cells #[.int .i64 ((rd_T31 l0 (rd x7_1 x12_2)).f0), .int .i64 ((rd_T31 l0 (rd x7_1 x12_2)).f1), .int .i64 ((rd_T31 l0 (rd x7_1 x12_2)).f2), .int .i64 ((rd_T31 l0 (rd x7_1 x12_2)).f3)] 31 (0, 0)) (by (with_reducible repeat (first | refine blk_drewN ?_ _ | refine blk_drew ?_ | refine blk_alloc ?_ _)); exact BK384.out) hg (Kd.R_ne HO_10.out BK384.out (by decide))); have n3_ := Aside0.mk (hb); have n4_ := Aside0.mk (ho); clear HO_7; clear HO_9; clear BK384; clear HB; clear HO_10; have HO_7 := n0_; have HO_9 := n1_; have BK384 := n2_; have HB := n3_; have HO403 := n4_; clear n0_ n1_ n2_ n3_ n4_; clear ho hb hg hat))
                                    go_roundg kj13
                                    case measure => have := HK1.out; have := HK2.out; have := HJ13.out; omega
                                    case rel => exact ⟨(x9_2), (y401), (ji47), (wrap64 (x12_2 + 1)), (by first | rfl | (simp; done) | (simp only [← hji47] <;> (first | rfl | simp)) | (simp [*]; done)), (by first | rfl | (simp; done) | (simp [*]; done)), H', ⟨by have := HK1.out; have := HK2.out; have := HJ13.out; omega⟩, ⟨by (with_reducible repeat (first | apply Kd.R_alloc | apply Kd.R_drewN | apply Kd.R_drew)); exact HO_7.out⟩, ⟨by (with_reducible repeat (first | apply Kd.N_alloc | apply Kd.N_drewN | apply Kd.N_drew)); exact Kd.N_mono HO_9.out (fun _ hk => ⟨hk.1.1, ⟨hk.1.2.1, hk.2⟩⟩)⟩, ⟨by (with_reducible repeat (first | apply Kd.R_alloc | apply Kd.R_drewN | apply Kd.R_drew)); exact HO403.out⟩, ⟨by repeat (first | (with_reducible first | exact HB.out | apply below_alloc | apply pw_below_drewN | apply below_drew1 | refine below_set ?_ GE384.out) | exact HB.out)⟩⟩
                                  · rw [if_neg c50] at H
                                    exact absurd H (by simp)
                                · rw [if_neg c49] at H
                                  exact absurd H (by simp)
                              · rw [if_neg c48] at H
                                exact absurd H (by simp)
                    · rw [if_neg c13] at H
                      exact absurd H (by simp)
                  · rw [if_neg c12] at H
                    exact absurd H (by simp)
                · rw [if_neg c11] at H
                  exact absurd H (by simp)
              · rw [if_neg c10] at H
                have c10b0 : decide (x12_2 < (x7_1.length : Int)) = false := decide_eq_false c10
                clear c10
                by_cases c54 : (x10_2.length : Int) > 0
                · rw [if_pos c54] at H
                  have c54b0 : decide (0 < (x10_2.length : Int)) = true := decide_eq_true c54
                  have c54b1 : decide (0 < x10_2.length) = true := decide_eq_true (by omega)
                  clear c54
                  by_cases c55 : x9_2.length < 5864062014805
                  · rw [if_pos c55] at H
                    have LMc55 := Aside0.mk c55
                    clear c55
                    obtain ⟨y373, hy373⟩ : ∃ y_ : List (S61), y_ = (x9_2 ++ [(⟨x10_2⟩ : S61)]) := ⟨_, rfl⟩
                    replace H : ((barscanref50_lists.f k2 y373).bind fun t376 => (some (t376, 0))) = some (r1, r2) := by first | (rw [hy373]; with_reducible exact H) | (have H2_ := (Option.bind_some _ _).symm.trans H; rw [hy373]; with_reducible exact H2_) | (have H2_ := (Option.bind_some _ _).symm.trans H; with_reducible exact H2_) | with_reducible exact H | (rw [hy373]; exact H) | exact H
                    have Ny373 := Aside0.mk hy373
                    clear hy373
                    replace H := Option.bind_eq_some_iff.mp H
                    obtain ⟨t376, A560, H⟩ := H
                    replace H : (some (t376, 0)) = some (r1, r2) := H
                    have A56 := Aside0.mk A560
                    clear A560
                    simp only [Option.some.injEq, Prod.mk.injEq] at H
                    obtain ⟨rfl, rfl⟩ := H
                    obtain ⟨Ao57, co57, eo57⟩ := Kd.R_slice HO_7.out
                    subst eo57
                    obtain ⟨Ao58, co58, eo58⟩ := Kd.R_slice HO_10.out
                    subst eo58
                    go_wp2_with (first | ((with_reducible refine gate_builtin (b := .append) (xs := #[.tmp 83, .tmp 86]) rfl ?_); at_builtin; refine Kd.N_append k61 (w0 := w) w.heap.size rfl (.tmp 83) (.tmp 86) 56 61 (.agg #[(.slice none 0 0)]) 24 rfl Try.underlying56 info61 rfl (by decide) (by omega) u9 x9_2 (⟨x10_2⟩ : S61) [.slice Ao58 x10_2.length co58] (fun k_ => (w.heap.size ≤ k_) ∧ some k_ ≠ (.slice Ao57 x7_1.length co57 : Value).ownBlock) (fun k_ => ((fun k_ => (w.heap.size ≤ k_) ∧ some k_ ≠ (.slice Ao57 x7_1.length co57 : Value).ownBlock)) k_ ∧ some k_ ≠ (u9 : Value).ownBlock) rfl rfl ?aP (fun _ hk => hk) ?aF ?aO ?aB ?aS ?aL ?_; (case aP => exact (k61_mkF _ _ (⟨x10_2⟩ : S61) (Kd.R_reads' (Kd.R_mono (ok' := (fun k_ => ((fun k_ => (w.heap.size ≤ k_) ∧ some k_ ≠ (.slice Ao57 x7_1.length co57 : Value).ownBlock)) k_ ∧ some k_ ≠ (u9 : Value).ownBlock)) (Kd.R_apart' (HO_10.out) (Kd.N_typed HO_9.out) (by decide)) (fun k_ hk => ⟨⟨hk.1.1, hk.1.2⟩, hk.2⟩))).2.1 (Kd.R_F (Kd.R_mono (ok' := (fun k_ => ((fun k_ => (w.heap.size ≤ k_) ∧ some k_ ≠ (.slice Ao57 x7_1.length co57 : Value).ownBlock)) k_ ∧ some k_ ≠ (u9 : Value).ownBlock)) (Kd.R_apart' (HO_10.out) (Kd.N_typed HO_9.out) (by decide)) (fun k_ hk => ⟨⟨hk.1.1, hk.1.2⟩, hk.2⟩))))); (case aB => exact (by repeat (first | (with_reducible first | exact HB.out | apply below_alloc | apply pw_below_drewN | apply below_drew1) | exact HB.out))); (case aF => exact (fun k_ hk => ⟨(Nat.le_trans (below_size (by repeat (first | (with_reducible first | exact HB.out | apply below_alloc | apply pw_below_drewN | apply below_drew1) | exact HB.out))) hk), Kd.fresh' (Kd.R_lt (by (with_reducible repeat (first | apply Kd.R_alloc | apply Kd.R_drewN | apply Kd.R_drew)); exact HO_7.out)) k_ hk⟩)); (case aO => exact (by (with_reducible repeat (first | apply Kd.N_alloc | apply Kd.N_drewN | apply Kd.N_drew)); exact Kd.N_mono HO_9.out (fun _ hk => ⟨hk.1, hk.2.1⟩))); (case aS => exact (below_size (by repeat (first | (with_reducible first | exact HB.out | apply below_alloc | apply pw_below_drewN | apply below_drew1) | exact HB.out)))); (case aL => have := LMc55.out; omega); intro v374 w59 ho hb hg hat; rw [← Ny373.out] at ho; have n0_ := Aside0.mk (Kd.R_over' (by (with_reducible repeat (first | apply Kd.R_alloc | apply Kd.R_drewN | apply Kd.R_drew)); exact HO_7.out) (Kd.N_typed (by (with_reducible repeat (first | apply Kd.N_alloc | apply Kd.N_drewN | apply Kd.N_drew)); exact HO_9.out)) (by decide) hg); have n1_ := Aside0.mk (hb); have n2_ := Aside0.mk (ho); clear HO_7; clear HB; clear HO_9; clear HO_10; have HO_7 := n0_; have HB := n1_; have HO375 := n2_; clear n0_ n1_ n2_; clear ho hb hg hat; obtain ⟨Ao60, co60, eo60⟩ := Kd.N_slice HO375.out; subst eo60) | ((with_reducible refine gate_callee (f := 41) rfl ?_); refine goesL_ (some 89) rfl rfl Try.func41 (by kernel_rfl) rfl #[.slice Ao60 y373.length co60] rfl (by (try simp only [List.map_toArray, List.map_cons, List.map_nil]); first | done | rfl | (simp only [List.length_drop, List.length_take]; rfl)) ?_; (with_reducible refine (barscanref50_lists.calls k2 (fun k_ => ((w.heap.size ≤ k_) ∧ some k_ ≠ (.slice Ao57 x7_1.length co57 : Value).ownBlock)) _ _ y373 t376 _ ?side1 A56.out).mono ?_); (case side1 => exact Kd.N_V (HO375.out)); rintro e w61 ⟨v377, rfl, ho0, hb⟩; refine ⟨_, rfl, ?_⟩; have n0_ := Aside0.mk (Kd.R_below (by (with_reducible repeat (first | apply Kd.R_alloc | apply Kd.R_drewN | apply Kd.R_drew)); exact HO_7.out) hb); have n1_ := Aside0.mk (Kd.N_elder' (by (with_reducible repeat (first | apply Kd.N_alloc | apply Kd.N_drewN | apply Kd.N_drew)); exact HO375.out) (Kd.N_base ho0) hb); have n2_ := Aside0.mk (Kd.N_lower (Kd.N_mono (ok' := fun k_ => (w.heap.size ≤ k_) ∧ some k_ ≠ (.slice Ao57 x7_1.length co57 : Value).ownBlock) ho0 (fun k_ hk_ => ⟨Or.elim hk_ (fun hs_ => hs_.1) (fun hn_ => (Nat.le_trans (below_size (by repeat (first | (with_reducible first | exact HB.out | apply below_alloc | apply pw_below_drewN | apply below_drew1) | exact HB.out))) hn_)), Or.elim hk_ (fun hs_ => hs_.2) (fun hn_ => (Kd.fresh' (Kd.R_lt (by (with_reducible repeat (first | apply Kd.R_alloc | apply Kd.R_drewN | apply Kd.R_drew)); exact HO_7.out)) k_ hn_))⟩)) (below_size (by repeat (first | (with_reducible first | exact HB.out | apply below_alloc | apply pw_below_drewN | apply below_drew1) | exact HB.out)))); have n3_ := Aside0.mk (below_step (by repeat (first | (with_reducible first | exact HB.out | apply below_alloc | apply pw_below_drewN | apply below_drew1) | exact HB.out)) hb); clear HO_7; clear HO375; clear HB; have HO_7 := n0_; have HO375 := n1_; have HO378 := n2_; have HB := n3_; clear n0_ n1_ n2_ n3_; (try clear hb); (try clear hb2); (try clear hk); (try clear hi); (try clear ho0)))
                    go_ret2
                    exact ⟨_, by first | rfl | (simp [errW_none, errW_some] <;> rfl) | (simp [*, errW_none, errW_some] <;> rfl), by (with_reducible repeat (first | apply Kd.N_alloc | apply Kd.N_drewN | apply Kd.N_drew)); exact Kd.N_mono HO378.out (fun _ hk => hk.1), by repeat (first | (with_reducible first | exact HB.out | apply below_alloc | apply pw_below_drewN | apply below_drew1) | exact HB.out)⟩
                  · rw [if_neg c55] at H
                    exact absurd H (by simp)
                · rw [if_neg c54] at H
                  have c54b0 : decide (0 < (x10_2.length : Int)) = false := decide_eq_false c54
                  have c54b1 : decide (0 < x10_2.length) = false := decide_eq_false (by omega)
                  clear c54
                  replace H := Option.bind_eq_some_iff.mp H
                  obtain ⟨t379, A620, H⟩ := H
                  replace H : (some (t379, 0)) = some (r1, r2) := H
                  have A62 := Aside0.mk A620
                  clear A620
                  simp only [Option.some.injEq, Prod.mk.injEq] at H
                  obtain ⟨rfl, rfl⟩ := H
                  obtain ⟨Ao63, co63, eo63⟩ := Kd.R_slice HO_7.out
                  subst eo63
                  obtain ⟨Ao64, co64, eo64⟩ := Kd.R_slice HO_10.out
                  subst eo64
                  obtain ⟨Ao65, co65, eo65⟩ := Kd.N_slice HO_9.out
                  subst eo65
                  go_wp2_with (first | ((with_reducible refine gate_callee (f := 41) rfl ?_); refine goesL_ (some 89) rfl rfl Try.func41 (by kernel_rfl) rfl #[.slice Ao65 x9_2.length co65] rfl (by (try simp only [List.map_toArray, List.map_cons, List.map_nil]); first | done | rfl | (simp only [List.length_drop, List.length_take]; rfl)) ?_; (with_reducible refine (barscanref50_lists.calls k2 (fun k_ => ((w.heap.size ≤ k_) ∧ (some k_ ≠ (.slice Ao63 x7_1.length co63 : Value).ownBlock ∧ some k_ ≠ (.slice Ao64 x10_2.length co64 : Value).ownBlock))) _ _ x9_2 t379 _ ?side1 A62.out).mono ?_); (case side1 => exact Kd.N_V (HO_9.out)); rintro e w66 ⟨v380, rfl, ho0, hb⟩; refine ⟨_, rfl, ?_⟩; have n0_ := Aside0.mk (Kd.R_below (by (with_reducible repeat (first | apply Kd.R_alloc | apply Kd.R_drewN | apply Kd.R_drew)); exact HO_7.out) hb); have n1_ := Aside0.mk (Kd.N_elder' (by (with_reducible repeat (first | apply Kd.N_alloc | apply Kd.N_drewN | apply Kd.N_drew)); exact HO_9.out) (Kd.N_base ho0) hb); have n2_ := Aside0.mk (Kd.R_below (by (with_reducible repeat (first | apply Kd.R_alloc | apply Kd.R_drewN | apply Kd.R_drew)); exact HO_10.out) hb); have n3_ := Aside0.mk (Kd.N_lower (Kd.N_mono (ok' := fun k_ => (w.heap.size ≤ k_) ∧ some k_ ≠ (.slice Ao63 x7_1.length co63 : Value).ownBlock ∧ some k_ ≠ (.slice Ao64 x10_2.length co64 : Value).ownBlock) ho0 (fun k_ hk_ => ⟨Or.elim hk_ (fun hs_ => hs_.1) (fun hn_ => (Nat.le_trans (below_size (by repeat (first | (with_reducible first | exact HB.out | apply below_alloc | apply pw_below_drewN | apply below_drew1) | exact HB.out))) hn_)), Or.elim hk_ (fun hs_ => hs_.2.1) (fun hn_ => (Kd.fresh' (Kd.R_lt (by (with_reducible repeat (first | apply Kd.R_alloc | apply Kd.R_drewN | apply Kd.R_drew)); exact HO_7.out)) k_ hn_)), Or.elim hk_ (fun hs_ => hs_.2.2) (fun hn_ => (Kd.fresh' (Kd.R_lt (by (with_reducible repeat (first | apply Kd.R_alloc | apply Kd.R_drewN | apply Kd.R_drew)); exact HO_10.out)) k_ hn_))⟩)) (below_size (by repeat (first | (with_reducible first | exact HB.out | apply below_alloc | apply pw_below_drewN | apply below_drew1) | exact HB.out)))); have n4_ := Aside0.mk (below_step (by repeat (first | (with_reducible first | exact HB.out | apply below_alloc | apply pw_below_drewN | apply below_drew1) | exact HB.out)) hb); clear HO_7; clear HO_9; clear HO_10; clear HB; have HO_7 := n0_; have HO_9 := n1_; have HO_10 := n2_; have HO381 := n3_; have HB := n4_; clear n0_ n1_ n2_ n3_ n4_; (try clear hb); (try clear hb2); (try clear hk); (try clear hi); (try clear ho0)))
                  go_ret2
                  exact ⟨_, by first | rfl | (simp [errW_none, errW_some] <;> rfl) | (simp [*, errW_none, errW_some] <;> rfl), by (with_reducible repeat (first | apply Kd.N_alloc | apply Kd.N_drewN | apply Kd.N_drew)); exact Kd.N_mono HO381.out (fun _ hk => hk.1), by repeat (first | (with_reducible first | exact HB.out | apply below_alloc | apply pw_below_drewN | apply below_drew1) | exact HB.out)⟩
  · rw [if_neg c4] at H
    have c4b0 : (t369 == 0) = false := beq_eq_false_iff_ne.mpr c4
    have c4b1 : (t369 != 0) = true := bne_iff_ne.mpr c4
    simp only [Option.some.injEq, Prod.mk.injEq] at H
    obtain ⟨rfl, rfl⟩ := H
    go_enter Try.func20, Try.ntmps20
    go_wp2_with (first | ((with_reducible refine gate_callee (f := 37) rfl ?_); refine goesL_ (some 16) rfl rfl Try.func37 (by kernel_rfl) rfl #[.slice A0 l0.length c0, .int .i64 a1] rfl (by (try simp only [List.map_toArray, List.map_cons, List.map_nil]); first | done | rfl | (simp only [List.length_drop, List.length_take]; rfl)) ?_; (with_reducible refine (barscanref50_check.calls k _ _ l0 a1 t369 _ ?side1 ?side2 A3.out).mono ?_); (case side1 => repeat (first | exact HR0.out | (with_reducible refine Kd.C_alloc ?_ _) | (with_reducible refine Kd.C_drewN ?_ _) | (with_reducible refine Kd.C_drew ?_))); (case side2 => exact HC0.out); rintro e w67 ⟨rfl, hb⟩; refine ⟨_, rfl, ?_⟩; have n0_ := Aside0.mk (below_step (by repeat (first | (with_reducible first | exact HB.out | apply below_alloc | apply pw_below_drewN | apply below_drew1) | exact HB.out)) hb); clear HB; have HB := n0_; clear n0_; (try clear hb); (try clear hb2); (try clear hk); (try clear hi)))
    go_ret2
    exact ⟨_, by first | rfl | (simp [errW_none, errW_some] <;> rfl) | (simp [*, errW_none, errW_some] <;> rfl), by first | exact Kd.S_nil _ _ _ _ _ | exact Kd.N_nil _ _ _ _ _ | exact Kd.V_nil _ _ _ _ _ | exact Kd.Q_nil _ _ _ _ _ | exact Kd.R_nil _ _ _ _ _, by repeat (first | (with_reducible first | exact HB.out | apply below_alloc | apply pw_below_drewN | apply below_drew1) | exact HB.out)⟩

end Go.Proofs.Ytdkiembkigadkaa.M
