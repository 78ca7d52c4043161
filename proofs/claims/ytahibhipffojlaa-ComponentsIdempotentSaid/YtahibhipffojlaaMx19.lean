-- Machine side, printed by this session's own program over the kit's print (wip/tools/myprint.py). Lean checks it.
import Derived.Test.YtahibhipffojlaaMx0
namespace Go.Proofs.Ytahibhipffojlaa.M
open Go.RowKit Go.Proofs.YtahibhipffojlaaW.PrintWords Go.Proofs.YtahibhipffojlaaW.PrintLast Go.Proofs.YtahibhipffojlaaW.PrintMore
attribute [local go_sem] max2_int min2_int max_two min_two max_three min_three max_four min_four   -- for this text's walks alone
set_option linter.unusedVariables false
set_option linter.unusedSimpArgs false

/-! ### barscanlaw38_inside: function 27 -/
mutual
def barscanlaw38_inside.j0 : Nat → Bool → Int → Int → List Bool → Int → Int → List Bool → Option (Bool)
  | 0, _, _, _, _, _, _, _ => none
  | k + 1, x26, x538000, x538001, x538002, x539000, x539001, x539002 => if x26 = true then (some false) else (barscanlaw38_inside.l0 k 0 x538000 x538001 x538002 x539000 x539001 x539002)
def barscanlaw38_inside.l0 : Nat → Int → Int → Int → List Bool → Int → Int → List Bool → Option (Bool)
  | 0, _, _, _, _, _, _, _ => none
  | k + 1, x5, x538000, x538001, x538002, x539000, x539001, x539002 => if x5 < (x538002.length : Int) then (if 0 ≤ x5 then (if rdOf false x538002 x5 = true then (if x5 < (x539002.length : Int) then (if rdOf false x539002 x5 = true then (barscanlaw38_inside.l0 k (wrap64 (x5 + 1)) x538000 x538001 x538002 x539000 x539001 x539002) else (some false)) else (none)) else (barscanlaw38_inside.l0 k (wrap64 (x5 + 1)) x538000 x538001 x538002 x539000 x539001 x539002)) else (none)) else (some true)
end
def barscanlaw38_inside.f (k : Nat) (a0_0 : Int) (a0_1 : Int) (l0_2 : List Bool) (a1_0 : Int) (a1_1 : Int) (l1_2 : List Bool) : Option (Bool) := if a0_0 = a1_0 then (if a0_1 = a1_1 then (barscanlaw38_inside.j0 k ((l0_2.length : Int) != (l1_2.length : Int)) a0_0 a0_1 l0_2 a1_0 a1_1 l1_2) else (barscanlaw38_inside.j0 k true a0_0 a0_1 l0_2 a1_0 a1_1 l1_2)) else (barscanlaw38_inside.j0 k true a0_0 a0_1 l0_2 a1_0 a1_1 l1_2)
theorem barscanlaw38_inside.mono_l : ∀ k, (∀ y0 y1 y2 y3 y4 y5 y6, LeO (barscanlaw38_inside.j0 k y0 y1 y2 y3 y4 y5 y6) (barscanlaw38_inside.j0 (k + 1) y0 y1 y2 y3 y4 y5 y6)) ∧ (∀ y0 y1 y2 y3 y4 y5 y6, LeO (barscanlaw38_inside.l0 k y0 y1 y2 y3 y4 y5 y6) (barscanlaw38_inside.l0 (k + 1) y0 y1 y2 y3 y4 y5 y6))
  | 0 => ⟨fun _ _ _ _ _ _ _ r h => by simp [barscanlaw38_inside.j0] at h, fun _ _ _ _ _ _ _ r h => by simp [barscanlaw38_inside.l0] at h⟩
  | k + 1 => by
    obtain ⟨ih0, ih1⟩ := barscanlaw38_inside.mono_l k
    refine ⟨?_, ?_⟩
    · intro y0 y1 y2 y3 y4 y5 y6
      unfold barscanlaw38_inside.j0
      repeat' first
      | (with_reducible exact ih1 _ _ _ _ _ _ _)
      | (with_reducible exact LeO.refl _)
      | (with_reducible refine LeO.ite ?_ ?_)
    · intro y0 y1 y2 y3 y4 y5 y6
      unfold barscanlaw38_inside.l0
      repeat' first
      | (with_reducible exact ih1 _ _ _ _ _ _ _)
      | (with_reducible exact LeO.refl _)
      | (with_reducible refine LeO.ite ?_ ?_)
theorem barscanlaw38_inside.mono : ∀ a0 a1 a2 a3 a4 a5 k, LeO (barscanlaw38_inside.f k a0 a1 a2 a3 a4 a5) (barscanlaw38_inside.f (k + 1) a0 a1 a2 a3 a4 a5) := by
  intro a0 a1 a2 a3 a4 a5 k
  obtain ⟨ih0, ih1⟩ := barscanlaw38_inside.mono_l k
  unfold barscanlaw38_inside.f
  repeat' first
      | (with_reducible exact ih0 _ _ _ _ _ _ _)
      | (with_reducible refine LeO.ite ?_ ?_)
set_option maxHeartbeats 8000000 in
set_option maxRecDepth 100000 in
theorem barscanlaw38_inside.calls (k : Nat) (a0_0 : Int) (a0_1 : Int) (A0_2 : Option Addr) (c0_2 : Nat) (l0_2 : List Bool) (a1_0 : Int) (a1_1 : Int) (A1_2 : Option Addr) (c1_2 : Nat) (l1_2 : List Bool) (r : Bool) (w : World) (hr0_2 : Kd.C Kd.bool w A0_2 l0_2.length l0_2) (hc0_2 : l0_2.length ≤ c0_2) (hr1_2 : Kd.C Kd.bool w A1_2 l1_2.length l1_2) (hc1_2 : l1_2.length ≤ c1_2) (h : barscanlaw38_inside.f k a0_0 a0_1 l0_2 a1_0 a1_1 l1_2 = some r) :
    Calls Try.prog 27 #[.agg #[.int .i64 a0_0, .int .i64 a0_1, .slice A0_2 l0_2.length c0_2], .agg #[.int .i64 a1_0, .int .i64 a1_1, .slice A1_2 l1_2.length c1_2]] w fun e w' => e = .returned (.bool r) ∧ Below w.heap.size w w' := by
  have hu24 := Try.underlying24
  have HR0_2 := Aside0.mk hr0_2
  have HC0_2 := Aside0.mk hc0_2
  clear hr0_2 hc0_2
  have HR1_2 := Aside0.mk hr1_2
  have HC1_2 := Aside0.mk hc1_2
  clear hr1_2 hc1_2
  have HB := Aside0.mk (Below.refl w.heap.size w)
  have H : (if a0_0 = a1_0 then (if a0_1 = a1_1 then (barscanlaw38_inside.j0 k ((l0_2.length : Int) != (l1_2.length : Int)) a0_0 a0_1 l0_2 a1_0 a1_1 l1_2) else (barscanlaw38_inside.j0 k true a0_0 a0_1 l0_2 a1_0 a1_1 l1_2)) else (barscanlaw38_inside.j0 k true a0_0 a0_1 l0_2 a1_0 a1_1 l1_2)) = some r := h
  clear h
  have HC3 := Aside0.mk H
  clear H
  go_enter Try.func27, Try.ntmps27
  go_upto_region 1 with (first | ((with_reducible refine gate_dst (N := 2) rfl ?_); (try (refine gate_guard (by rfl) ?_; dsimp only)); refine box_event ?hg (N := 2) ?hd (cs := #[.int .i64 a0_0, .int .i64 a0_1, .slice A0_2 l0_2.length c0_2]) (t := 24) ?hr ?_; (case hd => rfl); (case hg => rfl); (case hr => (go_simp; done)); intro gb537 hg w4 hbox hb; have n0_ := Aside0.mk (below_step (by repeat ((with_reducible exact HB.out))) hb); have n1_ := Aside0.mk (hbox); have n2_ := Aside0.mk ((by rw [hg]; exact (below_size (by repeat ((with_reducible exact HB.out)))) : w.heap.size ≤ gb537)); have n3_ := Aside0.mk ((by rw [hg]; exact (below_size (by repeat ((with_reducible exact HB.out)))) : w.heap.size ≤ gb537)); clear HB; have HB := n0_; have BK537 := n1_; have GW537 := n2_; have GE537 := n3_; clear n0_ n1_ n2_ n3_; clear hb hbox hg) | ((with_reducible refine gate_dst (N := 3) rfl ?_); (try (refine gate_guard (by rfl) ?_; dsimp only)); refine box_event ?hg (N := 3) ?hd (cs := #[.int .i64 a1_0, .int .i64 a1_1, .slice A1_2 l1_2.length c1_2]) (t := 24) ?hr ?_; (case hd => rfl); (case hg => rfl); (case hr => (go_simp; done)); intro gb538 hg w5 hbox hb; have n0_ := Aside0.mk (blk_below (g := gb537) (o := .cells #[.int .i64 a0_0, .int .i64 a0_1, .slice A0_2 l0_2.length c0_2] 24 (0, 0)) (by (with_reducible repeat (fail)); exact BK537.out) hb); have n1_ := Aside0.mk (below_step (by repeat ((with_reducible exact HB.out))) hb); have n2_ := Aside0.mk (hbox); have n3_ := Aside0.mk ((by rw [hg]; exact (below_size (by repeat ((with_reducible exact HB.out)))) : w.heap.size ≤ gb538)); have n4_ := Aside0.mk ((by rw [hg]; exact (below_size (by repeat ((with_reducible exact HB.out)))) : w.heap.size ≤ gb538)); have n5_ := Aside0.mk ((by rw [hg]; exact Nat.ne_of_lt (blk_lt (g := gb537) (o := .cells #[.int .i64 a0_0, .int .i64 a0_1, .slice A0_2 l0_2.length c0_2] 24 (0, 0)) (by (with_reducible repeat (fail)); exact BK537.out)) : gb537 ≠ gb538)); have n6_ := Aside0.mk ((by rw [hg]; exact Nat.ne_of_gt (blk_lt (g := gb537) (o := .cells #[.int .i64 a0_0, .int .i64 a0_1, .slice A0_2 l0_2.length c0_2] 24 (0, 0)) (by (with_reducible repeat (fail)); exact BK537.out)) : gb538 ≠ gb537)); clear BK537; clear HB; have BK537 := n0_; have HB := n1_; have BK538 := n2_; have GW538 := n3_; have GE538 := n4_; have NB537_538 := n5_; have NB538_537 := n6_; clear n0_ n1_ n2_ n3_ n4_ n5_ n6_; clear hb hbox hg))
  (try simp only [Act.put, List.setIfInBounds_toArray, List.set_cons_zero, List.set_cons_succ])
  go_cut [26] (fun v26 wc => ∃ (kq : Nat) (x26_2 : Bool), v26 = .bool x26_2 ∧ Aside0 (barscanlaw38_inside.j0 kq x26_2 a0_0 a0_1 l0_2 a1_0 a1_1 l1_2 = some r) ∧ Aside0 (kq ≤ k) ∧ Aside0 (wc.heap[gb537]? = some (.cells #[.int .i64 a0_0, .int .i64 a0_1, (.slice A0_2 l0_2.length c0_2)] 24 (0, 0))) ∧ Aside0 (wc.heap[gb538]? = some (.cells #[.int .i64 a1_0, .int .i64 a1_1, (.slice A1_2 l1_2.length c1_2)] 24 (0, 0))) ∧ Aside0 (Below w.heap.size w wc))
  case first =>
    have H := HC3.out
    clear HC3
    by_cases c6 : a0_0 = a1_0
    · rw [if_pos c6] at H
      have c6b0 : (a0_0 == a1_0) = true := beq_iff_eq.mpr c6
      have c6b1 : (a0_0 != a1_0) = false := bne_eq_false_iff_eq.mpr c6
      clear c6
      (skip)
      by_cases c7 : a0_1 = a1_1
      · rw [if_pos c7] at H
        have c7b0 : (a0_1 == a1_1) = true := beq_iff_eq.mpr c7
        have c7b1 : (a0_1 != a1_1) = false := bne_eq_false_iff_eq.mpr c7
        clear c7
        have H' := Aside0.mk H
        clear H
        have hnb8 := NB537_538.out
        have hnc8 := NB538_537.out
        have hcz9_0 : w5.cell? ⟨gb537, 0, none⟩ = some (.int .i64 a0_0) := (blk_cell BK537.out 0).trans rfl
        have hcz9_1 : w5.cell? ⟨gb537, 1, none⟩ = some (.int .i64 a0_1) := (blk_cell BK537.out 1).trans rfl
        have hcz9_2 : w5.cell? ⟨gb537, 2, none⟩ = some (.slice A0_2 l0_2.length c0_2) := (blk_cell BK537.out 2).trans rfl
        have hfz9_0 := blk_frozen BK537.out 0
        have hfz9_1 := blk_frozen BK537.out 1
        have hfz9_2 := blk_frozen BK537.out 2
        have hcz10_0 : w5.cell? ⟨gb538, 0, none⟩ = some (.int .i64 a1_0) := (blk_cell BK538.out 0).trans rfl
        have hcz10_1 : w5.cell? ⟨gb538, 1, none⟩ = some (.int .i64 a1_1) := (blk_cell BK538.out 1).trans rfl
        have hcz10_2 : w5.cell? ⟨gb538, 2, none⟩ = some (.slice A1_2 l1_2.length c1_2) := (blk_cell BK538.out 2).trans rfl
        have hfz10_0 := blk_frozen BK538.out 0
        have hfz10_1 := blk_frozen BK538.out 1
        have hfz10_2 := blk_frozen BK538.out 2
        go_wp2
        go_meet
        case rel => exact ⟨_, (((l0_2.length : Int) != (l1_2.length : Int))), (by rfl), H', ⟨by omega⟩, ⟨by (with_reducible repeat (fail)); exact BK537.out⟩, ⟨by (with_reducible repeat (fail)); exact BK538.out⟩, ⟨by repeat ((with_reducible exact HB.out))⟩⟩
      · rw [if_neg c7] at H
        have c7b0 : (a0_1 == a1_1) = false := beq_eq_false_iff_ne.mpr c7
        have c7b1 : (a0_1 != a1_1) = true := bne_iff_ne.mpr c7
        have H' := Aside0.mk H
        clear H
        have hnb11 := NB537_538.out
        have hnc11 := NB538_537.out
        have hcz12_0 : w5.cell? ⟨gb537, 0, none⟩ = some (.int .i64 a0_0) := (blk_cell BK537.out 0).trans rfl
        have hcz12_1 : w5.cell? ⟨gb537, 1, none⟩ = some (.int .i64 a0_1) := (blk_cell BK537.out 1).trans rfl
        have hcz12_2 : w5.cell? ⟨gb537, 2, none⟩ = some (.slice A0_2 l0_2.length c0_2) := (blk_cell BK537.out 2).trans rfl
        have hfz12_0 := blk_frozen BK537.out 0
        have hfz12_1 := blk_frozen BK537.out 1
        have hfz12_2 := blk_frozen BK537.out 2
        have hcz13_0 : w5.cell? ⟨gb538, 0, none⟩ = some (.int .i64 a1_0) := (blk_cell BK538.out 0).trans rfl
        have hcz13_1 : w5.cell? ⟨gb538, 1, none⟩ = some (.int .i64 a1_1) := (blk_cell BK538.out 1).trans rfl
        have hcz13_2 : w5.cell? ⟨gb538, 2, none⟩ = some (.slice A1_2 l1_2.length c1_2) := (blk_cell BK538.out 2).trans rfl
        have hfz13_0 := blk_frozen BK538.out 0
        have hfz13_1 := blk_frozen BK538.out 1
        have hfz13_2 := blk_frozen BK538.out 2
        go_wp2
        go_meet
        case rel => exact ⟨_, (true), (by rfl), H', ⟨by omega⟩, ⟨by (with_reducible repeat (fail)); exact BK537.out⟩, ⟨by (with_reducible repeat (fail)); exact BK538.out⟩, ⟨by repeat ((with_reducible exact HB.out))⟩⟩
    · rw [if_neg c6] at H
      have c6b0 : (a0_0 == a1_0) = false := beq_eq_false_iff_ne.mpr c6
      have c6b1 : (a0_0 != a1_0) = true := bne_iff_ne.mpr c6
      (skip)
      have H' := Aside0.mk H
      clear H
      have hnb14 := NB537_538.out
      have hnc14 := NB538_537.out
      have hcz15_0 : w5.cell? ⟨gb537, 0, none⟩ = some (.int .i64 a0_0) := (blk_cell BK537.out 0).trans rfl
      have hcz15_1 : w5.cell? ⟨gb537, 1, none⟩ = some (.int .i64 a0_1) := (blk_cell BK537.out 1).trans rfl
      have hcz15_2 : w5.cell? ⟨gb537, 2, none⟩ = some (.slice A0_2 l0_2.length c0_2) := (blk_cell BK537.out 2).trans rfl
      have hfz15_0 := blk_frozen BK537.out 0
      have hfz15_1 := blk_frozen BK537.out 1
      have hfz15_2 := blk_frozen BK537.out 2
      have hcz16_0 : w5.cell? ⟨gb538, 0, none⟩ = some (.int .i64 a1_0) := (blk_cell BK538.out 0).trans rfl
      have hcz16_1 : w5.cell? ⟨gb538, 1, none⟩ = some (.int .i64 a1_1) := (blk_cell BK538.out 1).trans rfl
      have hcz16_2 : w5.cell? ⟨gb538, 2, none⟩ = some (.slice A1_2 l1_2.length c1_2) := (blk_cell BK538.out 2).trans rfl
      have hfz16_0 := blk_frozen BK538.out 0
      have hfz16_1 := blk_frozen BK538.out 1
      have hfz16_2 := blk_frozen BK538.out 2
      go_wp2
      go_meet
      case rel => exact ⟨_, (true), (by rfl), H', ⟨by omega⟩, ⟨by (with_reducible repeat (fail)); exact BK537.out⟩, ⟨by (with_reducible repeat (fail)); exact BK538.out⟩, ⟨by repeat ((with_reducible exact HB.out))⟩⟩
  case rest =>
    clear HC3
    obtain ⟨kq, x26_2, rfl, HA, HJ2, BK537, BK538, HB⟩ := hcut
    cases kq with
    | zero => exact absurd HA.out (by simp [barscanlaw38_inside.j0])
    | succ kj2 =>
      have H := HA.out
      clear HA
      simp only [barscanlaw38_inside.j0] at H
      by_cases c17 : x26_2 = true
      · subst c17
        have H1 : (some false) = some r := by rw [if_pos rfl] at H; exact H
        clear H
        have H := H1
        clear H1
        obtain rfl := Option.some.inj H
        go_wp2
        go_ret
        exact ⟨by rfl, by repeat ((with_reducible exact HB.out))⟩
      · replace c17 := Bool.eq_false_iff.mpr c17
        subst c17
        have H1 : (barscanlaw38_inside.l0 kj2 0 a0_0 a0_1 l0_2 a1_0 a1_1 l1_2) = some r := by rw [if_neg (show ¬ (false = true) by decide)] at H; exact H
        clear H
        have H := H1
        clear H1
        have H' := Aside0.mk H
        clear H
        go_wp2
        go_loopg [5] kj2 (fun kq v5 w' => ∃ (x5_2 : Int), v5 = .int .i64 x5_2 ∧ Aside0 (barscanlaw38_inside.l0 kq x5_2 a0_0 a0_1 l0_2 a1_0 a1_1 l1_2 = some r) ∧ Aside0 (kq ≤ kj2) ∧ Aside0 (w'.heap[gb537]? = some (.cells #[.int .i64 a0_0, .int .i64 a0_1, (.slice A0_2 l0_2.length c0_2)] 24 (0, 0))) ∧ Aside0 (w'.heap[gb538]? = some (.cells #[.int .i64 a1_0, .int .i64 a1_1, (.slice A1_2 l1_2.length c1_2)] 24 (0, 0))) ∧ Aside0 (Below w.heap.size w w'))
        case atStart => exact ⟨(0), (by rfl), H', ⟨Nat.le_refl _⟩, ⟨by (with_reducible repeat (fail)); exact BK537.out⟩, ⟨by (with_reducible repeat (fail)); exact BK538.out⟩, ⟨by repeat ((with_reducible exact HB.out))⟩⟩
        case round =>
          clear H'
          obtain ⟨x5_2, rfl, HA, HK2, BK537, BK538, HB⟩ := hrel
          cases gk with
          | zero => exact absurd HA.out (by simp [barscanlaw38_inside.l0])
          | succ k2 =>
            have H := HA.out
            clear HA
            simp only [barscanlaw38_inside.l0] at H
            by_cases c18 : x5_2 < (l0_2.length : Int)
            · rw [if_pos c18] at H
              have c18b0 : decide (x5_2 < (l0_2.length : Int)) = true := decide_eq_true c18
              clear c18
              by_cases c19 : 0 ≤ x5_2
              · rw [if_pos c19] at H
                have c19b0 : decide (0 ≤ x5_2) = true := decide_eq_true c19
                clear c19
                obtain ⟨bq20, hbq20⟩ : ∃ b_ : Bool, b_ = (rdOf false l0_2 x5_2) := ⟨_, rfl⟩
                replace H : (if bq20 = true then (if x5_2 < (l1_2.length : Int) then (if rdOf false l1_2 x5_2 = true then (barscanlaw38_inside.l0 k2 (wrap64 (x5_2 + 1)) a0_0 a0_1 l0_2 a1_0 a1_1 l1_2) else (some false)) else (none)) else (barscanlaw38_inside.l0 k2 (wrap64 (x5_2 + 1)) a0_0 a0_1 l0_2 a1_0 a1_1 l1_2)) = some r := by rw [← hbq20] at H; exact H
                have Nbq20 := Aside0.mk hbq20
                clear hbq20
                by_cases c21 : bq20 = true
                · subst c21
                  have H1 : (if x5_2 < (l1_2.length : Int) then (if rdOf false l1_2 x5_2 = true then (barscanlaw38_inside.l0 k2 (wrap64 (x5_2 + 1)) a0_0 a0_1 l0_2 a1_0 a1_1 l1_2) else (some false)) else (none)) = some r := by rw [if_pos rfl] at H; exact H
                  clear H
                  have H := H1
                  clear H1
                  by_cases c22 : x5_2 < (l1_2.length : Int)
                  · rw [if_pos c22] at H
                    have c22b0 : decide (x5_2 < (l1_2.length : Int)) = true := decide_eq_true c22
                    clear c22
                    obtain ⟨bq23, hbq23⟩ : ∃ b_ : Bool, b_ = (rdOf false l1_2 x5_2) := ⟨_, rfl⟩
                    replace H : (if bq23 = true then (barscanlaw38_inside.l0 k2 (wrap64 (x5_2 + 1)) a0_0 a0_1 l0_2 a1_0 a1_1 l1_2) else (some false)) = some r := by rw [← hbq23] at H; exact H
                    have Nbq23 := Aside0.mk hbq23
                    clear hbq23
                    by_cases c24 : bq23 = true
                    · subst c24
                      have H1 : (barscanlaw38_inside.l0 k2 (wrap64 (x5_2 + 1)) a0_0 a0_1 l0_2 a1_0 a1_1 l1_2) = some r := by rw [if_pos rfl] at H; exact H
                      clear H
                      have H := H1
                      clear H1
                      have H' := Aside0.mk H
                      clear H
                      have hnb25 := NB537_538.out
                      have hnc25 := NB538_537.out
                      have hcz26_0 : wr.cell? ⟨gb537, 0, none⟩ = some (.int .i64 a0_0) := (blk_cell BK537.out 0).trans rfl
                      have hcz26_1 : wr.cell? ⟨gb537, 1, none⟩ = some (.int .i64 a0_1) := (blk_cell BK537.out 1).trans rfl
                      have hcz26_2 : wr.cell? ⟨gb537, 2, none⟩ = some (.slice A0_2 l0_2.length c0_2) := (blk_cell BK537.out 2).trans rfl
                      have hfz26_0 := blk_frozen BK537.out 0
                      have hfz26_1 := blk_frozen BK537.out 1
                      have hfz26_2 := blk_frozen BK537.out 2
                      have p539 : 0 ≤ (x5_2 : Int) := of_decide_eq_true (by (with_reducible assumption))
                      have q539 : x5_2 < (l0_2.length : Int) := of_decide_eq_true (by (with_reducible assumption))
                      obtain ⟨ad539, e539, hx539_0⟩ := Kd.at_bool HR0_2.out x5_2 p539 q539
                      (try rw [← Nbq20.out] at hx539_0)
                      (try rw [← Nbq23.out] at hx539_0)
                      cases e539
                      replace hx539_0 := (HB.out.cell (World.block_lt_of_cell? w _ hx539_0)).trans hx539_0
                      replace p539 := eq_true p539
                      replace q539 := eq_true q539
                      have hcz27_0 : wr.cell? ⟨gb538, 0, none⟩ = some (.int .i64 a1_0) := (blk_cell BK538.out 0).trans rfl
                      have hcz27_1 : wr.cell? ⟨gb538, 1, none⟩ = some (.int .i64 a1_1) := (blk_cell BK538.out 1).trans rfl
                      have hcz27_2 : wr.cell? ⟨gb538, 2, none⟩ = some (.slice A1_2 l1_2.length c1_2) := (blk_cell BK538.out 2).trans rfl
                      have hfz27_0 := blk_frozen BK538.out 0
                      have hfz27_1 := blk_frozen BK538.out 1
                      have hfz27_2 := blk_frozen BK538.out 2
                      have p540 : 0 ≤ (x5_2 : Int) := of_decide_eq_true (by (with_reducible assumption))
                      have q540 : x5_2 < (l1_2.length : Int) := of_decide_eq_true (by (with_reducible assumption))
                      obtain ⟨ad540, e540, hx540_0⟩ := Kd.at_bool HR1_2.out x5_2 p540 q540
                      (try rw [← Nbq20.out] at hx540_0)
                      (try rw [← Nbq23.out] at hx540_0)
                      cases e540
                      replace hx540_0 := (HB.out.cell (World.block_lt_of_cell? w _ hx540_0)).trans hx540_0
                      replace p540 := eq_true p540
                      replace q540 := eq_true q540
                      go_wp2
                      go_roundg k2
                      case measure => have := HJ2.out; have := HK2.out; omega
                      case rel => exact ⟨(wrap64 (x5_2 + 1)), (by rfl), H', ⟨by have := HJ2.out; have := HK2.out; omega⟩, ⟨by (with_reducible repeat (fail)); exact BK537.out⟩, ⟨by (with_reducible repeat (fail)); exact BK538.out⟩, ⟨by repeat ((with_reducible exact HB.out))⟩⟩
                    · replace c24 := Bool.eq_false_iff.mpr c24
                      subst c24
                      have H1 : (some false) = some r := by rw [if_neg (show ¬ (false = true) by decide)] at H; exact H
                      clear H
                      have H := H1
                      clear H1
                      obtain rfl := Option.some.inj H
                      have hnb28 := NB537_538.out
                      have hnc28 := NB538_537.out
                      have hcz29_0 : wr.cell? ⟨gb537, 0, none⟩ = some (.int .i64 a0_0) := (blk_cell BK537.out 0).trans rfl
                      have hcz29_1 : wr.cell? ⟨gb537, 1, none⟩ = some (.int .i64 a0_1) := (blk_cell BK537.out 1).trans rfl
                      have hcz29_2 : wr.cell? ⟨gb537, 2, none⟩ = some (.slice A0_2 l0_2.length c0_2) := (blk_cell BK537.out 2).trans rfl
                      have hfz29_0 := blk_frozen BK537.out 0
                      have hfz29_1 := blk_frozen BK537.out 1
                      have hfz29_2 := blk_frozen BK537.out 2
                      have p539 : 0 ≤ (x5_2 : Int) := of_decide_eq_true (by (with_reducible assumption))
                      have q539 : x5_2 < (l0_2.length : Int) := of_decide_eq_true (by (with_reducible assumption))
                      obtain ⟨ad539, e539, hx539_0⟩ := Kd.at_bool HR0_2.out x5_2 p539 q539
                      (try rw [← Nbq20.out] at hx539_0)
                      (try rw [← Nbq23.out] at hx539_0)
                      cases e539
                      replace hx539_0 := (HB.out.cell (World.block_lt_of_cell? w _ hx539_0)).trans hx539_0
                      replace p539 := eq_true p539
                      replace q539 := eq_true q539
                      have hcz30_0 : wr.cell? ⟨gb538, 0, none⟩ = some (.int .i64 a1_0) := (blk_cell BK538.out 0).trans rfl
                      have hcz30_1 : wr.cell? ⟨gb538, 1, none⟩ = some (.int .i64 a1_1) := (blk_cell BK538.out 1).trans rfl
                      have hcz30_2 : wr.cell? ⟨gb538, 2, none⟩ = some (.slice A1_2 l1_2.length c1_2) := (blk_cell BK538.out 2).trans rfl
                      have hfz30_0 := blk_frozen BK538.out 0
                      have hfz30_1 := blk_frozen BK538.out 1
                      have hfz30_2 := blk_frozen BK538.out 2
                      have p540 : 0 ≤ (x5_2 : Int) := of_decide_eq_true (by (with_reducible assumption))
                      have q540 : x5_2 < (l1_2.length : Int) := of_decide_eq_true (by (with_reducible assumption))
                      obtain ⟨ad540, e540, hx540_0⟩ := Kd.at_bool HR1_2.out x5_2 p540 q540
                      (try rw [← Nbq20.out] at hx540_0)
                      (try rw [← Nbq23.out] at hx540_0)
                      cases e540
                      replace hx540_0 := (HB.out.cell (World.block_lt_of_cell? w _ hx540_0)).trans hx540_0
                      replace p540 := eq_true p540
                      replace q540 := eq_true q540
                      go_wp2
                      go_ret
                      exact ⟨by rfl, by repeat ((with_reducible exact HB.out))⟩
                  · rw [if_neg c22] at H
                    exact absurd H (by simp)
                · replace c21 := Bool.eq_false_iff.mpr c21
                  subst c21
                  have H1 : (barscanlaw38_inside.l0 k2 (wrap64 (x5_2 + 1)) a0_0 a0_1 l0_2 a1_0 a1_1 l1_2) = some r := by rw [if_neg (show ¬ (false = true) by decide)] at H; exact H
                  clear H
                  have H := H1
                  clear H1
                  have H' := Aside0.mk H
                  clear H
                  have hnb31 := NB537_538.out
                  have hnc31 := NB538_537.out
                  have hcz32_0 : wr.cell? ⟨gb537, 0, none⟩ = some (.int .i64 a0_0) := (blk_cell BK537.out 0).trans rfl
                  have hcz32_1 : wr.cell? ⟨gb537, 1, none⟩ = some (.int .i64 a0_1) := (blk_cell BK537.out 1).trans rfl
                  have hcz32_2 : wr.cell? ⟨gb537, 2, none⟩ = some (.slice A0_2 l0_2.length c0_2) := (blk_cell BK537.out 2).trans rfl
                  have hfz32_0 := blk_frozen BK537.out 0
                  have hfz32_1 := blk_frozen BK537.out 1
                  have hfz32_2 := blk_frozen BK537.out 2
                  have p539 : 0 ≤ (x5_2 : Int) := of_decide_eq_true (by (with_reducible assumption))
                  have q539 : x5_2 < (l0_2.length : Int) := of_decide_eq_true (by (with_reducible assumption))
                  obtain ⟨ad539, e539, hx539_0⟩ := Kd.at_bool HR0_2.out x5_2 p539 q539
                  (try rw [← Nbq20.out] at hx539_0)
                  cases e539
                  replace hx539_0 := (HB.out.cell (World.block_lt_of_cell? w _ hx539_0)).trans hx539_0
                  replace p539 := eq_true p539
                  replace q539 := eq_true q539
                  go_wp2
                  go_roundg k2
                  case measure => have := HJ2.out; have := HK2.out; omega
                  case rel => exact ⟨(wrap64 (x5_2 + 1)), (by rfl), H', ⟨by have := HJ2.out; have := HK2.out; omega⟩, ⟨by (with_reducible repeat (fail)); exact BK537.out⟩, ⟨by (with_reducible repeat (fail)); exact BK538.out⟩, ⟨by repeat ((with_reducible exact HB.out))⟩⟩
              · rw [if_neg c19] at H
                exact absurd H (by simp)
            · rw [if_neg c18] at H
              have c18b0 : decide (x5_2 < (l0_2.length : Int)) = false := decide_eq_false c18
              clear c18
              obtain rfl := Option.some.inj H
              have hnb33 := NB537_538.out
              have hnc33 := NB538_537.out
              have hcz34_0 : wr.cell? ⟨gb537, 0, none⟩ = some (.int .i64 a0_0) := (blk_cell BK537.out 0).trans rfl
              have hcz34_1 : wr.cell? ⟨gb537, 1, none⟩ = some (.int .i64 a0_1) := (blk_cell BK537.out 1).trans rfl
              have hcz34_2 : wr.cell? ⟨gb537, 2, none⟩ = some (.slice A0_2 l0_2.length c0_2) := (blk_cell BK537.out 2).trans rfl
              have hfz34_0 := blk_frozen BK537.out 0
              have hfz34_1 := blk_frozen BK537.out 1
              have hfz34_2 := blk_frozen BK537.out 2
              go_wp2
              go_ret
              exact ⟨by rfl, by repeat ((with_reducible exact HB.out))⟩

end Go.Proofs.Ytahibhipffojlaa.M
