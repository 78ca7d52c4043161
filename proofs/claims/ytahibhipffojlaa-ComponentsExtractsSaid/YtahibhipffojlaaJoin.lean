/- components.joined returns the blob that two parts make together. -/
import Derived.Test.YtahibhipffojlaaWalk
import Derived.Test.YtahibhipffojlaaMx0
import Derived.BigRegion

import Derived.Laws.ResultCell
set_option linter.unusedSimpArgs false
set_option linter.unusedVariables false
namespace Go.Proofs.Ytahibhipffojlaa.Join
open Go.RowKit Go.Proofs.YtahibhipffojlaaW.PrintLast Go.Proofs.YtahibhipffojlaaW.PrintWords Go.Proofs.YtahibhipffojlaaW.PrintMore Go.Proofs.Ytahibhipffojlaa.Walk Go.Proofs.Ytahibhipffojlaa.M

theorem max2_mx (k k' : IntKind) (x y : Int) : Builtin.max2 (.int k x) (.int k' y) = pure (.int k (mx x y)) := max2_int k k' x y
theorem min2_mn (k k' : IntKind) (x y : Int) : Builtin.min2 (.int k x) (.int k' y) = pure (.int k (mn x y)) := min2_int k k' x y
attribute [local go_sem high] max2_mx min2_mn max_two min_two
theorem mx_b {x y l u : Int} (h : l ≤ x ∧ x ≤ u) (k : l ≤ y ∧ y ≤ u) : l ≤ mx x y ∧ mx x y ≤ u := by unfold mx; split <;> omega
theorem mn_b {x y l u : Int} (h : l ≤ x ∧ x ≤ u) (k : l ≤ y ∧ y ≤ u) : l ≤ mn x y ∧ mn x y ≤ u := by unfold mn; split <;> omega

def bcells (b : S38) : Array Value := #[.int .i64 b.f0.f0, .int .i64 b.f0.f1, .int .i64 b.f0.f2, .int .i64 b.f0.f3, .int .i64 b.f1, .int .i64 b.f2.f0, .int .i64 b.f2.f1]

theorem three_new (w : World) (c1 c2 c3 : Array Value) (t : TypeId) (n : Nat) : ((((w.alloc (.cells c1 t)).alloc (.cells c2 t)).alloc (.cells c3 t)).drewN n).heap[w.heap.size]? = some (.cells c1 t (0, 0)) ∧
    ((((w.alloc (.cells c1 t)).alloc (.cells c2 t)).alloc (.cells c3 t)).drewN n).heap[w.heap.size + 1]? = some (.cells c2 t (0, 0)) ∧ ((((w.alloc (.cells c1 t)).alloc (.cells c2 t)).alloc (.cells c3 t)).drewN n).heap[w.heap.size + 1 + 1]? = some (.cells c3 t (0, 0)) ∧
    Below w.heap.size w ((((w.alloc (.cells c1 t)).alloc (.cells c2 t)).alloc (.cells c3 t)).drewN n) := by
  have s1 : (w.alloc (.cells c1 t)).heap.size = w.heap.size + 1 := by simp
  have s2 : ((w.alloc (.cells c1 t)).alloc (.cells c2 t)).heap.size = w.heap.size + 1 + 1 := by simp
  refine ⟨?_, ?_, ?_, ?_⟩
  · exact (Below.heap_alloc _ _ _ (by omega)).trans ((Below.heap_alloc _ _ _ (by omega)).trans (heap_alloc_new w _))
  · have := heap_alloc_new (w.alloc (.cells c1 t)) (.cells c2 t)
    rw [s1] at this
    exact (Below.heap_alloc _ _ _ (by omega)).trans this
  · have := heap_alloc_new ((w.alloc (.cells c1 t)).alloc (.cells c2 t)) (.cells c3 t)
    rw [s2] at this
    exact this
  · exact pw_below_drewN (((Below.refl _ w).alloc (Nat.le_refl _) _).alloc (by omega) _ |>.alloc (by omega) _) n

set_option maxRecDepth 100000 in
set_option maxHeartbeats 2000000 in
theorem joined_raw (x0 x1 x2 x3 x4 x5 x6 y0 y1 y2 y3 y4 y5 y6 : Int) (w : World) (h0 : 0 ≤ x0 ∧ x0 ≤ 1000000) (h1 : 0 ≤ x1 ∧ x1 ≤ 1000000) (h2 : 0 ≤ x2 ∧ x2 ≤ 1000000) (h3 : 0 ≤ x3 ∧ x3 ≤ 1000000) (h4 : 0 ≤ x4 ∧ x4 ≤ 100000000)
    (k0 : 0 ≤ y0 ∧ y0 ≤ 1000000) (k1 : 0 ≤ y1 ∧ y1 ≤ 1000000) (k2 : 0 ≤ y2 ∧ y2 ≤ 1000000) (k3 : 0 ≤ y3 ∧ y3 ≤ 1000000) (k4 : 0 ≤ y4 ∧ y4 ≤ 100000000) :
    Calls Try.prog 48 #[.agg #[.int .i64 x0, .int .i64 x1, .int .i64 x2, .int .i64 x3, .int .i64 x4, .int .i64 x5, .int .i64 x6], .agg #[.int .i64 y0, .int .i64 y1, .int .i64 y2, .int .i64 y3, .int .i64 y4, .int .i64 y5, .int .i64 y6]] w
      fun e w' => e = .returned (.agg #[.int .i64 (mn x0 y0), .int .i64 (mn x1 y1), .int .i64 (mx (x0 + x2) (y0 + y2) - mn x0 y0), .int .i64 (mx (x1 + x3) (y1 + y3) - mn x1 y1), .int .i64 (x4 + y4), .int .i64 x5, .int .i64 x6]) ∧ Below w.heap.size w w' := by
  have b0 := mn_b h0 k0
  have b1 := mn_b h1 k1
  have b2 := mx_b (x := x0 + x2) (y := y0 + y2) (l := 0) (u := 2000000) (by omega) (by omega)
  have b3 := mx_b (x := x1 + x3) (y := y1 + y3) (l := 0) (u := 2000000) (by omega) (by omega)
  go_enter Try.func48, Try.ntmps48
  go_wp2_with fail
  go_quiet (fail)
  obtain ⟨X, Y, Z, B⟩ := three_new w #[.int .i64 x0, .int .i64 x1, .int .i64 x2, .int .i64 x3, .int .i64 x4, .int .i64 x5, .int .i64 x6] #[.int .i64 y0, .int .i64 y1, .int .i64 y2, .int .i64 y3, .int .i64 y4, .int .i64 y5, .int .i64 y6] #[.int .i64 0, .int .i64 0, .int .i64 0, .int .i64 0, .int .i64 0, .int .i64 0, .int .i64 0] 38 nq
  generalize (((w.alloc (.cells #[.int .i64 x0, .int .i64 x1, .int .i64 x2, .int .i64 x3, .int .i64 x4, .int .i64 x5, .int .i64 x6] 38)).alloc (.cells #[.int .i64 y0, .int .i64 y1, .int .i64 y2, .int .i64 y3, .int .i64 y4, .int .i64 y5, .int .i64 y6] 38)).alloc (.cells #[.int .i64 0, .int .i64 0, .int .i64 0, .int .i64 0, .int .i64 0, .int .i64 0, .int .i64 0] 38)).drewN nq = W at X Y Z B ⊢
  have hx0 : W.cell? ⟨w.heap.size, 0, none⟩ = some (.int .i64 x0) := (blk_cell X 0).trans rfl
  have hx1 : W.cell? ⟨w.heap.size, 1, none⟩ = some (.int .i64 x1) := (blk_cell X 1).trans rfl
  have hx2 : W.cell? ⟨w.heap.size, 2, none⟩ = some (.int .i64 x2) := (blk_cell X 2).trans rfl
  have hx3 : W.cell? ⟨w.heap.size, 3, none⟩ = some (.int .i64 x3) := (blk_cell X 3).trans rfl
  have hx4 : W.cell? ⟨w.heap.size, 4, none⟩ = some (.int .i64 x4) := (blk_cell X 4).trans rfl
  have hx5 : W.cell? ⟨w.heap.size, 5, none⟩ = some (.int .i64 x5) := (blk_cell X 5).trans rfl
  have hx6 : W.cell? ⟨w.heap.size, 6, none⟩ = some (.int .i64 x6) := (blk_cell X 6).trans rfl
  have fx0 := blk_frozen X 0
  have fx1 := blk_frozen X 1
  have fx2 := blk_frozen X 2
  have fx3 := blk_frozen X 3
  have fx4 := blk_frozen X 4
  have hy0 : W.cell? ⟨w.heap.size + 1, 0, none⟩ = some (.int .i64 y0) := (blk_cell Y 0).trans rfl
  have hy1 : W.cell? ⟨w.heap.size + 1, 1, none⟩ = some (.int .i64 y1) := (blk_cell Y 1).trans rfl
  have hy4 : W.cell? ⟨w.heap.size + 1, 4, none⟩ = some (.int .i64 y4) := (blk_cell Y 4).trans rfl
  have hz0 : W.cell? ⟨w.heap.size + 1 + 1, 0, none⟩ = some (.int .i64 0) := (blk_cell Z 0).trans rfl
  have hz1 : W.cell? ⟨w.heap.size + 1 + 1, 1, none⟩ = some (.int .i64 0) := (blk_cell Z 1).trans rfl
  have hz2 : W.cell? ⟨w.heap.size + 1 + 1, 2, none⟩ = some (.int .i64 0) := (blk_cell Z 2).trans rfl
  have hz3 : W.cell? ⟨w.heap.size + 1 + 1, 3, none⟩ = some (.int .i64 0) := (blk_cell Z 3).trans rfl
  have hz4 : W.cell? ⟨w.heap.size + 1 + 1, 4, none⟩ = some (.int .i64 0) := (blk_cell Z 4).trans rfl
  have hz5 : W.cell? ⟨w.heap.size + 1 + 1, 5, none⟩ = some (.int .i64 0) := (blk_cell Z 5).trans rfl
  have hz6 : W.cell? ⟨w.heap.size + 1 + 1, 6, none⟩ = some (.int .i64 0) := (blk_cell Z 6).trans rfl
  have fz0 := blk_frozen Z 0
  have fz1 := blk_frozen Z 1
  have fz2 := blk_frozen Z 2
  have fz3 := blk_frozen Z 3
  have fz4 := blk_frozen Z 4
  have fz5 := blk_frozen Z 5
  have fz6 := blk_frozen Z 6
  have HX := Lib.hid X
  have HY := Lib.hid Y
  have HZ := Lib.hid Z
  have HBW := Lib.hid B
  clear X Y Z B
  go_wp2_with fail
  go_region
  go_wp2
  refine bodyPost_ret (v := .agg #[.int .i64 (mn x0 y0), .int .i64 (mn x1 y1), .int .i64 (mx (x0 + x2) (y0 + y2) - mn x0 y0), .int .i64 (mx (x1 + x3) (y1 + y3) - mn x1 y1), .int .i64 (x4 + y4), .int .i64 x5, .int .i64 x6]) ?_ rfl ⟨rfl, ?_⟩
  · simp [results, Try.results48, go_sem, hz0, hz1, hz2, hz3, hz4, hz5, hz6]
  · have hB := HBW.out
    refine below_drew ?_
    repeat (refine Below.setCell ?_ (by dsimp only; omega) _)
    exact hB
end Go.Proofs.Ytahibhipffojlaa.Join
