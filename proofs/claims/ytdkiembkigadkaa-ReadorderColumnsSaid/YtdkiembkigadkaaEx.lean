/- examples returns true: its calls, evaluated; its walk. -/
import Derived.Test.YtdkiembkigadkaaMx2
import Derived.Test.YtdkiembkigadkaaSortR
import Derived.Test.YtdkiembkigadkaaCols
import Derived.Outline
set_option linter.unusedSimpArgs false
set_option linter.unusedVariables false
namespace Go.Proofs.Ytdkiembkigadkaa.M
open Go.RowKit Go.Proofs.YtdkiembkigadkaaW.PrintLast Go.Proofs.YtdkiembkigadkaaW.PrintWords Go.Proofs.YtdkiembkigadkaaW.PrintMore
def exHolds.f : Option Bool := some true
theorem box_any (x y z t : Int) (w : World) : Calls Try.prog 22 #[.int .i64 x, .int .i64 y, .int .i64 z, .int .i64 t] w fun e w' => e = .returned (.agg #[.int .i64 x, .int .i64 y, .int .i64 z, .int .i64 t]) ∧ Below w.heap.size w w' :=
  barscanlaw50_box.calls x y z t x y z t w rfl
/-- a list of three boxes that a call has just made -/
def cells3 (a b c : S31) : Array Value := #[.int .i64 a.f0, .int .i64 a.f1, .int .i64 a.f2, .int .i64 a.f3, .int .i64 b.f0, .int .i64 b.f1, .int .i64 b.f2, .int .i64 b.f3, .int .i64 c.f0, .int .i64 c.f1, .int .i64 c.f2, .int .i64 c.f3]
theorem C_three (a b c : S31) (W : World) : Kd.C k31 (W.alloc (.cells (cells3 a b c) 31)) (some ⟨W.heap.size, 0, none⟩) [a, b, c].length [a, b, c] := by
  have h := OwnRow.reads (OwnRow.lit (R := k31.K (W.alloc (.cells (cells3 a b c) 31))) (e := 31) (size := 4) W 0 (ps := [a, b, c]) (inner := (cells3 a b c).toList) ⟨rfl, fun j p hj => by
    match j with
    | 0 => cases hj; exact k31_mk _ _
    | 1 => cases hj; exact k31_mk _ _
    | 2 => cases hj; exact k31_mk _ _
    | j + 3 => cases hj⟩ (Nat.zero_le _) (by simp))
  obtain ⟨A, n, e, _, hr⟩ := h
  injection e with e1 _ e2
  subst e1
  exact hr
theorem C_ints (xs : List Int) (hl : xs.length ≤ 1000) (W : World) : Kd.C (Kd.int .i64) (W.alloc (.cells (xs.map (Value.int .i64)).toArray 3)) (some ⟨W.heap.size, 0, none⟩) xs.length xs := by
  have h := OwnRow.reads (OwnRow.lit (R := (Kd.int .i64).K (W.alloc (.cells (xs.map (Value.int .i64)).toArray 3))) (e := 3) (size := 1) W 0 (ps := xs) (inner := xs.map (Value.int .i64)) (Kd.reps_scalar xs) (Nat.zero_le _) (by omega))
  obtain ⟨A, n, e, _, hr⟩ := h
  injection e with e1 _ e2
  subst e1
  exact hr
/-- two rows of numbers in a row -/
structure Rows2 (W : World) (g : Nat) (A0 : Option Addr) (c0 : Nat) (A1 : Option Addr) (c1 : Nat) (x0 x1 : List Int) : Prop where
  lt : g < W.heap.size
  k0 : W.cell? ⟨g, 0, none⟩ = some (.slice A0 x0.length c0)
  k1 : W.cell? ⟨g, 1, none⟩ = some (.slice A1 x1.length c1)
  l0 : x0.length ≤ c0
  l1 : x1.length ≤ c1
  r0 : Kd.C (Kd.int .i64) W A0 x0.length x0
  r1 : Kd.C (Kd.int .i64) W A1 x1.length x1
theorem Rows2.below {W W' : World} {g : Nat} {A0 A1 : Option Addr} {c0 c1 : Nat} {x0 x1 : List Int} (h : Rows2 W g A0 c0 A1 c1 x0 x1) (hb : Below W.heap.size W W') : Rows2 W' g A0 c0 A1 c1 x0 x1 :=
  ⟨Nat.lt_of_lt_of_le h.lt hb.size, (hb.cell (p := ⟨g, 0, none⟩) h.lt).trans h.k0, (hb.cell (p := ⟨g, 1, none⟩) h.lt).trans h.k1, h.l0, h.l1, Kd.C_below h.r0 hb, Kd.C_below h.r1 hb⟩
theorem Rows2.of {W : World} {g n c : Nat} {x0 x1 : List Int} (h : Kd.C (Kd.slice 3 (Kd.int .i64)) W (some ⟨g, 0, none⟩) 2 [x0, x1]) : ∃ A0 c0 A1 c1, Rows2 W g A0 c0 A1 c1 x0 x1 := by
  obtain ⟨ad, A0, c0, e, k0, l0, r0⟩ := at_L3 h 0 (by omega) (by omega)
  obtain ⟨ad', A1, c1, e', k1, l1, r1⟩ := at_L3 h 1 (by omega) (by omega)
  injection e with e
  injection e' with e'
  subst e e'
  exact ⟨A0, c0, A1, c1, World.block_lt_of_cell? W _ k0, k0, k1, l0, l1, r0, r1⟩
def exA : List S31 := [⟨20, 0, 10, 5⟩, ⟨0, 0, 10, 5⟩, ⟨0, 10, 30, 5⟩]
def exB : List S31 := [⟨30, 0, 5, 10⟩, ⟨20, 5, 5, 10⟩, ⟨10, 11, 5, 9⟩]
def exC : List S31 := [⟨0, 0, 10, 5⟩, ⟨8, 10, 10, 5⟩, ⟨25, 0, 5, 5⟩]
def exD : List S31 := [⟨0, 20, 5, 5⟩, ⟨0, 0, 5, 5⟩, ⟨0, 8, 5, 5⟩]
set_option maxRecDepth 100000 in
theorem exA_f : sortR.f exA = some ([1, 0, 2], 0) := by kernel_rfl
set_option maxRecDepth 100000 in
theorem exB_f : sortR.f exB = some ([], 31) := by kernel_rfl
set_option maxRecDepth 100000 in
theorem exC_f : columnsR.f exC 3 = some ([[0, 1], [2]], 0) := by kernel_rfl
set_option maxRecDepth 100000 in
theorem exD_f : readorder_Paragraphs.f 40 exD 3 = some ([[1, 2], [0]], 0) := by kernel_rfl
section
variable (W : World)
theorem exA_call : Calls Try.prog 11 #[.slice (some ⟨W.heap.size, 0, none⟩) 3 3] (W.alloc (.cells #[.int .i64 20, .int .i64 0, .int .i64 10, .int .i64 5, .int .i64 0, .int .i64 0, .int .i64 10, .int .i64 5, .int .i64 0, .int .i64 10, .int .i64 30, .int .i64 5] 31)) fun e w' =>
    ∃ A c, e = .returned (.tuple #[.slice A 3 c, .int .i64 0]) ∧ Kd.C (Kd.int .i64) w' A 3 [1, 0, 2] ∧ 3 ≤ c ∧ Below W.heap.size W w' := by
  refine (sortR.calls _ 3 exA [1, 0, 2] 0 _ (C_three _ _ _ W) (Nat.le_refl _) exA_f).mono ?_
  rintro e w' ⟨v, rfl, hR, hb⟩
  obtain ⟨A, c, rfl, hl, hc⟩ := Kd.R_reads hR
  exact ⟨A, c, rfl, hc, hl, below_then ((Below.refl _ _).alloc (Nat.le_refl _) _) (by simp) hb⟩
theorem exB_call : Calls Try.prog 11 #[.slice (some ⟨W.heap.size, 0, none⟩) 3 3] (W.alloc (.cells #[.int .i64 30, .int .i64 0, .int .i64 5, .int .i64 10, .int .i64 20, .int .i64 5, .int .i64 5, .int .i64 10, .int .i64 10, .int .i64 11, .int .i64 5, .int .i64 9] 31)) fun e w' =>
    ∃ v, e = .returned (.tuple #[v, .int .i64 31]) ∧ Below W.heap.size W w' := by
  refine (sortR.calls _ 3 exB [] 31 _ (C_three _ _ _ W) (Nat.le_refl _) exB_f).mono ?_
  rintro e w' ⟨v, rfl, hR, hb⟩
  exact ⟨v, rfl, below_then ((Below.refl _ _).alloc (Nat.le_refl _) _) (by simp) hb⟩
theorem exC_call : Calls Try.prog 16 #[.slice (some ⟨W.heap.size, 0, none⟩) 3 3, .int .i64 3] (W.alloc (.cells #[.int .i64 0, .int .i64 0, .int .i64 10, .int .i64 5, .int .i64 8, .int .i64 10, .int .i64 10, .int .i64 5, .int .i64 25, .int .i64 0, .int .i64 5, .int .i64 5] 31)) fun e w' =>
    ∃ g c A0 c0 A1 c1, e = .returned (.tuple #[.slice (some ⟨g, 0, none⟩) 2 c, .int .i64 0]) ∧ Rows2 w' g A0 c0 A1 c1 [0, 1] [2] ∧ Below W.heap.size W w' := by
  refine (columnsR.calls _ 3 exC 3 [[0, 1], [2]] 0 _ (C_three _ _ _ W) (Nat.le_refl _) exC_f).mono ?_
  rintro e w' ⟨v, rfl, hR, hb⟩
  obtain ⟨g, c, rfl, _, _, _⟩ := Kd.N_form hR (by decide)
  obtain ⟨A0, c0, A1, c1, h⟩ := Rows2.of (n := 0) (c := 0) (Kd.N_reads' hR).2.2
  exact ⟨g, c, A0, c0, A1, c1, rfl, h, below_then ((Below.refl _ _).alloc (Nat.le_refl _) _) (by simp) hb⟩
theorem exD_call : Calls Try.prog 19 #[.slice (some ⟨W.heap.size, 0, none⟩) 3 3, .int .i64 3] (W.alloc (.cells #[.int .i64 0, .int .i64 20, .int .i64 5, .int .i64 5, .int .i64 0, .int .i64 0, .int .i64 5, .int .i64 5, .int .i64 0, .int .i64 8, .int .i64 5, .int .i64 5] 31)) fun e w' =>
    ∃ g c A0 c0 A1 c1, e = .returned (.tuple #[.slice (some ⟨g, 0, none⟩) 2 c, .int .i64 0]) ∧ Rows2 w' g A0 c0 A1 c1 [1, 2] [0] ∧ Below W.heap.size W w' := by
  refine (readorder_Paragraphs.calls 40 _ 3 exD 3 [[1, 2], [0]] 0 _ (C_three _ _ _ W) (Nat.le_refl _) exD_f).mono ?_
  rintro e w' ⟨v, rfl, hR, hb⟩
  obtain ⟨g, c, rfl, _, _, _⟩ := Kd.S_form hR (by decide)
  obtain ⟨A0, c0, A1, c1, h⟩ := Rows2.of (n := 0) (c := 0) (Kd.S_reads' hR).2.2
  exact ⟨g, c, A0, c0, A1, c1, rfl, h, below_then ((Below.refl _ _).alloc (Nat.le_refl _) _) (by simp) hb⟩
end
theorem ints_true (xs : List Int) (hx : barscanlaw50_ints.f 20 xs xs = some true) (hl : xs.length ≤ 1000) (cs : Array Value) (hcs : (xs.map (Value.int .i64)).toArray = cs) (n : Nat) (hn : xs.length = n) (W : World) (A : Option Addr) (c : Nat) (hC : Kd.C (Kd.int .i64) W A xs.length xs) (hc : xs.length ≤ c) :
    Calls Try.prog 23 #[.slice A n c, .slice (some ⟨W.heap.size, 0, none⟩) n n] (W.alloc (.cells cs 3)) fun e w' => e = .returned (.bool true) ∧ Below W.heap.size W w' := by
  subst hcs hn
  refine (barscanlaw50_ints.calls 20 A c xs (some ⟨W.heap.size, 0, none⟩) xs.length xs true _ (Kd.C_alloc hC _) hc (C_ints xs hl W) (Nat.le_refl _) hx).mono ?_
  rintro e w' ⟨rfl, hb⟩
  exact ⟨rfl, below_then ((Below.refl _ _).alloc (Nat.le_refl _) _) (by simp) hb.below⟩
theorem ints_a (W : World) (A : Option Addr) (c : Nat) (hC : Kd.C (Kd.int .i64) W A 3 [1, 0, 2]) (hc : 3 ≤ c) :
    Calls Try.prog 23 #[.slice A 3 c, .slice (some ⟨W.heap.size, 0, none⟩) 3 3] (W.alloc (.cells #[.int .i64 1, .int .i64 0, .int .i64 2] 3)) fun e w' => e = .returned (.bool true) ∧ Below W.heap.size W w' :=
  ints_true [1, 0, 2] (by kernel_rfl) (by decide) _ rfl _ rfl W A c hC hc
theorem ints_b (W : World) (A : Option Addr) (c : Nat) (hC : Kd.C (Kd.int .i64) W A ([0, 1] : List Int).length [0, 1]) (hc : ([0, 1] : List Int).length ≤ c) :
    Calls Try.prog 23 #[.slice A 2 c, .slice (some ⟨W.heap.size, 0, none⟩) 2 2] (W.alloc (.cells #[.int .i64 0, .int .i64 1] 3)) fun e w' => e = .returned (.bool true) ∧ Below W.heap.size W w' :=
  ints_true [0, 1] (by kernel_rfl) (by decide) _ rfl _ rfl W A c hC hc
theorem ints_c (W : World) (A : Option Addr) (c : Nat) (hC : Kd.C (Kd.int .i64) W A ([2] : List Int).length [2]) (hc : ([2] : List Int).length ≤ c) :
    Calls Try.prog 23 #[.slice A 1 c, .slice (some ⟨W.heap.size, 0, none⟩) 1 1] (W.alloc (.cells #[.int .i64 2] 3)) fun e w' => e = .returned (.bool true) ∧ Below W.heap.size W w' :=
  ints_true [2] (by kernel_rfl) (by decide) _ rfl _ rfl W A c hC hc
theorem ints_d (W : World) (A : Option Addr) (c : Nat) (hC : Kd.C (Kd.int .i64) W A ([1, 2] : List Int).length [1, 2]) (hc : ([1, 2] : List Int).length ≤ c) :
    Calls Try.prog 23 #[.slice A 2 c, .slice (some ⟨W.heap.size, 0, none⟩) 2 2] (W.alloc (.cells #[.int .i64 1, .int .i64 2] 3)) fun e w' => e = .returned (.bool true) ∧ Below W.heap.size W w' :=
  ints_true [1, 2] (by kernel_rfl) (by decide) _ rfl _ rfl W A c hC hc
theorem ints_e (W : World) (A : Option Addr) (c : Nat) (hC : Kd.C (Kd.int .i64) W A ([0] : List Int).length [0]) (hc : ([0] : List Int).length ≤ c) :
    Calls Try.prog 23 #[.slice A 1 c, .slice (some ⟨W.heap.size, 0, none⟩) 1 1] (W.alloc (.cells #[.int .i64 0] 3)) fun e w' => e = .returned (.bool true) ∧ Below W.heap.size W w' :=
  ints_true [0] (by kernel_rfl) (by decide) _ rfl _ rfl W A c hC hc
/-- all that is held of the results -/
structure ExS (w W : World) (Aa : Option Addr) (gc : Nat) (A0 : Option Addr) (c0 : Nat) (A1 : Option Addr) (c1 : Nat) (gp : Nat) (P0 : Option Addr) (d0 : Nat) (P1 : Option Addr) (d1 : Nat) : Prop where
  B : Below w.heap.size w W
  a : Kd.C (Kd.int .i64) W Aa 3 [1, 0, 2]
  c : Rows2 W gc A0 c0 A1 c1 [0, 1] [2]
  p : Rows2 W gp P0 d0 P1 d1 [1, 2] [0]
theorem ExS.below {w W W' : World} {Aa A0 A1 P0 P1 : Option Addr} {gc gp c0 c1 d0 d1 : Nat} (h : ExS w W Aa gc A0 c0 A1 c1 gp P0 d0 P1 d1) (hb : Below W.heap.size W W') : ExS w W' Aa gc A0 c0 A1 c1 gp P0 d0 P1 d1 :=
  ⟨below_then h.B h.B.size hb, Kd.C_below h.a hb, h.c.below hb, h.p.below hb⟩
set_option maxRecDepth 100000 in
set_option maxHeartbeats 4000000 in
theorem ex_walk (w : World) : Calls Try.prog 10 #[] w fun e w' => e = .returned (.bool true) ∧ Below w.heap.size w w' := by
  have HB := Lib.hid (Below.refl w.heap.size w)
  go_enter Try.func10, Try.ntmps10
  go_wp2_with (first
    | (go_at_call 22; (with_reducible refine (box_any _ _ _ _ _).mono ?_); rintro e w' ⟨rfl, hb⟩; have n0 := Lib.hid (below_then HB.out HB.out.size hb); clear HB; have HB := n0; clear n0; (try (have n1 := Lib.hid (Kd.C_below HA.out hb); clear HA; have HA := n1; clear n1)); (try (have n2 := Lib.hid (HC.out.below hb); clear HC; have HC := n2; clear n2)); clear hb)
    | (go_at_call 11; (with_reducible refine (exA_call _).mono ?_); rintro e w' ⟨Aa, ca, rfl, ha, hla, hb⟩; have n0 := Lib.hid (below_then HB.out HB.out.size hb); clear HB; have HB := n0; clear n0; have HA := Lib.hid ha; have HLA := Lib.hid hla; clear ha hla hb)
    | (go_at_call 11; (with_reducible refine (exB_call _).mono ?_); rintro e w' ⟨vb, rfl, hb⟩; have n0 := Lib.hid (below_then HB.out HB.out.size hb); clear HB; have HB := n0; clear n0; have n1 := Lib.hid (Kd.C_below HA.out hb); clear HA; have HA := n1; clear n1; clear hb)
    | (go_at_call 16; (with_reducible refine (exC_call _).mono ?_); rintro e w' ⟨gc, cc, A0, c0, A1, c1, rfl, hc, hb⟩; have n0 := Lib.hid (below_then HB.out HB.out.size hb); clear HB; have HB := n0; clear n0; have n1 := Lib.hid (Kd.C_below HA.out hb); clear HA; have HA := n1; clear n1; have HC := Lib.hid hc; clear hb hc)
    | (go_at_call 19; (with_reducible refine (exD_call _).mono ?_); rintro e w' ⟨gp, cp, P0, d0, P1, d1, rfl, hp, hb⟩; have HS := Lib.hid (ExS.mk (below_then HB.out HB.out.size hb) (Kd.C_below HA.out hb) (HC.out.below hb) hp); clear HB HA HC hb hp; have hk0 := HS.out.c.k0; have hk1 := HS.out.c.k1; have hq0 := HS.out.p.k0; have hq1 := HS.out.p.k1; simp only [List.length_cons, List.length_nil, Nat.zero_add, Nat.reduceAdd] at hk0 hk1 hq0 hq1)
    | (go_at_call 23; go_loud ((first
        | (with_reducible refine (ints_a _ Aa ca HS.out.a HLA.out).mono ?_)
        | (with_reducible refine (ints_b _ A0 c0 HS.out.c.r0 HS.out.c.l0).mono ?_)
        | (with_reducible refine (ints_c _ A1 c1 HS.out.c.r1 HS.out.c.l1).mono ?_)
        | (with_reducible refine (ints_d _ P0 d0 HS.out.p.r0 HS.out.p.l0).mono ?_)
        | (with_reducible refine (ints_e _ P1 d1 HS.out.p.r1 HS.out.p.l1).mono ?_)); rintro e w' ⟨rfl, hb⟩; have n0 := Lib.hid (HS.out.below hb); clear hk0 hk1 hq0 hq1 HS hb; have HS := n0; clear n0; have hk0 := HS.out.c.k0; have hk1 := HS.out.c.k1; have hq0 := HS.out.p.k0; have hq1 := HS.out.p.k1; simp only [List.length_cons, List.length_nil, Nat.zero_add, Nat.reduceAdd] at hk0 hk1 hq0 hq1)))
  go_ret
  exact ⟨rfl, HS.out.B⟩
theorem exHolds.calls (r1 : Bool) (w : World) (h : exHolds.f = some r1) : Calls Try.prog 10 #[] w fun e w' => e = .returned (.bool r1) ∧ Below w.heap.size w w' := by
  injection h with h
  subst h
  exact ex_walk w
end Go.Proofs.Ytdkiembkigadkaa.M
