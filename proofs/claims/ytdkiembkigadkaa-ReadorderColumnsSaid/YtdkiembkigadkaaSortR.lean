/- readorder.Sort. -/
import Derived.Test.YtdkiembkigadkaaPTk
import Derived.Test.YtdkiembkigadkaaChk
import Derived.Outline
import Derived.BigRegion
set_option linter.unusedSimpArgs false
set_option linter.unusedVariables false
namespace Go.Proofs.Ytdkiembkigadkaa.M
open Go.RowKit Go.Maps Go.Proofs.YtdkiembkigadkaaW.PrintLast Go.Proofs.YtdkiembkigadkaaW.PrintWords Go.Proofs.YtdkiembkigadkaaW.PrintMore Go.Proofs.Ytdkiembkigadkaa.Map
def bfB (a b : S31) : Bool := (readorder_before.f a.f0 a.f1 a.f2 a.f3 b.f0 b.f1 b.f2 b.f3).getD false
theorem before_f (a b : S31) : readorder_before.f a.f0 a.f1 a.f2 a.f3 b.f0 b.f1 b.f2 b.f3 = some (bfB a b) := by
  unfold bfB readorder_before.f
  repeat' split
  all_goals rfl
def bfN (l : List S31) (k i : Nat) : Bool := bfB (rd_T31 l (k : Int)) (rd_T31 l (i : Int))
def aggB (b : S31) : Value := .agg #[.int .i64 b.f0, .int .i64 b.f1, .int .i64 b.f2, .int .i64 b.f3]
def cellsB (b : S31) : Array Value := #[.int .i64 b.f0, .int .i64 b.f1, .int .i64 b.f2, .int .i64 b.f3]
theorem before_any (x0 x1 x2 x3 y0 y1 y2 y3 : Int) (w : World) : Calls Try.prog 27 #[.agg #[.int .i64 x0, .int .i64 x1, .int .i64 x2, .int .i64 x3], .agg #[.int .i64 y0, .int .i64 y1, .int .i64 y2, .int .i64 y3]] w fun e w' => e = .returned (.bool (bfB ⟨x0, x1, x2, x3⟩ ⟨y0, y1, y2, y3⟩)) ∧ Below w.heap.size w w' :=
  readorder_before.calls x0 x1 x2 x3 y0 y1 y2 y3 (bfB ⟨x0, x1, x2, x3⟩ ⟨y0, y1, y2, y3⟩) w (before_f ⟨x0, x1, x2, x3⟩ ⟨y0, y1, y2, y3⟩)
/-- the cells of a list's boxes -/
def At4 (W : World) (g o : Nat) (b : S31) (j : Nat) : Prop := W.cell? ⟨g, o + j * 4, none⟩ = some (.int .i64 b.f0) ∧ W.cell? ⟨g, o + j * 4 + 1, none⟩ = some (.int .i64 b.f1) ∧ W.cell? ⟨g, o + j * 4 + 2, none⟩ = some (.int .i64 b.f2) ∧ W.cell? ⟨g, o + j * 4 + 3, none⟩ = some (.int .i64 b.f3)
theorem At4.below {w W : World} {g o j : Nat} {b : S31} (h : At4 w g o b j) (hb : Below w.heap.size w W) (hg : g < w.heap.size) : At4 W g o b j :=
  ⟨(hb.cell (p := ⟨g, _, none⟩) hg).trans h.1, (hb.cell (p := ⟨g, _, none⟩) hg).trans h.2.1, (hb.cell (p := ⟨g, _, none⟩) hg).trans h.2.2.1, (hb.cell (p := ⟨g, _, none⟩) hg).trans h.2.2.2⟩
/-- the result of Sort: the order, or nothing and an error -/
def sres : Option (List Nat) → List Int
  | some r => r.map (fun i => ((i : Nat) : Int))
  | none => []
def serr : Option (List Nat) → Int
  | some _ => 0
  | none => 31
def sortR.f (l0 : List S31) : Option (List Int × Int) := (check.f l0 0).bind fun e => if e = 0 then some (sres (P.sortF l0.length (bfN l0)), serr (P.sortF l0.length (bfN l0))) else some ([], e)
def cntf (l : List S31) (tk : List Nat) (j : Nat) : Option Nat := if j ∈ tk then none else some (P.cnt (bfN l) tk j l.length)
theorem step_i {i : Nat} (h : i < 1000000000) : wrap64 ((i : Int) + 1) = ((i + 1 : Nat) : Int) := by
  unfold wrap64
  omega
theorem RangeAt.congr {w : World} {b r c n : Nat} {f f' : Nat → Option Nat} {left : Nat → Bool} (h : RangeAt w b r c n f left) (he : ∀ k, k < n → f' k = f k) : RangeAt w b r c n f' left := by
  obtain ⟨q, D, lf, cnt, hq, hr, hm, h1, h2⟩ := h
  exact ⟨q, D, lf, cnt, hq, hr, hm.congr he, h1, fun kl hk => by obtain ⟨k, hkn, e, hs⟩ := h2 kl hk; exact ⟨k, hkn, e, by rw [he k hkn]; exact hs⟩⟩
/-- what the map holds while the boxes behind k are told: of those that are to come the old number, of the others the new one -/
def remF (bf : Nat → Nat → Bool) (n : Nat) (tk : List Nat) (k : Nat) (left : Nat → Bool) (j : Nat) : Option Nat := if j ∈ tk ++ [k] then none else some (if left j = true then P.cnt bf tk j n else P.cnt bf (tk ++ [k]) j n)
theorem below_drew0 {w w' : World} (h : Below w.drew.heap.size w.drew w') : Below w.heap.size w w' := ⟨h.os, h.tape, h.output, h.size, h.block⟩
theorem R_bmap {α : Type} {d : Kd α} {e base : Nat} {w w1 : World} {v : Value} {xs : List α} {b : Nat} (h : Kd.R d e w base (fun _ => True) v xs) (hb : ∀ cs t, w.heap[b]? ≠ some (.cells cs t (0, 0))) (hg : w.grownBy w1 (some b)) : Kd.R d e w1 base (fun _ => True) v xs :=
  Kd.R_mono (Kd.R_grown (Kd.R_bound h) hg (fun k hk => by
    rintro e
    injection e with e
    subst e
    obtain ⟨_, _, _, q, _, cells, hc⟩ := hk
    exact hb _ _ hc)) (fun _ _ => trivial)
theorem rd_T31_nat' (l : List S31) (j : Nat) : rd_T31 l (j : Int) = l[j]! := by
  unfold rd_T31
  rw [Int.toNat_natCast, getElem!_def, List.getD_eq_getElem?_getD]
  cases l[j]? <;> rfl
set_option maxRecDepth 100000 in
set_option maxHeartbeats 4000000 in
theorem sort_walk (g o c0 : Nat) (l0 : List S31) (w : World) (hC : ∀ j, j < l0.length → At4 w g o (rd_T31 l0 (j : Int)) j) (hg : g < w.heap.size) (hn0 : l0.length ≤ 4096)
    (hchk : Calls Try.prog 26 #[.slice (some ⟨g, o, none⟩) l0.length c0, .int .i64 0] w fun e w' => e = .returned (.int .i64 0) ∧ Below w.heap.size w w') :
    Calls Try.prog 11 #[.slice (some ⟨g, o, none⟩) l0.length c0] w fun e w' => ∃ v0_ : Value, e = .returned (.tuple #[v0_, .int .i64 (serr (P.sortF l0.length (bfN l0)))]) ∧
      Kd.R (Kd.int .i64) 3 w' w.heap.size (fun _ => True) v0_ (sres (P.sortF l0.length (bfN l0))) ∧ Below w.heap.size w w' := by
  generalize hn : l0.length = n at *
  have HC := Lib.hid hC
  have HG : Hid (g < w.heap.size) := Lib.hid hg
  have HN := Lib.hid hn
  have HN4 := Lib.hid hn0
  clear hC hg hn
  have hmm := @run_makeMap Try.prog
  go_enter Try.func11, Try.ntmps11
  go_wp2_with (first
    | (go_at_call 26; refine hchk.mono ?_; rintro e w1 ⟨rfl, hb⟩; have HB1 := Lib.hid hb; clear hb))
  clear hmm hchk
  have hn9 : (n : Int) ≤ 4096 := by have := HN4.out; omega
  have HB2 : Hid (Below w.heap.size w (w1.alloc (.map #[] 0))) := Lib.hid (HB1.out.alloc HB1.out.size _)
  have HM2 : Hid (MapN (w1.alloc (.map #[] 0)) w1.heap.size 0 0 (fun j => some (P.cnt (bfN l0) [] j n))) := Lib.hid (MapN.made w1 _)
  have HBM : Hid (w.heap.size ≤ w1.heap.size) := Lib.hid HB1.out.size
  generalize hbm : w1.heap.size = bm at *
  generalize hw2 : (w1.alloc (.map #[] 0)) = w2 at *
  clear hw2 hbm HB1 w1
  go_loopg [23] n (fun gg u23 wr => ∃ i : Nat, u23 = .int .i64 (i : Int) ∧ i ≤ n ∧ n - i ≤ gg ∧ Aside0 (MapN wr bm (i * 5000) i (fun j => some (P.cnt (bfN l0) [] j n))) ∧ Aside0 (Below w.heap.size w wr))
  case atStart => exact ⟨0, rfl, Nat.zero_le _, by omega, ⟨HM2.out⟩, ⟨HB2.out⟩⟩
  case round =>
    obtain ⟨i, rfl, hi, hgg, HM, HB⟩ := hrel
    rcases Nat.lt_or_ge i n with hlt | hge
    · have hi0 : (0 : Int) ≤ (i : Int) := Int.natCast_nonneg _
      have hi1 : (i : Int) < (n : Int) := by omega
      have hi9 : Hid (i ≤ 4096) := Lib.hid (by have := HN4.out; omega)
      obtain ⟨x, hx⟩ : ∃ x, rd_T31 l0 (i : Int) = x := ⟨_, rfl⟩
      have HX := Lib.hid hx
      have hcell := (HC.out i hlt).below HB.out HG.out
      rw [hx] at hcell
      obtain ⟨h0, h1, h2, h3⟩ := hcell
      clear hx
      obtain ⟨x0, x1, x2, x3⟩ := x
      go_wp2_with (first
        | (at_mapUpdate; refine wpl_more HM.out ((Below.refl _ _).alloc (Nat.le_refl _) _) (by have := hi9.out; omega) (by have := hi9.out; omega) 0 (by omega) rfl _ _ _ rfl rfl rfl rfl ?_; intro w3 M3 hg3; have HM3 := Lib.hid M3; have HG3 := Lib.hid hg3; clear M3 hg3))
      clear h0 h1 h2 h3
      have HBK : Hid (w3.heap[wr.heap.size]? = some (.cells #[.int .i64 x0, .int .i64 x1, .int .i64 x2, .int .i64 x3] 31 (0, 0))) := Lib.hid (blk_grown (blk_new _ _) HG3.out (by
        intro e
        injection e with e
        have := HM.out.lt
        omega))
      have HB3 : Hid (Below w.heap.size w w3) := Lib.hid ((HB.out.alloc HB.out.size _).grown HG3.out (by have := HB.out.size; simp; omega) (fun k hk => by injection hk with hk; subst hk; exact HBM.out))
      have hsz : Hid (w.heap.size ≤ wr.heap.size) := Lib.hid HB.out.size
      generalize wr.heap.size = ba at *
      clear HG3 HM HB
      go_loopg [32] n (fun gg u32 wr => ∃ kk : Nat, u32 = .int .i64 (kk : Int) ∧ kk ≤ n ∧ n - kk ≤ gg ∧ Aside0 (MapN wr bm (i * 5000 + 1 + kk) (i + 1) (fun j => if j = i then some (P.cnt (bfN l0) [] i kk) else some (P.cnt (bfN l0) [] j n))) ∧ Aside0 (wr.heap[ba]? = some (.cells #[.int .i64 x0, .int .i64 x1, .int .i64 x2, .int .i64 x3] 31 (0, 0))) ∧ Aside0 (Below w.heap.size w wr))
      case atStart => exact ⟨0, rfl, Nat.zero_le _, by omega, ⟨HM3.out⟩, ⟨HBK.out⟩, ⟨HB3.out⟩⟩
      case round =>
        clear HM3 HBK HB3
        obtain ⟨kk, rfl, hkn, hgk, HM, HBK, HB⟩ := hrel
        rcases Nat.lt_or_ge kk n with hlk | hgek
        · have hk0 : (0 : Int) ≤ (kk : Int) := Int.natCast_nonneg _
          have hk1 : (kk : Int) < (n : Int) := by omega
          have hk9 : Hid (kk ≤ 4096) := Lib.hid (by have := HN4.out; omega)
          obtain ⟨y, hy⟩ : ∃ y, rd_T31 l0 (kk : Int) = y := ⟨_, rfl⟩
          have HY := Lib.hid hy
          have hcell := (HC.out kk hlk).below HB.out HG.out
          rw [hy] at hcell
          obtain ⟨h0, h1, h2, h3⟩ := hcell
          clear hy
          obtain ⟨y0, y1, y2, y3⟩ := y
          have hba : ba < wr.heap.size := blk_lt HBK.out
          have k0 : wr.cell? ⟨ba, 0, none⟩ = some (.int .i64 x0) := (blk_cell HBK.out 0).trans rfl
          have k1 : wr.cell? ⟨ba, 1, none⟩ = some (.int .i64 x1) := (blk_cell HBK.out 1).trans rfl
          have k2 : wr.cell? ⟨ba, 2, none⟩ = some (.int .i64 x2) := (blk_cell HBK.out 2).trans rfl
          have k3 : wr.cell? ⟨ba, 3, none⟩ = some (.int .i64 x3) := (blk_cell HBK.out 3).trans rfl
          have hcn : Hid (P.cnt (bfN l0) [] i kk ≤ kk) := Lib.hid (P.cnt_le _ _ _)
          have hst : Hid (P.cnt (bfN l0) [] i (kk + 1) = P.cnt (bfN l0) [] i kk + if bfB ⟨y0, y1, y2, y3⟩ ⟨x0, x1, x2, x3⟩ = true then 1 else 0) := Lib.hid (by
            rw [P.cnt]
            unfold bfN
            rw [HX.out, HY.out]
            simp)
          generalize hcc : P.cnt (bfN l0) [] i kk = cc at *
          have HCC := Lib.hid hcc
          clear hcc
          go_wp2_with (first
            | (go_at_call 27; (with_reducible refine (before_any _ _ _ _ _ _ _ _ _).mono ?_); rintro e w4 ⟨rfl, hb4⟩; have HB4 := Lib.hid (below_then ((Below.refl _ _).alloc (Nat.le_refl _) _) (by simp) hb4); clear hb4; have hlook := (HM.out.below' HB4.out).look i cc (by have := hi9.out; omega) (Nat.lt_succ_self i) (by simp); have hc0 : (0 : Int) ≤ (cc : Int) := Int.natCast_nonneg _; have hc1 : (cc : Int) ≤ 4096 := (by have := hcn.out; have := hk9.out; omega))
            | (at_mapUpdate; refine wpl_put (HM.out.below' HB4.out) (Below.refl _ _) (by have := hi9.out; have := hk9.out; omega) i (cc + 1) (by have := hi9.out; omega) (by have := hcn.out; have := hk9.out; omega) (Nat.lt_succ_self i) rfl _ _ _ rfl rfl rfl rfl ?_; intro w5 M5 hg5; have HM5 := Lib.hid M5; have HG5 := Lib.hid hg5; clear M5 hg5))
          · have HBK4 := blk_below HBK.out HB4.out
            have HM4 := HM.out.below' HB4.out
            go_roundg (n - (kk + 1))
            case measure => omega
            case rel =>
              refine ⟨kk + 1, rfl, by omega, Nat.le_refl _, ⟨HM5.out.congr fun j hj => ?_⟩, ⟨blk_grown HBK4 HG5.out (fun e => HM4.isCells HBK4 (by injection e with e; exact e.symm))⟩, ⟨(below_then HB.out HB.out.size HB4.out).grown HG5.out (Nat.le_trans HB.out.size HB4.out.size) (fun k hk => by injection hk with hk; subst hk; exact HBM.out)⟩⟩
              by_cases e : j = i
              · have hw : bfB ⟨y0, y1, y2, y3⟩ ⟨x0, x1, x2, x3⟩ = true := by assumption
                rw [if_pos e, if_pos e, hst.out, if_pos hw]
              · rw [if_neg e, if_neg e, if_neg e]
          · go_roundg (n - (kk + 1))
            case measure => omega
            case rel =>
              refine ⟨kk + 1, rfl, by omega, Nat.le_refl _, ⟨((HM.out.below' HB4.out).mono (by omega)).congr fun j hj => ?_⟩, ⟨blk_below HBK.out HB4.out⟩, ⟨below_then HB.out HB.out.size HB4.out⟩⟩
              by_cases e : j = i
              · have hw : bfB ⟨y0, y1, y2, y3⟩ ⟨x0, x1, x2, x3⟩ = false := by assumption
                rw [if_pos e, if_pos e, hst.out, hw, if_neg (by decide), Nat.add_zero]
              · rw [if_neg e, if_neg e]
        · have hk1 : ¬ (kk : Int) < (n : Int) := by omega
          obtain rfl : n = kk := by omega
          go_wp2
          go_roundg (n - (i + 1))
          case measure => omega
          case rel =>
            refine ⟨i + 1, rfl, by omega, Nat.le_refl _, ⟨(HM.out.mono (by have := HN4.out; omega)).congr fun j hj => ?_⟩, ⟨HB.out⟩⟩
            split
            · next e => rw [e]
            · rfl
    · have hi1 : ¬ (i : Int) < (n : Int) := by omega
      obtain rfl : n = i := by omega
      clear hge hgg HM2 HB2 hi hi1
      go_wp2
      go_loopg [10] n (fun gg u10 wr => ∃ tk : List Nat, n - tk.length ≤ gg ∧ Aside0 (P.Ord n (bfN l0) tk) ∧ Aside0 (P.run n (bfN l0) (n - tk.length) tk = P.sortF n (bfN l0)) ∧ Aside0 (MapN wr bm (n * 5000) n (fun j => if j ∈ tk then none else some (P.cnt (bfN l0) tk j n))) ∧ Aside0 (Kd.R (Kd.int .i64) 3 wr w.heap.size (fun _ => True) u10 (tk.map (fun i => ((i : Nat) : Int)))) ∧ Aside0 (Below w.heap.size w wr))
      case atStart => exact ⟨[], by simp, ⟨P.Ord.start⟩, ⟨rfl⟩, ⟨HM.out.congr fun j hj => by simp⟩, ⟨Kd.R_nil _ _ _ _ _⟩, ⟨HB.out⟩⟩
      case round =>
        clear HM HB
        obtain ⟨tk, hgg, HO, HRUN, HM, HR, HB⟩ := hrel
        have HLEN := Lib.hid (left_len HO.out)
        have HPR := Lib.hid (present_tk HO.out (fun j => P.cnt (bfN l0) tk j n))
        obtain ⟨L, hL⟩ : ∃ L, (List.range n).filter (fun i => decide (i ∉ tk)) = L := ⟨_, rfl⟩
        have HLD := Lib.hid hL
        rw [hL] at HLEN
        have hpr := HPR.out
        rw [hL] at hpr
        have HPR := Lib.hid hpr
        have HF : Hid (∀ k, k ∈ L → k < n ∧ k ∉ tk) := Lib.hid (fun k hk => by
          rw [← hL, List.mem_filter, List.mem_range] at hk
          exact ⟨hk.1, by simpa using hk.2⟩)
        clear hL hpr
        obtain ⟨F, hF⟩ : ∃ F : Nat → Option Nat, F = fun j => if j ∈ tk then none else some (P.cnt (bfN l0) tk j n) := ⟨_, rfl⟩
        have HFD := Lib.hid hF
        rw [← hF] at HM HPR
        clear hF
        obtain ⟨pr, hpr⟩ : ∃ pr, present n F = pr := ⟨_, rfl⟩
        have HPD := Lib.hid hpr
        rw [hpr] at HPR
        have hplen : pr.length = L.length := by rw [HPR.out]; simp
        have hlenL := HLEN.out
        have HSZ : Hid (pr.length = n - tk.length) := Lib.hid (by omega)
        clear hpr hlenL
        rcases Nat.lt_or_ge tk.length n with hlt | hge
        · have hpos : (0 : Int) < (pr.length : Int) := by have := HSZ.out; omega
          have HPL := Lib.hid hplen
          clear hplen
          obtain ⟨q, D, hq, ho, hr⟩ := HM.out
          have HOW := Lib.hid ho
          have HMR := Lib.hid hr
          clear hq ho hr
          go_wp2_with (first
            | (at_len; refine wpl_len HM.out rfl _ rfl rfl ?_; rw [HPD.out])
            | (go_at_call 29; (with_reducible refine (keys_any bm _).mono ?_); rintro e w' ⟨rfl, rfl⟩)
            | (go_at_call 28; (with_reducible refine (sorted_any HOW.out HMR.out (by have := HN4.out; omega)).mono ?_); rintro e w4 ⟨v4, rfl, R4, hb4⟩; have HB4 := Lib.hid (below_then ((Below.refl _ _).alloc (Nat.le_refl _) (.cells #[.map (some bm)] 45)) (by simp) hb4); obtain ⟨A4, c4, e4⟩ := Kd.R_slice R4; subst e4; rw [HPD.out] at R4; have HR4 := Lib.hid R4; clear hb4 R4; rw [HPD.out]))
          have HM4 := Lib.hid (HM.out.below' HB4.out)
          have HB5 := Lib.hid (below_then HB.out HB.out.size HB4.out)
          have HO4 := Lib.hid (Kd.R_below HR.out HB4.out)
          have HP9 : Hid (pr.length ≤ 4096) := Lib.hid (by have := HSZ.out; have := HN4.out; omega)
          have hpl9 : (pr.length : Int) ≤ 4096 := by have := HP9.out; omega
          clear HOW HMR HB4 HB HM HR
          go_loopg [11, 52] pr.length (fun gg u11 u52 wr => ∃ q : Nat, u52 = .int .i64 (q : Int) ∧ u11 = .int .i64 (-1) ∧ q ≤ pr.length ∧ pr.length - q ≤ gg ∧ Aside0 (wr = w4) ∧ Aside0 (∀ p, p < q → ∀ j, L[p]? = some j → P.cnt (bfN l0) tk j n ≠ 0))
          case atStart => exact ⟨0, rfl, rfl, Nat.zero_le _, by omega, ⟨rfl⟩, ⟨fun p hp => absurd hp (Nat.not_lt_zero _)⟩⟩
          case round =>
            obtain ⟨q, rfl, rfl, hq, hgq, hw, HNF⟩ := hrel
            obtain rfl := hw.out
            clear hw
            rcases Nat.lt_or_ge q pr.length with hlq | hgeq
            · have hq0 : (0 : Int) ≤ (q : Int) := Int.natCast_nonneg _
              have hq1 : (q : Int) < (pr.length : Int) := by omega
              obtain ⟨g8, cap8, e8, _, _, _⟩ := Kd.R_form HR4.out (by omega)
              have e8' : A4 = some ⟨g8, 0, none⟩ := by injection e8
              subst e8'
              clear e8
              obtain ⟨k, hk⟩ : ∃ k, L[q]? = some k := ⟨_, List.getElem?_eq_getElem (by have := HPL.out; omega)⟩
              have HK := Lib.hid hk
              have hc8 : wr.cell? ⟨g8, q, none⟩ = some (.int .i64 (k : Int)) := by
                have h := (Kd.R_cell (enc := Value.int .i64) 0 HR4.out (q : Int) hq0 hq1).1
                rw [Int.toNat_natCast] at h
                rw [h]
                unfold rdOf
                rw [Int.toNat_natCast, HPR.out, List.getD_eq_getElem?_getD, List.getElem?_map, HK.out]
                rfl
              clear hk
              have hkn := HF.out k (List.mem_of_getElem? HK.out)
              have HKN := Lib.hid hkn
              clear hkn
              obtain ⟨cc, hcc⟩ : ∃ cc, P.cnt (bfN l0) tk k n = cc := ⟨_, rfl⟩
              have HCC := Lib.hid hcc
              clear hcc
              have hFk : F k = some cc := by rw [HFD.out]; show (if k ∈ tk then none else some (P.cnt (bfN l0) tk k n)) = _; rw [if_neg HKN.out.2, HCC.out]
              have HFK := Lib.hid hFk
              clear hFk
              have hlk := HM4.out.look k cc (by have := HKN.out; have := HN4.out; omega) HKN.out.1 HFK.out
              have hk0 : (0 : Int) ≤ (k : Int) := Int.natCast_nonneg _
              have hk1 : (k : Int) < (n : Int) := by have := HKN.out.1; omega
              rcases Nat.eq_zero_or_pos cc with hz | hpz
              · subst hz
                have hkneg : decide ((k : Int) < 0) = false := decide_eq_false (by omega)
                have HNX := Lib.hid (next_found HLD.out HK.out HCC.out HNF.out)
                have HTL : Hid ((tk.map (fun i => ((i : Nat) : Int))).length ≤ 4096) := Lib.hid (by have := HN4.out; simp; omega)
                go_wp2_with (first
                  | ((with_reducible refine gate_builtin (b := .append) (xs := #[.tmp 64, .tmp 66]) rfl ?_); at_builtin; refine Kd.R_append (Kd.int .i64) (w0 := w) w.heap.size rfl (.tmp 64) (.tmp 66) 24 3 (.int .i64 0) 8 rfl Try.underlying24 info3 rfl (by decide) (by omega) u10 (tk.map (fun i => ((i : Nat) : Int))) (k : Int) [.int .i64 (k : Int)] (fun _ => True) (fun _ => False) rfl rfl ?aP (fun _ hk => hk.elim) ?aF ?aO ?aB ?aS ?aL ?_; (case aP => exact rfl); (case aF => exact (fun _ _ => trivial)); (case aO => exact HO4.out); (case aB => exact HB5.out); (case aS => exact HB5.out.size); (case aL => have := HTL.out; omega); intro v5 w5 ho5 hb5 hg5 hat5; have HO5 := Lib.hid ho5; have HB6 := Lib.hid hb5; have HM5 := Lib.hid (HM4.out.kept hg5 (fun e => by obtain ⟨cs, hcs⟩ := Kd.R_typed HO4.out bm e.symm; exact HM4.out.cells _ _ hcs)); clear ho5 hb5 hg5 hat5)
                  | (at_delete; refine wpl_del HM5.out k (by have := HKN.out; have := HN4.out; omega) HKN.out.1 rfl _ _ rfl rfl rfl ?_; intro w6 M6 hg6; have HM6 := Lib.hid M6; have HG6 := Lib.hid hg6; clear M6 hg6)
                  | (at_range; refine wpl_range HM6.out rfl _ rfl rfl ?_; intro w7 r7 hg7 hs7; have HR7 := Lib.hid r7; have HG7 := Lib.hid hg7; clear r7 hg7))
                go_frame
                obtain ⟨x, hx⟩ : ∃ x, rd_T31 l0 (k : Int) = x := ⟨_, rfl⟩
                have HX := Lib.hid hx
                have hcx := HC.out k HKN.out.1
                rw [hx] at hcx
                have HCX := Lib.hid hcx
                clear hx hcx hlk hc8
                obtain ⟨x0, x1, x2, x3⟩ := x
                have HB7 : Hid (Below w.heap.size w w7) := Lib.hid ((HB6.out.grown HG6.out HB6.out.size (fun i hi => by injection hi with hi; subst hi; exact HBM.out)).grown HG7.out (Nat.le_trans HB6.out.size HG6.out.size) (fun i hi => by cases hi))
                have HO7 : Hid (Kd.R (Kd.int .i64) 3 w7 w.heap.size (fun _ => True) v5 (tk.map (fun i => ((i : Nat) : Int)) ++ [(k : Int)])) := Lib.hid (Kd.R_grown (R_bmap HO5.out HM5.out.cells HG6.out) HG7.out (fun _ _ => by simp))
                have HIT : Hid (w.heap.size ≤ w6.heap.size) := Lib.hid (Nat.le_trans HB6.out.size HG6.out.size)
                have HSN := Lib.hid (fun j => P.cnt_snoc (bf := bfN l0) tk k j HKN.out.2 n)
                generalize w6.heap.size = it at *
                clear HG6 HG7 HM6 HM5 HO5 HB6 HO4 HB5 HM4 HR4
                go_loopg [14] (w7.rangeLeft bm it) (fun gg u14 wr => ∃ left : Nat → Bool, wr.rangeLeft bm it ≤ gg ∧ Aside0 (RangeAt wr bm it (n * 5000) n (remF (bfN l0) n tk k left) left) ∧ Aside0 (Kd.R (Kd.int .i64) 3 wr w.heap.size (fun _ => True) v5 (tk.map (fun i => ((i : Nat) : Int)) ++ [(k : Int)])) ∧ Aside0 (Below w.heap.size w wr))
                case atStart =>
                  refine ⟨_, Nat.le_refl _, ⟨RangeAt.congr HR7.out fun j hj => ?_⟩, ⟨HO7.out⟩, ⟨HB7.out⟩⟩
                  unfold remF
                  rw [HFD.out]
                  by_cases e : j = k
                  · simp [e]
                  · by_cases e2 : j ∈ tk
                    · simp [e2]
                    · simp [e, e2, hj]
                case round =>
                  clear HR7 HO7 HB7
                  obtain ⟨left, hgl, HR8, HO8, HB8⟩ := hrel
                  have HGL := Lib.hid hgl
                  clear hgl
                  go_wp2_with (first
                    | (at_next; refine wpl_next HR8.out (by have := HN4.out; omega) rfl _ rfl rfl ?_ ?_))
                  · intro hdone
                    have HDONE := Lib.hid hdone
                    clear hdone
                    go_wp2
                    go_roundg (n - (tk ++ [k]).length)
                    case measure => simp; omega
                    case rel =>
                      refine ⟨tk ++ [k], Nat.le_refl _, ⟨HO.out.add HNX.out⟩, ⟨?_⟩, ⟨HR8.out.map.congr fun j hj => ?_⟩, ⟨?_⟩, ⟨HB8.out⟩⟩
                      · rw [← HRUN.out]
                        obtain ⟨m, hm⟩ : ∃ m, n - tk.length = m + 1 := ⟨n - tk.length - 1, by omega⟩
                        rw [hm, run_next HNX.out]
                        congr 1
                        simp
                        omega
                      · unfold remF
                        rw [HDONE.out j hj]
                        simp
                      · rw [List.map_append]
                        exact HO8.out
                  · intro j y w8 hj hlj hfj r8 hlt8 hg8 hs8 hen
                    have HJN := Lib.hid hj
                    have HLJ := Lib.hid hlj
                    have HFJ := Lib.hid hfj
                    have HLT := Lib.hid hlt8
                    have HB9a : Hid (Below w.heap.size w w8) := Lib.hid (HB8.out.grown hg8 HB8.out.size (fun i hi => by injection hi with hi; subst hi; exact HIT.out))
                    have HO9 : Hid (Kd.R (Kd.int .i64) 3 w8 w.heap.size (fun _ => True) v5 (tk.map (fun i => ((i : Nat) : Int)) ++ [(k : Int)])) := Lib.hid (R_bmap HO8.out HR8.out.iter hg8)
                    clear HR8 HO8 HB8 hj hlj hfj hlt8 hg8 hs8
                    have HR8 := Lib.hid r8
                    clear r8
                    have hj0 : (0 : Int) ≤ (j : Int) := Int.natCast_nonneg _
                    have hj1 : (j : Int) < (n : Int) := by have := HJN.out; omega
                    obtain ⟨z, hz⟩ : ∃ z, rd_T31 l0 (j : Int) = z := ⟨_, rfl⟩
                    have HZ := Lib.hid hz
                    have hcy := (HC.out j HJN.out).below HB9a.out HG.out
                    rw [hz] at hcy
                    clear hz
                    obtain ⟨y0, y1, y2, y3⟩ := z
                    obtain ⟨hy0, hy1, hy2, hy3⟩ := hcy
                    obtain ⟨hx0, hx1, hx2, hx3⟩ := HCX.out.below HB9a.out HG.out
                    have hgw : Hid (g < w8.heap.size) := Lib.hid (Nat.lt_of_lt_of_le HG.out HB9a.out.size)
                    have HJT : Hid (j ∉ tk ++ [k] ∧ y = P.cnt (bfN l0) tk j n) := Lib.hid (by
                      have h1 := HFJ.out
                      unfold remF at h1
                      rw [HLJ.out] at h1
                      by_cases e : j ∈ tk ++ [k]
                      · rw [if_pos e] at h1; cases h1
                      · rw [if_neg e] at h1
                        exact ⟨e, (Option.some.inj ((congrArg some (if_pos rfl)).symm.trans h1)).symm⟩)
                    have HCJ : Hid (P.cnt (bfN l0) (tk ++ [k]) j n + (if bfB ⟨x0, x1, x2, x3⟩ ⟨y0, y1, y2, y3⟩ = true then 1 else 0) = y) := Lib.hid (by
                      have h1 := HSN.out j
                      unfold bfN at h1
                      rw [HX.out, HZ.out] at h1
                      have h2 := HKN.out.1
                      rw [HJT.out.2]
                      unfold bfN
                      rw [← h1]
                      congr 1
                      by_cases e : bfB ⟨x0, x1, x2, x3⟩ ⟨y0, y1, y2, y3⟩ = true
                      · rw [if_pos e, if_pos ⟨h2, e⟩]
                      · rw [if_neg e, if_neg (fun h => e h.2)])
                    have hy9 : Hid (y ≤ n) := Lib.hid (by rw [HJT.out.2]; exact P.cnt_le _ _ _)
                    have hyy0 : (0 : Int) ≤ (y : Int) := Int.natCast_nonneg _
                    have hyy1 : (y : Int) ≤ 4096 := by have := hy9.out; have := HN4.out; omega
                    go_wp2_with fail
                    refine start_ (n := 9) (S := fun w' => w'.cell? ⟨g, o + k * 4, none⟩ = some (.int .i64 x0) ∧ w'.cell? ⟨g, o + k * 4 + 1, none⟩ = some (.int .i64 x1) ∧ w'.cell? ⟨g, o + k * 4 + 2, none⟩ = some (.int .i64 x2) ∧ w'.cell? ⟨g, o + k * 4 + 3, none⟩ = some (.int .i64 x3) ∧ w'.cell? ⟨g, o + j * 4, none⟩ = some (.int .i64 y0) ∧ w'.cell? ⟨g, o + j * 4 + 1, none⟩ = some (.int .i64 y1) ∧ w'.cell? ⟨g, o + j * 4 + 2, none⟩ = some (.int .i64 y2) ∧ w'.cell? ⟨g, o + j * 4 + 3, none⟩ = some (.int .i64 y3)) (ds := []) #[false, false, false, false, false, false, false, false, false] (by kernel_rfl) rfl rfl ⟨hx0, hx1, hx2, hx3, hy0, hy1, hy2, hy3⟩ (fun hHeld => ?_)
                    refine pure_ (i := 0) (N := some 76) (v := ?_) (a' := ?_) #[true, false, false, false, false, false, false, false, false] rfl rfl (by kernel_rfl) (fun _ _ _ h => h) (Or.inl ⟨by rfl, ?_⟩) ?_ ?_
                    rotate_left
                    · intro w'
                      go_simp
                      with_reducible rfl
                    rotate_left
                    · simp only [Act.put, List.setIfInBounds_toArray, List.set_cons_zero, List.set_cons_succ, i64_w, i32_w]
                      rfl
                    refine pure_ (i := 1) (N := some 77) (v := ?_) (a' := ?_) #[true, true, false, false, false, false, false, false, false] rfl rfl (by kernel_rfl) (fun _ _ _ h => h) (Or.inl ⟨by rfl, ?_⟩) ?_ ?_
                    rotate_left
                    · intro w'
                      go_simp
                      with_reducible rfl
                    rotate_left
                    · simp only [Act.put, List.setIfInBounds_toArray, List.set_cons_zero, List.set_cons_succ, i64_w, i32_w]
                      rfl
                    refine pure_ (i := 2) (N := some 78) (v := ?_) (a' := ?_) #[true, true, true, false, false, false, false, false, false] rfl rfl (by kernel_rfl) (fun _ _ _ h => h) (Or.inl ⟨by rfl, ?_⟩) ?_ ?_
                    rotate_left
                    · intro w'
                      go_simp
                      with_reducible rfl
                    rotate_left
                    · simp only [Act.put, List.setIfInBounds_toArray, List.set_cons_zero, List.set_cons_succ, i64_w, i32_w]
                      rfl
                    refine pure_ (i := 4) (N := some 80) (v := ?_) (a' := ?_) #[true, true, true, false, true, false, false, false, false] rfl rfl (by kernel_rfl) (fun _ _ _ h => h) (Or.inl ⟨by rfl, ?_⟩) ?_ ?_
                    rotate_left
                    · intro w'
                      go_simp
                      with_reducible rfl
                    rotate_left
                    · simp only [Act.put, List.setIfInBounds_toArray, List.set_cons_zero, List.set_cons_succ, i64_w, i32_w]
                      rfl
                    refine pure_ (i := 5) (N := some 81) (v := ?_) (a' := ?_) #[true, true, true, false, true, true, false, false, false] rfl rfl (by kernel_rfl) (fun _ _ _ h => h) (Or.inl ⟨by rfl, ?_⟩) ?_ ?_
                    rotate_left
                    · intro w'
                      go_simp
                      with_reducible rfl
                    rotate_left
                    · simp only [Act.put, List.setIfInBounds_toArray, List.set_cons_zero, List.set_cons_succ, i64_w, i32_w]
                      rfl
                    refine pure_ (i := 6) (N := some 82) (v := ?_) (a' := ?_) #[true, true, true, false, true, true, true, false, false] rfl rfl (by kernel_rfl) (fun _ _ _ h => h) (Or.inl ⟨by rfl, ?_⟩) ?_ ?_
                    rotate_left
                    · intro w'
                      go_simp
                      with_reducible rfl
                    rotate_left
                    · simp only [Act.put, List.setIfInBounds_toArray, List.set_cons_zero, List.set_cons_succ, i64_w, i32_w]
                      rfl
                    refine take_ (i := 3) (N := some 79) (v := ?_) (a' := ?_) #[true, true, true, true, true, true, true, false, false] rfl rfl (by kernel_rfl) (fun _ _ _ h => h) (Or.inl ⟨by rfl, ?_⟩) hHeld ?_ ?_
                    rotate_left
                    · rintro w' ⟨s0, s1, s2, s3, s4, s5, s6, s7⟩
                      go_simp
                      with_reducible rfl
                    rotate_left
                    · simp only [Act.put, List.setIfInBounds_toArray, List.set_cons_zero, List.set_cons_succ, i64_w, i32_w]
                      rfl
                    refine take_ (i := 7) (N := some 83) (v := ?_) (a' := ?_) #[true, true, true, true, true, true, true, true, false] rfl rfl (by kernel_rfl) (fun _ _ _ h => h) (Or.inl ⟨by rfl, ?_⟩) hHeld ?_ ?_
                    rotate_left
                    · rintro w' ⟨s0, s1, s2, s3, s4, s5, s6, s7⟩
                      go_simp
                      with_reducible rfl
                    rotate_left
                    · simp only [Act.put, List.setIfInBounds_toArray, List.set_cons_zero, List.set_cons_succ, i64_w, i32_w]
                      rfl
                    refine one_ (i := 8) (N := some 84) #[true, true, true, true, true, true, true, true, true] rfl rfl (by kernel_rfl) (by decide) (fun K hK => ?_)
                    refine goes_ Try.func27 (by kernel_rfl) rfl #[.agg #[.int .i64 x0, .int .i64 x1, .int .i64 x2, .int .i64 x3], .agg #[.int .i64 y0, .int .i64 y1, .int .i64 y2, .int .i64 y3]] (by rfl) rfl rfl (by simp only [List.map_toArray, List.map_cons, List.map_nil]; rfl) ?_
                    with_reducible refine (before_any _ _ _ _ _ _ _ _ _).mono ?_
                    rintro e w9 ⟨rfl, hb9⟩
                    refine ⟨_, rfl, ?_⟩
                    have HB9 := Lib.hid hb9
                    have HR9 := Lib.hid (RangeAt.below' (w := w8.drew) HR8.out hb9)
                    have hlk9 := (HR9.out.1.map).look j y (by have := HJN.out; have := HN4.out; omega) HJN.out HFJ.out
                    refine hK.out _ _ ⟨(hb9.cell (p := ⟨g, _, none⟩) hgw.out).trans hx0, (hb9.cell (p := ⟨g, _, none⟩) hgw.out).trans hx1, (hb9.cell (p := ⟨g, _, none⟩) hgw.out).trans hx2, (hb9.cell (p := ⟨g, _, none⟩) hgw.out).trans hx3, (hb9.cell (p := ⟨g, _, none⟩) hgw.out).trans hy0, (hb9.cell (p := ⟨g, _, none⟩) hgw.out).trans hy1, (hb9.cell (p := ⟨g, _, none⟩) hgw.out).trans hy2, (hb9.cell (p := ⟨g, _, none⟩) hgw.out).trans hy3⟩ (fun hHeld => ?_)
                    clear hK K
                    refine norm_ (a' := ?_) ?_ ?_
                    rotate_left
                    · show Act.put _ (some 84) _ = _
                      simp only [Act.put, List.setIfInBounds_toArray, List.set_cons_zero, List.set_cons_succ, i64_w, i32_w]
                      rfl
                    refine done_ (by kernel_rfl) ?_
                    have HB10 : Hid (Below w.heap.size w w9) := Lib.hid (below_then HB9a.out HB9a.out.size (below_drew0 HB9.out))
                    have HO10 : Hid (Kd.R (Kd.int .i64) 3 w9 w.heap.size (fun _ => True) v5 (tk.map (fun i => ((i : Nat) : Int)) ++ [(k : Int)])) := Lib.hid (Kd.R_below HO9.out (below_drew0 HB9.out))
                    have HLQ : Hid (w9.rangeLeft bm it < wr.rangeLeft bm it) := Lib.hid (by have h1 := HR9.out.2; have h2 := HLT.out; rw [h1]; exact h2)
                    have HR10 := Lib.hid HR9.out.1
                    clear HR9 HR8 HO9 HB9 HB9a HLT hHeld hen hx0 hx1 hx2 hx3 hy0 hy1 hy2 hy3
                    cases hb : bfB ⟨x0, x1, x2, x3⟩ ⟨y0, y1, y2, y3⟩ with
                    | true =>
                      have hcj := HCJ.out
                      rw [if_pos hb] at hcj
                      have HCJ2 := Lib.hid hcj
                      clear hcj
                      go_wp2_with (first
                        | (at_mapUpdate; refine wpl_rput HR10.out (by have := HN4.out; omega) j (P.cnt (bfN l0) (tk ++ [k]) j n) (by have := HJN.out; have := HN4.out; omega) (by have := HCJ2.out; have := hy9.out; have := HN4.out; omega) HJN.out (by rw [HFJ.out]; rfl) rfl _ _ _ rfl rfl rfl (show Value.int .i64 ((y : Int) - 1) = _ from by have := HCJ2.out; congr 1; omega) ?_; intro w11 r11 hl11 hg11; have HR11 := Lib.hid r11; have HG11 := Lib.hid hg11; have HL11 := Lib.hid hl11; clear r11 hg11 hl11))
                      go_roundg (w9.rangeLeft bm it)
                      case measure => have := HLQ.out; have := HGL.out; omega
                      case rel =>
                        refine ⟨_, by rw [HL11.out]; exact Nat.le_refl _, ⟨RangeAt.congr HR11.out fun i hi => ?_⟩, ⟨R_bmap HO10.out HR10.out.map.cells HG11.out⟩, ⟨HB10.out.grown HG11.out HB10.out.size (fun i hi => by injection hi with hi; subst hi; exact HBM.out)⟩⟩
                        by_cases e : i = j
                        · subst e
                          unfold remF
                          rw [if_neg HJT.out.1, if_pos rfl]
                          simp
                        · unfold remF
                          simp [e]
                    | false =>
                      have hcj := HCJ.out
                      rw [hb, if_neg (by decide)] at hcj
                      have HCJ2 := Lib.hid hcj
                      clear hcj
                      go_wp2
                      go_roundg (w9.rangeLeft bm it)
                      case measure => have := HLQ.out; have := HGL.out; omega
                      case rel =>
                        refine ⟨_, Nat.le_refl _, ⟨RangeAt.congr HR10.out fun i hi => ?_⟩, ⟨HO10.out⟩, ⟨HB10.out⟩⟩
                        by_cases e : i = j
                        · subst e
                          unfold remF
                          rw [if_neg HJT.out.1, if_neg HJT.out.1, HLJ.out]
                          have h1 := HCJ2.out
                          have h2 := HJT.out.2
                          simp
                          omega
                        · unfold remF
                          simp [e]
              · have hne : ((cc : Int) == 0) = false := by simp; omega
                go_wp2
                go_roundg (pr.length - (q + 1))
                case measure => omega
                case rel =>
                  refine ⟨q + 1, rfl, rfl, by omega, Nat.le_refl _, ⟨rfl⟩, ⟨fun p hp j hj => ?_⟩⟩
                  by_cases e : p = q
                  · subst e
                    rw [HK.out] at hj
                    have e2 := Option.some.inj hj
                    subst e2
                    rw [HCC.out]
                    omega
                  · exact HNF.out p (by omega) j hj
            · have hq1 : ¬ (q : Int) < (pr.length : Int) := by omega
              have HNN := Lib.hid (next_none HLD.out (fun p hp j hj => HNF.out p (by have := HPL.out; omega) j hj))
              have HSF : Hid (P.sortF n (bfN l0) = none) := Lib.hid (by
                rw [← HRUN.out]
                obtain ⟨m, hm⟩ : ∃ m, n - tk.length = m + 1 := ⟨n - tk.length - 1, by omega⟩
                rw [hm, run_none HNN.out])
              go_wp2
              go_ret2
              rw [HSF.out]
              exact ⟨_, rfl, Kd.R_nil _ _ _ _ _, HB5.out⟩
        · have hz : pr.length = 0 := by have := HSZ.out; omega
          have hpos : ¬ (0 : Int) < (pr.length : Int) := by omega
          have HSF : Hid (P.sortF n (bfN l0) = some tk) := Lib.hid (by
            rw [← HRUN.out]
            have e : n - tk.length = 0 := by omega
            rw [e, P.run])
          clear hz
          go_wp2_with (first
            | (at_len; refine wpl_len HM.out rfl _ rfl rfl ?_; rw [HPD.out]))
          go_ret2
          rw [HSF.out]
          exact ⟨_, rfl, HR.out, HB.out⟩
theorem sortR.calls (A0 : Option Addr) (c0 : Nat) (l0 : List S31) (r1 : List Int) (r2 : Int) (w : World) (hr0 : Kd.C k31 w A0 l0.length l0) (hc0 : l0.length ≤ c0) (h : sortR.f l0 = some (r1, r2)) :
    Calls Try.prog 11 #[.slice A0 l0.length c0] w fun e w' => ∃ v0_ : Value, e = .returned (.tuple #[v0_, .int .i64 r2]) ∧ Kd.R (Kd.int .i64) 3 w' w.heap.size (fun _ => True) v0_ r1 ∧ Below w.heap.size w w' := by
  unfold sortR.f at h
  cases he : check.f l0 0 with
  | none => rw [he] at h; cases h
  | some e =>
    rw [he, Option.bind_some] at h
    have hchk := check.calls A0 c0 l0 0 e w hr0 hc0 he
    by_cases h0 : e = 0
    · subst h0
      rw [if_pos rfl] at h
      have hn : l0.length ≤ 4096 := by
        unfold check.f at he
        by_cases q : 4096 < l0.length
        · rw [if_pos q] at he; cases he
        · omega
      injection h with h
      injection h with h1 h2
      subst h1 h2
      rcases Nat.eq_zero_or_pos l0.length with hz | hp
      · have hx0 : l0 = [] := List.length_eq_zero_iff.1 hz
        subst hx0
        have hmm := @run_makeMap Try.prog
        go_enter Try.func11, Try.ntmps11
        go_wp2_with (first
          | (go_at_call 26; refine hchk.mono ?_; rintro e w1 ⟨rfl, hb⟩; have HB1 := Lib.hid hb; clear hb))
        clear hmm hchk
        have HB2 : Hid (Below w.heap.size w (w1.alloc (.map #[] 0))) := Lib.hid (HB1.out.alloc HB1.out.size _)
        have HM2 : Hid (MapN (w1.alloc (.map #[] 0)) w1.heap.size 0 0 (fun _ => none)) := Lib.hid (MapN.made w1 _)
        have HPD : Hid (present 0 (fun _ => none) = []) := Lib.hid rfl
        refine wp_loop_rounds 1 ?_
        rw [rounds_succ]
        go_wp2
        refine wp_loop_rounds 1 ?_
        rw [rounds_succ]
        go_wp2_with (first
            | (at_len; refine wpl_len HM2.out rfl _ rfl rfl ?_; rw [HPD.out]))
        go_ret2
        exact ⟨_, rfl, Kd.R_nil _ _ _ _ _, HB2.out⟩
      · obtain ⟨ad, c, e0, _⟩ := Kd.C_get hr0 z31 0 (Int.le_refl _) (by omega)
        subst e0
        obtain ⟨h1, h2, h3⟩ := C31_cells hr0 hp
        rw [h2] at hchk ⊢
        refine sort_walk ad.block ad.off c0 l0 w (fun j hj => ?_) h1 hn hchk
        rw [rd_T31_nat']
        exact ⟨h3 j hj 0 _ rfl, h3 j hj 1 _ rfl, h3 j hj 2 _ rfl, h3 j hj 3 _ rfl⟩
    · rw [if_neg h0] at h
      injection h with h
      injection h with h1 h2
      subst h1 h2
      have hne : (e == 0) = false := by simpa using h0
      have hne2 : (e != 0) = true := by simpa using h0
      clear h0
      go_enter Try.func11, Try.ntmps11
      go_wp2_with (first
        | (go_at_call 26; refine hchk.mono ?_; rintro e' w1 ⟨rfl, hb⟩; have HB1 := Lib.hid hb; clear hb))
      go_ret2
      exact ⟨_, rfl, Kd.R_nil _ _ _ _ _, HB1.out⟩
end Go.Proofs.Ytdkiembkigadkaa.M
