/- components.numbered gives the components their numbers. -/
import Derived.Test.YtahibhipffojlaaNumP
import Derived.Test.YtahibhipffojlaaSort
import Derived.Maps.RangeWalk
import Derived.Outline
set_option linter.unusedSimpArgs false
set_option linter.unusedVariables false
namespace Go.Proofs.Ytahibhipffojlaa.Num
open Go.RowKit Go.Maps Go.Proofs.YtahibhipffojlaaW.PrintLast Go.Proofs.YtahibhipffojlaaW.PrintWords Go.Proofs.YtahibhipffojlaaW.PrintMore Go.Proofs.Ytahibhipffojlaa.Walk Go.Proofs.Ytahibhipffojlaa.M Go.Proofs.Ytahibhipffojlaa.Uf Go.Proofs.Ytahibhipffojlaa.Find Go.Proofs.Ytahibhipffojlaa.Map Go.Proofs.Ytahibhipffojlaa.Unite

def intV : Value → Int
  | .int _ z => z
  | _ => 0
theorem step_i {i : Nat} (h : i < 1000000000) : wrap64 ((i : Int) + 1) = ((i + 1 : Nat) : Int) := by
  unfold wrap64
  omega
theorem meas_i {i n : Nat} (h : i < n) : n - (intV (.int .i64 ((i + 1 : Nat) : Int))).toNat < n - (intV (.int .i64 (i : Int))).toNat := by
  show n - ((i + 1 : Nat) : Int).toNat < n - (i : Int).toNat
  omega
theorem ranges_iter {w : World} {b r n cnt : Nat} {D : D1} {left : Lit → Bool} (hr : w.ranges Try.prog 3 blobR b r n D left cnt) (cs : Array Value) (t : TypeId) : w.heap[r]? ≠ some (.cells cs t (0, 0)) := by
  obtain ⟨es, clock, since, seen, c0, h1, h2, h3, h4, h5, _⟩ := hr
  rw [h5]
  intro e
  cases e
theorem ranges_map {w : World} {b r n cnt : Nat} {D : D1} {left : Lit → Bool} (hr : w.ranges Try.prog 3 blobR b r n D left cnt) (cs : Array Value) (t : TypeId) : w.heap[b]? ≠ some (.cells cs t (0, 0)) := by
  obtain ⟨es, clock, since, seen, c0, h1, _⟩ := hr
  rw [h1]
  intro e
  cases e
theorem ownsMap_cells {R : Value → Option (D1 × List MemPlace)} {w : World} {b n : Nat} {D : D1} (h : w.ownsMap Try.prog 3 R b n D) (cs : Array Value) (t : TypeId) : w.heap[b]? ≠ some (.cells cs t (0, 0)) := by
  obtain ⟨es, clock, h1, _⟩ := h
  rw [h1]
  intro e
  cases e
theorem R_own_ne {α : Type} {d : Kd α} {e base : Nat} {ok : Nat → Prop} {w : World} {v : Value} {xs : List α} {b : Nat} (h : Kd.R d e w base ok v xs) (hb : ∀ cs t, w.heap[b]? ≠ some (.cells cs t (0, 0))) : some b ≠ v.ownBlock := by
  intro e
  obtain ⟨cells, hc⟩ := Kd.R_typed h b e.symm
  exact hb _ _ hc
theorem R_bmap {α : Type} {d : Kd α} {e base : Nat} {w w1 : World} {v : Value} {xs : List α} {b : Nat} (h : Kd.R d e w base (fun _ => True) v xs) (hb : ∀ cs t, w.heap[b]? ≠ some (.cells cs t (0, 0))) (hg : w.grownBy w1 (some b)) : Kd.R d e w1 base (fun _ => True) v xs :=
  Kd.R_mono (Kd.R_grown (Kd.R_bound h) hg (fun k hk => by
    rintro e
    injection e with e
    subst e
    obtain ⟨_, _, _, q, _, cells, hc⟩ := hk
    exact hb _ _ hc)) (fun _ _ => trivial)
theorem R_iter {α : Type} {d : Kd α} {e base : Nat} {w w1 : World} {v : Value} {xs : List α} {b r n cnt : Nat} {D : D1} {left : Lit → Bool} (h : Kd.R d e w base (fun _ => True) v xs) (hr : w.ranges Try.prog 3 blobR b r n D left cnt) (hg : w.grownBy w1 (some r)) : Kd.R d e w1 base (fun _ => True) v xs :=
  R_bmap h (ranges_iter hr) hg

theorem R_old {α : Type} {d : Kd α} {e base g : Nat} {w w1 : World} {v : Value} {xs : List α} (h : Kd.R d e w base (fun _ => True) v xs) (hg : w.grownBy w1 (some g)) (hb : g < base) : Kd.R d e w1 base (fun _ => True) v xs :=
  Kd.R_mono (Kd.R_grown (Kd.R_bound h) hg (fun k hk => by
    rintro e
    injection e with e
    have := hk.2.1
    omega)) (fun _ _ => trivial)
theorem num_look {w : World} {bn : Nat} {r : List Int} (h : w.ownsMap Try.prog 3 (plainElem Try.prog 3) bn r.length (numD r r.length)) (hnd : r.Nodup) (j : Nat) (hj : j < r.length) (k : Nat) (hk : k ≤ 1000000000) (hx : r.getD j 0 = k) :
    (Instr.lookup 76 (.map (some bn)) (.int .i64 (k : Int)) false).run Try.prog w = .ok (.int .i64 (j : Int)) w := by
  obtain ⟨c, hrun, hc, _⟩ := h.lookup_int law3 Try.underlying76 Try.underlying3 (Try.zeroValue3 w) (keyOf3 k hk)
  have h1 := numD_at r hnd r.length (Nat.le_refl _) j hj (.lit (.int .i64 0))
  rw [hx] at h1
  have h2 : (DataW.lit (.int .i64 (j : Int)) : D1) = .lit (.int .i64 c) := h1.symm.trans hc
  injection h2 with h2
  injection h2 with _ h2
  rw [h2]
  exact hrun
theorem vals_step (ls : List Int) (f : Int → Int) (i : Nat) (hi : i < ls.length) (j : Int) {l : Int} (hl : ls[i]? = some l) (hf : f l = j) :
    vals ((ls.take (i + 1)).map f ++ ls.drop (i + 1)) = (vals ((ls.take i).map f ++ ls.drop i)).set i (.int .i64 j) := by
  subst hf
  rw [vals_set]
  congr 1
  have h1 : ls.drop i = l :: ls.drop (i + 1) := by
    rw [List.drop_eq_getElem_cons hi]
    rw [List.getElem?_eq_getElem hi] at hl
    injection hl with hl
    rw [hl]
  rw [h1, List.take_add_one, hl, List.set_append_right _ _ (by simp; omega)]
  simp [show i - min i ls.length = 0 by omega]
theorem vals_keep (ls : List Int) (f : Int → Int) (i : Nat) (hi : i < ls.length) (l : Int) (hl : ls[i]? = some l) (hf : f l = l) :
    vals ((ls.take (i + 1)).map f ++ ls.drop (i + 1)) = vals ((ls.take i).map f ++ ls.drop i) := by
  congr 1
  have h1 : ls.drop i = l :: ls.drop (i + 1) := by
    rw [List.drop_eq_getElem_cons hi]
    rw [List.getElem?_eq_getElem hi] at hl
    injection hl with hl
    rw [hl]
  rw [h1, List.take_add_one, hl]
  simp [hf]
theorem _root_.Go.Proofs.Ytahibhipffojlaa.Unite.Luw.stored_ {base : Nat} {w w' : World} {bp bf bb bm g n cap c gl : Nat} {p rt : List Int} {M : List (Option S38)} {cs : Array Value} (L : Luw base w bp bf bb bm g n cap c p rt M) (hcs : w.heap[gl]? = some (.cells cs 3 (0, 0))) (hne : gl ≠ g) (hg : w.grownBy w' (some gl)) :
    Luw base w' bp bf bb bm g n cap c p rt M := by
  have hx : ∀ {b : Nat} {cs' : Array Value} {t : TypeId}, w.heap[b]? = some (.cells cs' t (0, 0)) → t ≠ 3 → some b ≠ some gl := by
    intro b cs' t h ht e
    injection e with e
    subst e
    rw [hcs] at h
    injection h with h
    injection h with _ h
    exact ht h.symm
  have hm : some bm ≠ some gl := fun e => L.m.isCells hcs (by injection e)
  exact L.kept_ hg (hx L.U.hp (by decide)) (hx L.U.hf (by decide)) (hx L.hb (by decide)) (fun e => hne (by injection e with e; exact e.symm)) (L.m.kept hg hm) L.ml

set_option maxRecDepth 100000 in
set_option maxHeartbeats 1000000 in
theorem numbered_any (base : Nat) (w : World) (bp bf bb bm g n cap c gl m capl : Nat) (rt : List Int) (M : List (Option S38)) (ls : List Int) (hc9 : c ≤ 1000000000) (hn9 : n ≤ 1000000000)
    (L : 0 < n → ∃ p, Luw base w bp bf bb bm g n cap c p rt M) (Lm : MapAt w bm c M) (ml : M.length = n) (HL : w.ownsRow base 3 1 (.slice (some ⟨gl, 0, none⟩) m capl) m (vals ls)) (hm : ls.length = m) (hm9 : m ≤ 900000000) (hne : gl ≠ g)
    (hin : ∀ l ∈ ls, 0 ≤ l → l < n ∧ (M.getD (rt.getD l.toNat 0).toNat none).isSome = true) :
    Calls Try.prog 50 #[.slice (some ⟨gl, 0, none⟩) m capl, .map (some bm), .func (.func 46) #[] #[.pointer (some ⟨bp, 0, none⟩), .pointer (some ⟨bf, 0, none⟩)]] w fun e w' =>
      ∃ v : Value, e = .returned (.tuple #[.slice (some ⟨gl, 0, none⟩) m capl, v]) ∧ w'.ownsRow base 3 1 (.slice (some ⟨gl, 0, none⟩) m capl) m (vals (ls.map (renum M rt))) ∧
        Kd.R k38 38 w' w.heap.size (fun _ => True) v (outs M) ∧ Chg w w' (fun i => i = g ∨ i = gl) := by
  obtain ⟨D, nD, hnD, hown, hrel⟩ : ∃ D nD, nD ≤ c ∧ w.ownsMap Try.prog 3 blobR bm nD D ∧ MRel M D := by
    obtain ⟨nD, D, h1, h2, h3⟩ := Lm
    exact ⟨D, nD, h1, h2, h3⟩
  have hbm := hown.lt
  have HLu := Lib.hid L
  have HLm := Lib.hid Lm
  have HLr := Lib.hid HL
  have HIN := Lib.hid hin
  have HOWN := Lib.hid hown
  have HREL := Lib.hid hrel
  have HGB : Hid (0 < n → g < w.heap.size) := Lib.hid (fun hn => by obtain ⟨p, L⟩ := HLu.out hn; obtain ⟨cs, h⟩ := L.gcells; exact blk_lt h)
  have HGLB : Hid (gl < w.heap.size) := Lib.hid (by obtain ⟨cs, h⟩ := own_typed HLr.out gl rfl; exact blk_lt h)
  have HSD : Hid (Maps.size D ≤ 3000000000) := Lib.hid (by have := HOWN.out.size_le; omega)
  clear L Lm HL hin hown hrel
  go_enter Try.func50, Try.ntmps50
  go_wp2_with (first
    | (at_range; refine wpList_range_own _ rfl _ 66 rfl 3 38 law3 Try.underlying66 _ bm nD _ rfl HOWN.out ?_; intro w0 hrg0 hg0 hs0))
  go_frame
  go_loopw [8] (fun u8 wr => ∃ (left : Lit → Bool) (cnt : Nat) (ss : List Int), wr.ranges Try.prog 3 blobR bm w.heap.size nD D left cnt ∧ Coll M left ss ∧ Kd.R (Kd.int .i64) 3 wr w.heap.size (fun _ => True) u8 ss ∧ Below w.heap.size w wr ∧ w.heap.size < wr.heap.size ∧ ss.length + cnt ≤ Maps.size D)
    (fun _ wr => wr.rangeLeft bm w.heap.size)
  case atStart =>
    exact ⟨_, _, [], hrg0, Coll.start HREL.out, Kd.R_nil _ _ _ _ _, (Below.refl _ _).grown hg0 (by simp) (fun j hj => by cases hj), by omega, by simp⟩
  case round =>
    obtain ⟨left, cnt, ss, hrg, hC, hR, hB, hsz, hcl⟩ := hrel
    have HC := Lib.hid hC
    have HR := Lib.hid hR
    have HB := Lib.hid hB
    have HSZ := Lib.hid hsz
    have HCL := Lib.hid hcl
    clear hC hR hB hsz hcl
    go_wp2_with (first
      | (at_next; refine wpList_next_ranges _ rfl _ rfl 3 law3 blobR (Value.int .i64) bval (fun key kl hk => by obtain ⟨x, hx, _⟩ := Maps.keyOf_int_inv Try.underlying3 hk; exact ⟨x, hx⟩) (fun v y hv => by obtain ⟨b, e, _⟩ := blobR_inv hv; exact ⟨b, e⟩) bm w.heap.size nD _ _ _ rfl hrg ?_ ?_))
    · intro hc0 hl0
      go_wp2_with fail
      refine (sort_own HR.out (by have := HCL.out; have := HSD.out; omega)).mono ?_
      rintro e w4 ⟨rfl, hR4, hg4⟩
      rw [HC.out.sorted hl0] at hR4
      generalize hr : present M = r at *
      have HRN : Hid (r.length ≤ 1000000000) := Lib.hid (by have h1 := present_length (M := M); rw [hr] at h1; omega)
      have HRV := Lib.hid hr
      obtain ⟨A8, c8, e8⟩ := Kd.R_slice hR4
      subst e8
      have HR4 := Lib.hid hR4
      have HB4 := Lib.hid (HB.out.grown hg4 (Nat.le_of_lt HSZ.out) (fun j hj => Kd.R_base HR.out j hj))
      have HZ4 := Lib.hid (Nat.lt_of_lt_of_le HSZ.out hg4.size)
      clear hR4 hg4 hr
      have hmm := @run_makeMap Try.prog
      go_wp2_with fail
      clear hmm
      have HR5 := Lib.hid (Kd.R_alloc HR4.out (.map #[] 0))
      have HB5 := Lib.hid (HB4.out.alloc (Nat.le_of_lt HZ4.out) (.map #[] 0))
      have HN5 := Lib.hid (World.ownsMap_made (H := Unit) w4 Try.prog 3 (plainElem Try.prog 3))
      have HZ5 : Hid (w.heap.size < (w4.alloc (.map #[] 0)).heap.size) := Lib.hid (by have := HZ4.out; simp; omega)
      have HZ6 : Hid (w.heap.size < w4.heap.size) := HZ4
      generalize w4.heap.size = bn at *
      generalize (w4.alloc (.map #[] 0)) = w5 at *
      go_loopw [31, 11] (fun u31 u11 wr => ∃ i : Nat, u31 = .int .i64 (i : Int) ∧ i ≤ r.length ∧ wr.ownsMap Try.prog 3 (plainElem Try.prog 3) bn i (numD r i) ∧ Kd.R k38 38 wr w.heap.size (fun _ => True) u11 ((r.take i).map fun k => (M.getD k.toNat none).getD z38) ∧
          Kd.R (Kd.int .i64) 3 wr w.heap.size (fun _ => True) (.slice A8 r.length c8) r ∧ Below w.heap.size w wr ∧ w.heap.size < wr.heap.size) (fun u31 _ _ => r.length - (intV u31).toNat)
      case atStart =>
        exact ⟨0, rfl, Nat.zero_le _, HN5.out, Kd.R_nil _ _ _ _ _, HR5.out, HB5.out, HZ5.out⟩
      case round =>
        obtain ⟨i, rfl, hir, hN, hO, hR, hB, hZ⟩ := hrel
        have HN := Lib.hid hN
        have HO := Lib.hid hO
        have HR := Lib.hid hR
        have HB := Lib.hid hB
        have HZ := Lib.hid hZ
        clear hN hO hR hB hZ
        rcases Nat.lt_or_ge i r.length with hlt | hge
        · have hlt' : (i : Int) < (r.length : Int) := by omega
          have hi0 : (0 : Int) ≤ (i : Int) := Int.natCast_nonneg _
          obtain ⟨g8, cap8, e8, _, _, _⟩ := Kd.R_form HR.out (by omega)
          have e8' : A8 = some ⟨g8, 0, none⟩ := by injection e8
          subst e8'
          obtain ⟨x, hx⟩ : ∃ x, r.getD i 0 = x := ⟨_, rfl⟩
          have hc8 : wr.cell? ⟨g8, i, none⟩ = some (.int .i64 x) := by
            have h := (Kd.R_cell (enc := Value.int .i64) 0 HR.out (i : Int) hi0 hlt').1
            rw [Int.toNat_natCast] at h
            rw [h, ← hx]
            unfold rdOf
            rw [Int.toNat_natCast]
          have HX := Lib.hid hx
          clear hx e8
          have hxm : x ∈ r := by rw [← HX.out, List.getD_eq_getElem?_getD, List.getElem?_eq_getElem hlt]; exact List.getElem_mem hlt
          obtain ⟨k, hk, hks⟩ := mem_present.1 (HRV.out ▸ hxm)
          have hkM : k < M.length := by
            rcases Nat.lt_or_ge k M.length with h | h
            · exact h
            · rw [List.getD_eq_getElem?_getD, List.getElem?_eq_none h] at hks
              cases hks
          have hkn : Hid (k ≤ 1000000000) := Lib.hid (by omega)
          obtain ⟨b, hb⟩ := Option.isSome_iff_exists.1 hks
          have HBK := Lib.hid hb
          subst hk
          clear hb hks hxm
          have hin9 : Hid (i < 1000000000) := Lib.hid (by have := HRN.out; omega)
          go_wp2_with (first | (at_mapUpdate; refine wpList_mapUpdate_own _ rfl _ _ _ 76 rfl 3 3 law3 Try.underlying76 _ bn i _ rfl HN.out (by have := hin9.out; unfold maxLen; omega) _ _ _ rfl rfl (keyOf3 k hkn.out) _ [] (plainElem_int Try.underlying3 (WalkArith.wf_i64 (by have := hin9.out; omega))) ?_; intro w2 hN2 hg2; have HN2 := Lib.hid hN2; have HG2 := Lib.hid hg2; clear hN2 hg2; have HB2 := Lib.hid (HB.out.grown HG2.out (Nat.le_of_lt HZ.out) (fun j hj => by injection hj with hj; subst hj; exact Nat.le_of_lt HZ6.out)); have hlk : (Instr.lookup 66 (.map (some bm)) (.int .i64 (k : Int)) false).run Try.prog w2 = .ok (.agg #[.int .i64 b.f0.f0, .int .i64 b.f0.f1, .int .i64 b.f0.f2, .int .i64 b.f0.f3, .int .i64 b.f1, .int .i64 b.f2.f0, .int .i64 b.f2.f1]) w2 := (HLm.out.below HB2.out hbm).look k hkn.out b HBK.out; have HNC := Lib.hid (ownsMap_cells HN2.out); have HO2 := Lib.hid (R_bmap HO.out (ownsMap_cells HN.out) HG2.out); have HR2 := Lib.hid (R_bmap HR.out (ownsMap_cells HN.out) HG2.out); have HZ2 := Lib.hid (Nat.lt_of_lt_of_le HZ.out HG2.out.size); have HLN : Hid ((List.map (fun k => (M.getD k.toNat none).getD z38) (List.take i r)).length ≤ 1000000000) := Lib.hid (by have := hin9.out; simp; omega); generalize hxs : List.map (fun k => (M.getD k.toNat none).getD z38) (List.take i r) = xs at *; have HXS := Lib.hid hxs; clear hxs) | ((with_reducible refine gate_builtin (b := .append) (xs := #[.tmp 39, .tmp 43]) rfl ?_); at_builtin; refine Kd.R_append k38 (w0 := w) w.heap.size rfl (.tmp 39) (.tmp 43) 28 38 (.agg #[(.int .i64 0), (.int .i64 0), (.int .i64 0), (.int .i64 0), (.int .i64 0), (.int .i64 0), (.int .i64 0)]) 56 rfl Try.underlying28 info38 rfl (by decide) (by omega) u11 xs b [.int .i64 b.f0.f0, .int .i64 b.f0.f1, .int .i64 b.f0.f2, .int .i64 b.f0.f3, .int .i64 b.f1, .int .i64 b.f2.f0, .int .i64 b.f2.f1] (fun _ => True) (fun _ => False) rfl rfl ?aP (fun _ hk => hk.elim) ?aF ?aO ?aB ?aS ?aL ?_; (case aP => exact k38_mkM _ _ _ b); (case aF => exact (fun _ _ => trivial)); (case aO => exact HO2.out); (case aB => exact HB2.out); (case aS => exact Nat.le_of_lt HZ2.out); (case aL => have := HLN.out; omega); intro v3 w3 ho hb hg hat3; have HO3 := Lib.hid ho; have HB3 := Lib.hid hb; have HG3 := Lib.hid hg; clear ho hb hg hat3))
          go_wp2_with fail
          have e1 := step_i hin9.out
          rw [e1]
          have eD : numD r (i + 1) = (numD r i).put (key k) (.lit (.int .i64 (i : Int))) := by
            show (numD r i).put (.int .i64 (r.getD i 0)) _ = _
            rw [HX.out]; rfl
          refine ⟨⟨i + 1, rfl, hlt, eD ▸ HN2.out.kept HG3.out (R_own_ne HO2.out HNC.out), ?_, Kd.R_over HR2.out HO2.out (by decide) HG3.out, HB3.out, Nat.lt_of_lt_of_le HZ2.out HG3.out.size⟩, ?_⟩
          · have e2 : List.map (fun k => (M.getD k.toNat none).getD z38) (List.take (i + 1) r) = xs ++ [b] := by
              have hx := HX.out
              rw [List.getD_eq_getElem?_getD, List.getElem?_eq_getElem hlt, Option.getD_some] at hx
              rw [List.take_add_one, List.map_append, HXS.out, List.getElem?_eq_getElem hlt, hx]
              simp only [Option.toList_some, List.map_cons, List.map_nil, Int.toNat_natCast, HBK.out, Option.getD_some]
            rw [e2]
            exact HO3.out
          · exact meas_i hlt
        · have hlt' : ¬ (i : Int) < (r.length : Int) := by omega
          obtain rfl : i = r.length := by omega
          have HOO : Hid (Kd.R k38 38 wr w.heap.size (fun _ => True) u11 (outs M)) := Lib.hid (by
            have h := HO.out
            rw [List.take_of_length_le (Nat.le_refl _)] at h
            unfold outs
            rw [HRV.out]
            exact h)
          go_wp2_with fail
          go_loopw [48] (fun u48 w5 => ∃ (i : Nat), u48 = .int .i64 (i : Int) ∧ i ≤ m ∧ (0 < n → ∃ p', Luw base w5 bp bf bb bm g n cap c p' rt M) ∧ w5.ownsRow base 3 1 (.slice (some ⟨gl, 0, none⟩) m capl) m (vals ((ls.take i).map (renum M rt) ++ ls.drop i)) ∧
              w5.ownsMap Try.prog 3 (plainElem Try.prog 3) bn r.length (numD r r.length) ∧ Kd.R k38 38 w5 w.heap.size (fun _ => True) u11 (outs M) ∧ Chg w w5 (fun i => i = g ∨ i = gl)) (fun u48 _ => m - (intV u48).toNat)
          case atStart =>
            refine ⟨0, rfl, Nat.zero_le _, fun hn => (by obtain ⟨p, L⟩ := HLu.out hn; exact ⟨p, L.below0 HB.out⟩), ?_, HN.out, HOO.out, Chg.of_below HB.out⟩
            have h := HLr.out.kept (row := none) ⟨HB.out.os, HB.out.tape, HB.out.output, HB.out.size, fun i hi _ => HB.out.block i hi⟩ (by simp [Value.ownBlock])
            simpa using h
          case round =>
            obtain ⟨i, rfl, hir, hL, hl, hN, hO, hC⟩ := hrel
            have HL5 := Lib.hid hL
            have HLR := Lib.hid hl
            have HN5' := Lib.hid hN
            have HO5 := Lib.hid hO
            have HC5 := Lib.hid hC
            clear hL hl hN hO hC
            rcases Nat.lt_or_ge i m with hlt | hge
            · have hlt' : (i : Int) < (m : Int) := by omega
              have hi0 : (0 : Int) ≤ (i : Int) := Int.natCast_nonneg _
              obtain ⟨l, hl⟩ : ∃ l, ls[i]? = some l := ⟨_, List.getElem?_eq_getElem (by omega)⟩
              have hcl : wr.cell? ⟨gl, i, none⟩ = some (.int .i64 l) := by
                rw [HLR.out.cellAt i (by omega)]
                unfold vals
                rw [List.getElem?_map, List.getElem?_append_right (by simp; omega)]
                simp only [List.length_map, List.length_take, List.getElem?_drop]
                rw [show min i ls.length = i by omega, Nat.sub_self, Nat.add_zero, hl]
                rfl
              have HLV := Lib.hid hl
              clear hl
              have hlm : l ∈ ls := List.mem_of_getElem? HLV.out
              by_cases h0 : 0 ≤ l
              · obtain ⟨a, rfl⟩ := Int.eq_ofNat_of_zero_le h0
                have hin' := HIN.out _ hlm h0
                rw [Int.toNat_natCast] at hin'
                have han : a < n := by omega
                obtain ⟨p', hLp⟩ := HL5.out (by omega)
                obtain ⟨gs, hgs⟩ := hLp.gcells
                have hgx := Lib.hid hgs
                clear hgs
                have HLp := Lib.hid hLp
                clear hLp
                have HGB' : Hid (g < w.heap.size) := Lib.hid (HGB.out (by omega))
                have hrn : rt.length = n := by rw [← HLp.out.P.len, HLp.out.U.len]
                have hro := roots_of HLp.out.P a (by omega)
                obtain ⟨ra, hra⟩ : ∃ x, rt.getD a 0 = x := ⟨_, rfl⟩
                rw [hra] at hin' hro
                obtain ⟨k, rfl⟩ := Int.eq_ofNat_of_zero_le hro.1
                rw [Int.toNat_natCast] at hin'
                have hk9 : k ≤ 1000000000 := by omega
                obtain ⟨j, hj1, hj2, hj3⟩ := rank_at hin'.2
                rw [HRV.out] at hj2 hj3
                have hnd : r.Nodup := HRV.out ▸ present_nodup
                have HRA := Lib.hid hra
                have HJ1 := Lib.hid hj1
                have HJ3 := Lib.hid hj3
                have HHN := Lib.hid han
                clear hin' hro hra hj1 hj3 hrn han
                go_wp2_with fail
                refine (HLp.out.find a HHN.out _ HRA).mono ?_
                rintro e w6 ⟨rfl, p6, hl6, hg6⟩
                have hlk := num_look (HN5'.out.kept hg6 (fun e => by injection e with e; subst e; exact ownsMap_cells HN5'.out _ _ hgx.out)) hnd j hj2 k hk9 HJ3.out
                have hlr6 := HLR.out.kept hg6 (.inr (fun e => hne (by simp only [Value.ownBlock] at e; injection e)))
                have hfz := hlr6.frozenAt i
                have hcl6 := (hlr6.cellAt i (by omega)).trans ((HLR.out.cellAt i (by omega)).symm.trans hcl)
                have HL6 := Lib.hid hl6
                have HG6 := Lib.hid hg6
                have HLR6 := Lib.hid hlr6
                clear hl6 hg6 hlr6
                go_wp2_with fail
                have st := HLR6.out.stored i (.int .i64 (j : Int))
                have hcell : ∃ cs, w6.heap[gl]? = some (.cells cs 3 (0, 0)) := own_typed HLR6.out gl rfl
                obtain ⟨cs, hcs⟩ := hcell
                have hgs := grown_set w6 gl i (.int .i64 (j : Int))
                have hbn6 := HN5'.out.kept HG6.out (fun e => by injection e with e; subst e; exact ownsMap_cells HN5'.out _ _ hgx.out)
                rw [show ((i : Int) + 1) = ((i + 1 : Nat) : Int) from rfl]
                refine ⟨⟨i + 1, rfl, hlt, fun _ => ⟨p6, HL6.out.stored_ hcs hne hgs⟩, ?_, hbn6.kept hgs (fun e => by injection e with e; subst e; exact ownsMap_cells hbn6 _ _ hcs),
                  R_old (R_old HO5.out HG6.out HGB'.out) hgs HGLB.out, HC5.out.trans ((Chg.of_grown HG6.out (.inl rfl)).trans (Chg.of_grown hgs (.inr rfl)))⟩, meas_i hlt⟩
                rw [vals_step ls (renum M rt) i (by omega) (j : Int) HLV.out (by
                  unfold renum
                  rw [if_pos h0, Int.toNat_natCast, HRA.out]
                  exact HJ1.out)]
                exact st.1
              · go_wp2_with fail
                rw [show ((i : Int) + 1) = ((i + 1 : Nat) : Int) from rfl]
                refine ⟨⟨i + 1, rfl, hlt, HL5.out, ?_, HN5'.out, HO5.out, HC5.out⟩, meas_i hlt⟩
                rw [vals_keep ls (renum M rt) i (by omega) l HLV.out (by unfold renum; rw [if_neg h0])]
                exact HLR.out
            · have hlt' : ¬ (i : Int) < (m : Int) := by omega
              obtain rfl : i = m := by omega
              go_wp2_with fail
              go_ret2
              refine ⟨u11, rfl, ?_, HO5.out, HC5.out⟩
              have h := HLR.out
              rw [List.take_of_length_le (by omega), List.drop_eq_nil_of_le (by omega), List.append_nil] at h
              exact h
    · intro x b kl yd yp w2 cnt2 hkey hlk hv hat hrg2 hlt hg2 hs2 hen
      obtain ⟨k, hkl, rfl⟩ := HREL.out.only kl (has_true_of_atKey hat)
      obtain rfl : x = (k : Int) := by
        obtain ⟨x', e1, e2, _⟩ := Maps.keyOf_int_inv Try.underlying3 hkey
        have h1 : x = x' := by injection e1
        rw [h1]
        unfold key at e2
        injection e2 with _ e2
        exact e2.symm
      have hks : (M.getD k none).isSome = true := by rw [← HREL.out.has k]; exact has_true_of_atKey hat
      clear hkey hv hs2
      have HR2 := Lib.hid (R_iter HR.out hrg hg2)
      have HB2 := Lib.hid (HB.out.grown hg2 (by have := HSZ.out; omega) (fun j hj => by cases hj; exact Nat.le_refl _))
      have HSZ2 : Hid (w.heap.size < w2.heap.size) := Lib.hid (Nat.lt_of_lt_of_le HSZ.out hg2.size)
      have HL2 := Lib.hid (hrg2)
      have HLT := Lib.hid hlt
      have HCN : Hid (ss.length + 1 ≤ 4000000000) := Lib.hid (by have := HCL.out; have := HSD.out; omega)
      clear hlt hrg2 hg2
      go_wp2_with (first | ((with_reducible refine gate_builtin (b := .append) (xs := #[.tmp 22, .tmp 24]) rfl ?_); at_builtin; refine Kd.R_append (Kd.int .i64) (w0 := w) w.heap.size rfl (.tmp 22) (.tmp 24) 27 3 (.int .i64 0) 8 rfl Try.underlying27 info3 rfl (by decide) (by omega) u8 ss (k : Int) [.int .i64 (k : Int)] (fun _ => True) (fun _ => False) rfl rfl ?aP (fun _ hk => hk.elim) ?aF ?aO ?aB ?aS ?aL ?_; (case aP => exact rfl); (case aF => exact (fun _ _ => trivial)); (case aO => exact HR2.out); (case aB => exact HB2.out); (case aS => exact Nat.le_of_lt HSZ2.out); (case aL => have := HCN.out; omega); intro v3 w3 ho hb hg hat3; have HO3 := Lib.hid ho; have HB3 := Lib.hid hb; have HG3 := Lib.hid hg; clear ho hb hg hat3))
      go_wp2_with fail
      go_roundw
      case rel =>
        have hk3 := HL2.out.kept HG3.out (R_own_ne HR2.out (ranges_map HL2.out)) (R_own_ne HR2.out (ranges_iter HL2.out))
        exact ⟨_, cnt2, _, hk3, HC.out.step k hks hlk, HO3.out, HB3.out, Nat.lt_of_lt_of_le HSZ2.out HG3.out.size, by have := HCL.out; have := HLT.out; simp; omega⟩
      case measure =>
        have hk3 := HL2.out.kept HG3.out (R_own_ne HR2.out (ranges_map HL2.out)) (R_own_ne HR2.out (ranges_iter HL2.out))
        rw [hk3.left_eq, hrg.left_eq]; exact HLT.out
end Go.Proofs.Ytahibhipffojlaa.Num
