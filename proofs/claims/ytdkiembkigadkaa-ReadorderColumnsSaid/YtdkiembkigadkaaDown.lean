/- readorder.downwards returns the numbers of boxes from top to bottom. -/
import Derived.Test.YtdkiembkigadkaaDCmp
import Derived.Test.YtdkiembkigadkaaChk
import Derived.Test.YtdkiembkigadkaaPIns
import Derived.Sort.OwnSortedInts
import Derived.Laws.EntriesVeiled
import Derived.Lib.SliceRun
set_option linter.unusedSimpArgs false
set_option linter.unusedVariables false
namespace Go.Proofs.Ytdkiembkigadkaa.M
open Go.RowKit Go.Shelf Go.Sort Go.Proofs.YtdkiembkigadkaaW.PrintLast Go.Proofs.YtdkiembkigadkaaW.PrintWords Go.Proofs.YtdkiembkigadkaaW.PrintMore
open Go.Proofs.Ytdkiembkigadkaa.P (isort abv lef sorted_eq abv_tot lef_tot abv_iff lef_iff isort_perm isort_sorted isort_length mem_isort Tot)
def laysSF_ren : Go.Shelf.Ren := ⟨fun | 6 => 53 | 15 => 60 | 14 => 63 | 28 => 73 | 29 => 74 | 20 => 61 | 21 => 76 | 22 => 77 | 23 => 78 | 24 => 79 | 25 => 80 | 26 => 81 | 27 => 82 | 46 => 89 | 47 => 84 | 48 => 85 | 49 => 90 | 50 => 91 | 57 => 93 | n => n, fun | 22 => 24 | 24 => 3 | 25 => 53 | 3 => 3 | 39 => 75 | 0 => 0 | 53 => 88 | 55 => 90 | 4 => 4 | 46 => 80 | 45 => 79 | 50 => 85 | 5 => 5 | 9 => 9 | 66 => 95 | 70 => 99 | 76 => 103 | 77 => 104 | n => n, fun | n => n⟩
theorem laysSF : SlLaysF.n6 Try.prog laysSF_ren := {
  mixed := by kernel_rfl
  f6 := ⟨Try.f53.name, by decide, Try.func53.trans (congrArg some (by kernel_rfl))⟩
  f14 := ⟨Try.f63.name, by decide, Try.func63.trans (congrArg some (by kernel_rfl))⟩
  f15 := Try.func60.trans (congrArg some (by kernel_rfl))
  f20 := ⟨Try.f61.name, by decide, Try.func61.trans (congrArg some (by kernel_rfl))⟩
  f21 := ⟨Try.f76.name, by decide, Try.func76.trans (congrArg some (by kernel_rfl))⟩
  f22 := ⟨Try.f77.name, by decide, Try.func77.trans (congrArg some (by kernel_rfl))⟩
  f23 := ⟨Try.f78.name, by decide, Try.func78.trans (congrArg some (by kernel_rfl))⟩
  f24 := ⟨Try.f79.name, by decide, Try.func79.trans (congrArg some (by kernel_rfl))⟩
  f25 := ⟨Try.f80.name, by decide, Try.func80.trans (congrArg some (by kernel_rfl))⟩
  f26 := ⟨Try.f81.name, by decide, Try.func81.trans (congrArg some (by kernel_rfl))⟩
  f27 := ⟨Try.f82.name, by decide, Try.func82.trans (congrArg some (by kernel_rfl))⟩
  f28 := Try.func73.trans (congrArg some (by kernel_rfl))
  f29 := Try.func74.trans (congrArg some (by kernel_rfl))
  f46 := ⟨Try.f89.name, by decide, Try.func89.trans (congrArg some (by kernel_rfl))⟩
  f47 := Try.func84.trans (congrArg some (by kernel_rfl))
  f48 := Try.func85.trans (congrArg some (by kernel_rfl))
  f49 := ⟨Try.f90.name, by decide, Try.func90.trans (congrArg some (by kernel_rfl))⟩
  f50 := ⟨Try.f91.name, by decide, Try.func91.trans (congrArg some (by kernel_rfl))⟩
  f57 := ⟨Try.f93.name, by decide, Try.func93.trans (congrArg some (by kernel_rfl))⟩
  t0 := Try.underlying0
  a0 := Try.isAgg0
  z0 := Try.sizeOf0
  v0 := Try.zeroValue0
  t3 := Try.underlying3
  a3 := Try.isAgg3
  z3 := Try.sizeOf3
  v3 := Try.zeroValue3
  t4 := Try.underlying4
  a4 := Try.isAgg4
  z4 := Try.sizeOf4
  v4 := Try.zeroValue4
  t5 := Try.underlying5
  a5 := Try.isAgg5
  z5 := Try.sizeOf5
  v5 := Try.zeroValue5
  t9 := Try.underlying9
  a9 := Try.isAgg9
  z9 := Try.sizeOf9
  v9 := Try.zeroValue9
  t22 := Try.underlying24
  a22 := Try.isAgg24
  z22 := Try.sizeOf24
  v22 := Try.zeroValue24
  a24 := Try.isAgg3
  z24 := Try.sizeOf3
  t25 := Try.underlying53
  a25 := Try.isAgg53
  z25 := Try.sizeOf53
  v25 := Try.zeroValue53
  t39 := Try.underlying75
  a39 := Try.isAgg75
  z39 := Try.sizeOf75
  v39 := Try.zeroValue75
  t45 := Try.underlying79
  a45 := Try.isAgg79
  z45 := Try.sizeOf79
  v45 := Try.zeroValue79
  t46 := Try.underlying80
  a46 := Try.isAgg80
  z46 := Try.sizeOf80
  v46 := Try.zeroValue80
  t50 := Try.underlying85
  a50 := Try.isAgg85
  z50 := Try.sizeOf85
  v50 := Try.zeroValue85
  t53 := Try.underlying88
  a53 := Try.isAgg88
  z53 := Try.sizeOf88
  v53 := Try.zeroValue88
  t55 := Try.underlying90
  a55 := Try.isAgg90
  z55 := Try.sizeOf90
  v55 := Try.zeroValue90
  t66 := Try.underlying95
  a66 := Try.isAgg95
  z66 := Try.sizeOf95
  v66 := Try.zeroValue95
  t70 := Try.underlying99
  a70 := Try.isAgg99
  z70 := Try.sizeOf99
  v70 := Try.zeroValue99
  t76 := Try.underlying103
  a76 := Try.isAgg103
  z76 := Try.sizeOf103
  v76 := Try.zeroValue103
  t77 := Try.underlying104
  a77 := Try.isAgg104
  z77 := Try.sizeOf104
  v77 := Try.zeroValue104 }
def cloneI.f (l0 : List Int) : Option (List Int) := if l0.length ≤ 100000000 then some l0 else none
set_option maxRecDepth 100000 in
theorem cloneI.calls (A0 : Option Addr) (c0 : Nat) (l0 : List Int) (r1 : List Int) (w : World) (hr0 : Kd.C (Kd.int .i64) w A0 l0.length l0) (hc0 : l0.length ≤ c0) (h : cloneI.f l0 = some r1) :
    Calls Try.prog 52 #[.slice A0 l0.length c0] w fun e w' => ∃ v0_ : Value, e = .returned v0_ ∧ Kd.R (Kd.int .i64) 3 w' w.heap.size (fun _ => True) v0_ r1 ∧ Below w.heap.size w w' := by
  unfold cloneI.f at h
  split at h
  case isFalse => cases h
  rename_i hl
  injection h with h
  subst h
  have HL := Lib.hid hl
  have HR := Lib.hid hr0
  clear hl hr0
  have q24 : ∀ (w : World) (a : Option Addr) (n c n' c' : Nat), (binOp .eql 24 (.slice a n c) (.slice none n' c')).run Try.prog w = .ok (.bool a.isNone) w := fun w a n c n' c' => Lib.run_eql_slice_nil w _ _ a n c n' c' Try.underlying24
  rcases A0 with _ | ad
  · have h0 : l0 = [] := by
      rcases Nat.eq_zero_or_pos l0.length with h0 | h0
      · exact List.length_eq_zero_iff.1 h0
      · obtain ⟨ad, h, _⟩ := HR.out.2.2 h0
        cases h
    subst h0
    go_enter Try.func52, Try.ntmps52
    go_wp2_with fail
    go_ret
    exact ⟨_, rfl, Kd.R_nil _ _ _ _ _, Below.refl _ _⟩
  · generalize hn : l0.length = n at *
    go_enter Try.func52, Try.ntmps52
    have HO : Hid (Kd.R (Kd.int .i64) 3 (w.alloc (.cells #[] 3)) w.heap.size (fun _ => True) (.slice (some ⟨w.heap.size, 0, none⟩) 0 0) []) := Lib.hid (Kd.R_of_own (enc := Value.int .i64) (World.ownsRow_made w #[] 0 (Nat.le_refl _) (Nat.zero_le _) (by simp)) (fun _ _ => trivial))
    have HB : Hid (Below w.heap.size w (w.alloc (.cells #[] 3))) := Lib.hid ((Below.refl _ _).alloc (Nat.le_refl _) _)
    go_wp2_with (first
      | ((with_reducible refine gate_builtin (b := .append) (xs := #[.tmp 5, .tmp 6]) rfl ?_); at_builtin; refine Kd.R_append_rows (Kd.int .i64) (Rr := (Kd.int .i64).K (w.alloc (.cells #[] 3))) (w0 := w) w.heap.size rfl (.tmp 5) (.tmp 6) 24 3 (.int .i64 0) 8 rfl Try.underlying24 info3 rfl (by decide) (by omega) (.slice (some ⟨w.heap.size, 0, none⟩) 0 0) [] l0 (some ad) n c0 (fun _ => True) (fun _ => False) rfl rfl HO.out (Kd.C_below (hn ▸ HR.out) HB.out) (fun _ _ h => h) (fun _ h => h.elim) (fun _ _ => trivial) HB.out HB.out.size (by have := HL.out; simp; omega) ?_; intro v2 w2 ho hb hg ht; have HO2 := Lib.hid ho; have HB2 := Lib.hid hb; clear ho hb hg ht))
    go_ret
    exact ⟨_, rfl, HO2.out, HB2.out⟩

/-- the boxes that a closure has by a pointer to their slice -/
structure BxAt (l : List S31) (W : World) (bl g o c : Nat) : Prop where
  hbl : W.cell? ⟨bl, 0, none⟩ = some (.slice (some ⟨g, o, none⟩) l.length c)
  c0 : ∀ j : Nat, j < l.length → W.cell? ⟨g, o + j * 4, none⟩ = some (.int .i64 (rd_T31 l j).f0)
  c1 : ∀ j : Nat, j < l.length → W.cell? ⟨g, o + j * 4 + 1, none⟩ = some (.int .i64 (rd_T31 l j).f1)
  lt : g < W.heap.size
  ltb : bl < W.heap.size
theorem rd_T31_nat (l : List S31) (j : Nat) : rd_T31 l (j : Int) = l[j]! := by
  unfold rd_T31
  rw [Int.toNat_natCast, getElem!_def, List.getD_eq_getElem?_getD]
  cases l[j]? <;> rfl
section
variable {l : List S31} {w w' W : World} {bl g o c : Nat}
theorem BxAt.mk_ {ad : Addr} (hr0 : Kd.C k31 w (some ad) l.length l) (hp : 0 < l.length) (hw : Below w.heap.size w W) (hbl : W.cell? ⟨bl, 0, none⟩ = some (.slice (some ad) l.length c)) (hlt : bl < W.heap.size) : BxAt l W bl ad.block ad.off c ∧ ad.block < w.heap.size := by
  obtain ⟨h1, h2, h3⟩ := C31_cells hr0 hp
  refine ⟨⟨by rw [hbl, ← h2], fun j hj => ?_, fun j hj => ?_, Nat.lt_of_lt_of_le h1 hw.size, hlt⟩, h1⟩
  · rw [hw.cell (p := ⟨ad.block, _, none⟩) h1, rd_T31_nat]
    exact h3 j hj 0 _ rfl
  · rw [hw.cell (p := ⟨ad.block, _, none⟩) h1, rd_T31_nat]
    exact h3 j hj 1 _ rfl
theorem BxAt.same (B : BxAt l w bl g o c) (hs : w.heap.size ≤ w'.heap.size) (h1 : ∀ a : Addr, a.block = g ∨ a.block = bl → w'.cell? a = w.cell? a) : BxAt l w' bl g o c :=
  ⟨(h1 _ (.inr rfl)).trans B.hbl, fun j hj => (h1 _ (.inl rfl)).trans (B.c0 j hj), fun j hj => (h1 _ (.inl rfl)).trans (B.c1 j hj), Nat.lt_of_lt_of_le B.lt hs, Nat.lt_of_lt_of_le B.ltb hs⟩
theorem BxAt.sort {α : Type} [Inhabited α] (B : BxAt l w bl g o c) (enc : α → Value) (blk off m : Nat) (dk : Array α) (os : Array Obj) (h1 : g ≠ blk) (h2 : bl ≠ blk) : BxAt l (sortWorld enc w blk off m dk os) bl g o c := by
  refine B.same (by unfold sortWorld; simp) fun a ha => ?_
  have hlt : a.block < w.heap.size := by
    rcases ha with h | h
    · rw [h]; exact B.lt
    · rw [h]; exact B.ltb
  unfold sortWorld
  rw [cell?_grow _ _ _ (by simpa using hlt), cell?_putRow_other]
  · rfl
  · refine .inl ?_
    rcases ha with h | h <;> rw [h]
    · exact h1
    · exact h2
theorem BxAt.below (B : BxAt l w bl g o c) (hb : Below w.heap.size w w') : BxAt l w' bl g o c :=
  B.same hb.size fun a ha => hb.cell (by
    rcases ha with h | h
    · rw [h]; exact B.lt
    · rw [h]; exact B.ltb)
def boxY (l : List S31) (i : Int) : Int := (rd_T31 l i).f1
def boxX (l : List S31) (i : Int) : Int := (rd_T31 l i).f0
def cmpD (l : List S31) (i k : Int) : Int := or3 (cmpI (boxY l i) (boxY l k)) (cmpI (boxX l i) (boxX l k)) (cmpI i k)
theorem cmpI_lt {x y : Int} : cmpI x y < 0 ↔ x < y := by unfold cmpI; split <;> (try split) <;> omega
theorem cmpI_zero {x y : Int} : cmpI x y = 0 ↔ x = y := by unfold cmpI; split <;> (try split) <;> omega
theorem cmpD_lt {i k : Int} : cmpD l i k < 0 ↔ abv (boxY l) (boxX l) i k = true := by
  rw [abv_iff]
  unfold cmpD or3
  have a1 := @cmpI_lt (boxY l i) (boxY l k)
  have a2 := @cmpI_zero (boxY l i) (boxY l k)
  have b1 := @cmpI_lt (boxX l i) (boxX l k)
  have b2 := @cmpI_zero (boxX l i) (boxX l k)
  have c1 := @cmpI_lt i k
  split
  · split <;> omega
  · omega
theorem down_any (B : BxAt l W bl g o c) (i k : Nat) (hi : i < l.length) (hk : k < l.length) :
    Calls Try.prog 54 #[.int .i64 (i : Int), .int .i64 (k : Int), .pointer (some ⟨bl, 0, none⟩)] W fun e w' => e = .returned (.int .i64 (cmpD l i k)) ∧ ∃ o : Obj, w' = W.drew.alloc o :=
  down_raw g o l.length c bl i k _ _ _ _ hi hk W B.hbl (B.c1 i hi) (B.c1 k hk) (B.c0 i hi) (B.c0 k hk) B.lt B.ltb
theorem cols_any (B : BxAt l W bl g o c) (i k : Nat) (hi : i < l.length) (hk : k < l.length) :
    Calls Try.prog 33 #[.int .i64 (i : Int), .int .i64 (k : Int), .pointer (some ⟨bl, 0, none⟩)] W fun e w' => e = .returned (.int .i64 (cmpI (boxX l i) (boxX l k))) ∧ w' = W.drew :=
  cols_raw g o l.length c bl i k _ _ hi hk W B.hbl (B.c0 i hi) (B.c0 k hk)
end
/-! numbers below m + 1, in a row of ints -/
def encF (m : Nat) (i : Fin (m + 1)) : Value := .int .i64 ((i.val : Nat) : Int)
def toF (m : Nat) (xs : List Int) : List (Fin (m + 1)) := xs.map fun x => Fin.ofNat (m + 1) x.toNat
def ofF {m : Nat} (d : List (Fin (m + 1))) : List Int := d.map fun i => ((i.val : Nat) : Int)
theorem encF_one (m : Nat) : OneCell (encF m) := fun _ => rfl
theorem ofF_toF {m : Nat} {xs : List Int} (h : ∀ x ∈ xs, 0 ≤ x ∧ x < (m + 1 : Nat)) : ofF (toF m xs) = xs := by
  unfold ofF toF
  rw [List.map_map]
  conv => rhs; rw [← List.map_id xs]
  refine List.map_congr_left fun x hx => ?_
  obtain ⟨h1, h2⟩ := h x hx
  show ((x.toNat % (m + 1) : Nat) : Int) = x
  rw [Nat.mod_eq_of_lt (by omega)]
  omega
theorem holds_F {m : Nat} {w : World} {g off : Nat} {xs : List Int} (h : ∀ x ∈ xs, 0 ≤ x ∧ x < (m + 1 : Nat)) (H : Holds (Value.int .i64) w g off xs.toArray) : Holds (encF m) w g off (toF m xs).toArray := by
  intro j hj
  have hl : (toF m xs).length = xs.length := by unfold toF; simp
  have hj' : j < xs.length := by simpa [hl] using hj
  obtain ⟨h1, h2⟩ := H j (by simpa using hj')
  refine ⟨?_, h2⟩
  rw [h1]
  have e := ofF_toF h
  have e1 : (ofF (toF m xs))[j]? = xs[j]? := by rw [e]
  unfold ofF at e1
  rw [List.getElem?_map, List.getElem?_eq_getElem (by omega), List.getElem?_eq_getElem hj'] at e1
  have e2 : (((toF m xs)[j].val : Nat) : Int) = xs[j] := Option.some.inj e1
  rw [getElem!_pos _ j (by simpa using hj'), getElem!_pos _ j (by simpa [hl] using hj')]
  simp only [List.getElem_toArray, encF]
  rw [e2]
theorem putRow_F {m : Nat} (w : World) (blk off : Nat) (d : List (Fin (m + 1))) : putRow (encF m) w blk off d.toArray = putRow (Value.int .i64) w blk off (ofF d).toArray := by
  unfold putRow
  congr 1
  funext cs
  unfold putCells
  refine Array.ext (by simp) fun k h1 h2 => ?_
  simp only [Array.getElem_mapIdx]
  have hl : (ofF d).length = d.length := by unfold ofF; simp
  by_cases hk : off ≤ k ∧ k < off + d.length
  · rw [if_pos (by simpa using hk), if_pos (by simpa [hl] using hk)]
    rw [getElem!_pos _ (k - off) (by simp; omega), getElem!_pos _ (k - off) (by simp [hl]; omega)]
    simp [encF, ofF]
  · rw [if_neg (by simpa using hk), if_neg (by simpa [hl] using hk)]
/-- what the sort of numbers leaves -/
theorem R_sorted {m : Nat} {w : World} {base g cap n : Nat} {os : Array Obj} {xs : List Int} {d : List (Fin (m + 1))} (HR : Kd.R (Kd.int .i64) 3 w base (fun _ => True) (.slice (some ⟨g, 0, none⟩) xs.length cap) xs) (hl : d.length = xs.length) :
    Kd.R (Kd.int .i64) 3 (sortWorld (encF m) w g 0 n d.toArray os) base (fun _ => True) (.slice (some ⟨g, 0, none⟩) xs.length cap) (ofF d) ∧ w.grownBy (sortWorld (encF m) w g 0 n d.toArray os) (some g) := by
  have ho := Kd.own_of_R HR
  unfold sortWorld
  rw [putRow_F]
  refine ⟨?_, grownBy_sortedI _⟩
  rcases ho.2 with ⟨h0, _⟩ | ⟨g', cap', cur, hv, hg, hb, h1, h2, h3, h4⟩
  · cases h0
  · injection hv with hv1 _ hv2
    injection hv1 with hv1
    injection hv1 with hv1
    subst hv1 hv2
    have hlen : (ofF d).length = xs.length := by unfold ofF; simpa using hl
    refine Kd.R_of_own (enc := Value.int .i64) ?_ (fun _ _ => trivial)
    rw [hlen]
    exact ownsRow_sortedI hlen hg hb h1 h2 h3
theorem holds_R {w : World} {base g cap : Nat} {xs : List Int} (HR : Kd.R (Kd.int .i64) 3 w base (fun _ => True) (.slice (some ⟨g, 0, none⟩) xs.length cap) xs) : Holds (Value.int .i64) w g 0 xs.toArray ∧ g < w.heap.size ∧ base ≤ g := by
  have ho := Kd.own_of_R HR
  rcases ho.2 with ⟨h0, _⟩ | ⟨g', cap', cur, hv, hg, hb, h1, h2, h3, h4⟩
  · cases h0
  · injection hv with hv1 _ hv2
    injection hv1 with hv1
    injection hv1 with hv1
    subst hv1 hv2
    exact ⟨holds_of_blockI hb (by rw [Nat.mul_one] at h4; exact h4), blk_lt hb, hg⟩
theorem toF_range {m : Nat} (d : List (Fin (m + 1))) : ∀ x ∈ ofF d, 0 ≤ x ∧ x < (m + 1 : Nat) := by
  intro x hx
  obtain ⟨i, _, rfl⟩ := List.mem_map.1 hx
  have := i.isLt
  omega
theorem cmpD_swo (l : List S31) (m : Nat) : SWO (ltOf fun i k : Fin (m + 1) => cmpD l i.val k.val) where
  irrefl x := by
    unfold ltOf
    rw [decide_eq_false_iff_not, cmpD_lt, (abv_tot _ _).ir]
    simp
  trans x y z h1 h2 := by
    unfold ltOf at *
    rw [decide_eq_true_eq, cmpD_lt] at *
    exact (abv_tot _ _).tr _ _ _ h1 h2
  ntrans x y z h1 h2 := by
    unfold ltOf at *
    rw [decide_eq_false_iff_not, cmpD_lt, Bool.not_eq_true] at *
    exact (abv_tot _ _).le_trans h2 h1
theorem sortN_own {w : World} {base : Nat} {v : Value} (fv : Value) (HR : Kd.R (Kd.int .i64) 3 w base (fun _ => True) v []) :
    Calls Try.prog 53 #[v, fv] w fun e w' => e = .returned (.tuple #[]) ∧ Kd.R (Kd.int .i64) 3 w' base (fun _ => True) v [] ∧ w.grownBy w' v.ownBlock := by
  obtain ⟨A, c, e⟩ := Kd.R_slice HR
  subst e
  refine (AnyF.slices_SortFunc_none (P := Try.prog) (ρ := laysSF_ren) { laysSF with } A c _ w).mono ?_
  rintro e w' ⟨rfl, rfl⟩
  exact ⟨rfl, HR, rfl, rfl, rfl, Nat.le_refl _, fun _ _ _ => rfl⟩
theorem sortD_own {l : List S31} {w : World} {bl g o c base : Nat} {v : Value} {xs : List Int} (B : BxAt l w bl g o c) (HR : Kd.R (Kd.int .i64) 3 w base (fun _ => True) v xs) (hx : ∀ x ∈ xs, 0 ≤ x ∧ x < (l.length : Int)) (hg : g < base) (hbl : bl < base) (hl : xs.length ≤ 100000000) :
    Calls Try.prog 53 #[v, .func (.func 54) #[] #[.pointer (some ⟨bl, 0, none⟩)]] w fun e w' => e = .returned (.tuple #[]) ∧ Kd.R (Kd.int .i64) 3 w' base (fun _ => True) v (isort (abv (boxY l) (boxX l)) xs) ∧ w.grownBy w' v.ownBlock := by
  rcases Nat.eq_zero_or_pos xs.length with h0 | hp
  · have hx0 : xs = [] := List.length_eq_zero_iff.1 h0
    subst hx0
    exact sortN_own _ HR
  · obtain ⟨A, cap, e⟩ := Kd.R_slice HR
    obtain ⟨gv, cap', e2, hbase, hgv, _⟩ := Kd.R_form HR hp
    rw [e2] at HR
    subst e2
    obtain ⟨H, hlt, hge⟩ := holds_R HR
    obtain ⟨x0, hx0⟩ := List.exists_mem_of_length_pos hp
    obtain ⟨m, hm⟩ : ∃ m, l.length = m + 1 := ⟨l.length - 1, by have := hx x0 hx0; omega⟩
    rw [hm] at hx
    have hsz : (toF m xs).toArray.size = xs.length := by unfold toF; simp
    have hcmp : CmpLays1 Try.prog 54 #[.pointer (some ⟨bl, 0, none⟩)] (encF m) (fun i k => cmpD l i.val k.val) gv 0 (toF m xs).toArray.size w := by
      intro mm os dk hs x y
      refine (down_any (B.sort (encF m) gv 0 mm dk os (by omega) (by omega)) x.val y.val (by have := x.isLt; omega) (by have := y.isLt; omega)).mono ?_
      rintro e w' ⟨rfl, ob, rfl⟩
      exact ⟨rfl, 1, #[ob], by rw [alloc_eq_grow]; rfl⟩
    have hs := Any.slices_SortFunc_total (P := Try.prog) (ρ := laysSF_ren) laysSF (encF m) (encF_one m) (fun i k => cmpD l i.val k.val) (cmpD_swo l m) 54 #[.pointer (some ⟨bl, 0, none⟩)] gv 0 cap' (toF m xs).toArray w (enters_of Try.func54 (by kernel_rfl) rfl) hcmp (holds_F hx H) hlt (by omega) (fun x y h1 h2 => by
      unfold ltOf at h1 h2
      rw [decide_eq_false_iff_not, cmpD_lt, Bool.not_eq_true] at h1 h2
      have := (abv_tot _ _).to _ _ h1 h2
      exact Fin.ext (by omega))
    rw [hsz] at hs
    refine hs.mono ?_
    rintro e w' ⟨rfl, n, os, rfl⟩
    have hlen : ((toF m xs).toArray.toList.mergeSort fun x y => !(ltOf fun i k : Fin (m + 1) => cmpD l i.val k.val) y x).length = xs.length := by rw [List.length_mergeSort]; unfold toF; simp
    obtain ⟨r1, r2⟩ := R_sorted (m := m) (n := n) (os := os) HR hlen
    refine ⟨rfl, ?_, r2⟩
    have es : ofF ((toF m xs).toArray.toList.mergeSort fun x y => !(ltOf fun i k : Fin (m + 1) => cmpD l i.val k.val) y x) = isort (abv (boxY l) (boxX l)) xs := by
      refine sorted_eq (abv_tot _ _) ?_ ?_
      · have h1 := (List.mergeSort_perm (toF m xs).toArray.toList fun x y => !(ltOf fun i k : Fin (m + 1) => cmpD l i.val k.val) y x).map fun i => ((i.val : Nat) : Int)
        have h2 : (toF m xs).toArray.toList.map (fun i => ((i.val : Nat) : Int)) = xs := ofF_toF hx
        rw [h2] at h1
        exact h1
      · unfold ofF
        rw [List.pairwise_map]
        refine (List.pairwise_mergeSort (fun x y z h1 h2 => ?_) (fun x y => ?_) _).imp fun {x y} h => ?_
        · simp only [Bool.not_eq_true'] at *
          exact (cmpD_swo l m).ntrans _ _ _ h2 h1
        · simp only [Bool.or_eq_true, Bool.not_eq_true']
          cases h1 : (ltOf fun i k : Fin (m + 1) => cmpD l i.val k.val) y x
          · exact .inl rfl
          · refine .inr ?_
            cases h2 : (ltOf fun i k : Fin (m + 1) => cmpD l i.val k.val) x y
            · rfl
            · have := (cmpD_swo l m).trans _ _ _ h1 h2
              rw [(cmpD_swo l m).irrefl] at this
              cases this
        · simp only [Bool.not_eq_true'] at h
          unfold ltOf at h
          rw [decide_eq_false_iff_not, cmpD_lt, Bool.not_eq_true] at h
          exact h
    rw [es] at r1
    exact r1
def inR (l0 : List S31) (l1 : List Int) : Bool := l1.all fun x => decide (0 ≤ x ∧ x < (l0.length : Int))
theorem inR_iff {l0 : List S31} {l1 : List Int} : inR l0 l1 = true ↔ ∀ x ∈ l1, 0 ≤ x ∧ x < (l0.length : Int) := by
  unfold inR
  rw [List.all_eq_true]
  simp
def downw.f (l0 : List S31) (l1 : List Int) : Option (List Int) := if l1.length ≤ 100000000 ∧ inR l0 l1 = true then some (isort (abv (boxY l0) (boxX l0)) l1) else none
set_option maxRecDepth 100000 in
theorem downw.calls (A0 : Option Addr) (c0 : Nat) (l0 : List S31) (A1 : Option Addr) (c1 : Nat) (l1 : List Int) (r1 : List Int) (w : World) (hr0 : Kd.C k31 w A0 l0.length l0) (hc0 : l0.length ≤ c0) (hr1 : Kd.C (Kd.int .i64) w A1 l1.length l1) (hc1 : l1.length ≤ c1) (h : downw.f l0 l1 = some r1) :
    Calls Try.prog 36 #[.slice A0 l0.length c0, .slice A1 l1.length c1] w fun e w' => ∃ v0_ : Value, e = .returned v0_ ∧ Kd.R (Kd.int .i64) 3 w' w.heap.size (fun _ => True) v0_ r1 ∧ Below w.heap.size w w' := by
  unfold downw.f at h
  split at h
  case isFalse => cases h
  rename_i hl
  obtain ⟨hl1, hl2⟩ := hl
  rw [inR_iff] at hl2
  injection h with h
  subst h
  have HL := Lib.hid hl1
  have HX := Lib.hid hl2
  have HR := Lib.hid hr0
  have HR1 := Lib.hid hr1
  have HC1 := Lib.hid hc1
  have HF : Hid (cloneI.f l1 = some l1) := Lib.hid (by unfold cloneI.f; rw [if_pos hl1])
  clear hl1 hl2 hr0 hr1 hc1 hc0
  have HB0 : Hid (Below w.heap.size w (w.alloc (.cells #[.slice A0 l0.length c0] 22))) := Lib.hid ((Below.refl _ _).alloc (Nat.le_refl _) _)
  have HS : Hid (∀ (v : Value) (w1 : World), Kd.R (Kd.int .i64) 3 w1 (w.alloc (.cells #[.slice A0 l0.length c0] 22)).heap.size (fun _ => True) v l1 → Below (w.alloc (.cells #[.slice A0 l0.length c0] 22)).heap.size (w.alloc (.cells #[.slice A0 l0.length c0] 22)) w1 →
      Calls Try.prog 53 #[v, .func (.func 54) #[] #[.pointer (some ⟨w.heap.size, 0, none⟩)]] w1 fun e w' => e = .returned (.tuple #[]) ∧ Kd.R (Kd.int .i64) 3 w' (w.alloc (.cells #[.slice A0 l0.length c0] 22)).heap.size (fun _ => True) v (isort (abv (boxY l0) (boxX l0)) l1) ∧ w1.grownBy w' v.ownBlock) := by
    refine Lib.hid fun v w1 hv hb => ?_
    rcases Nat.eq_zero_or_pos l1.length with h0 | hp
    · have hx0 : l1 = [] := List.length_eq_zero_iff.1 h0
      subst hx0
      exact sortN_own _ hv
    · obtain ⟨x0, hx0⟩ := List.exists_mem_of_length_pos hp
      have hx1 := HX.out x0 hx0
      have hp0 : 0 < l0.length := by omega
      obtain ⟨ad, c, e0, _⟩ := Kd.C_get HR.out z31 0 (Int.le_refl _) (by omega)
      subst e0
      have hs : (w.alloc (.cells #[.slice (some ad) l0.length c0] 22)).heap.size = w.heap.size + 1 := by simp
      obtain ⟨B, hlt⟩ := BxAt.mk_ (l := l0) (W := w.alloc (.cells #[.slice (some ad) l0.length c0] 22)) (bl := w.heap.size) (c := c0) HR.out hp0 HB0.out (by simp) (by simp)
      exact sortD_own (B.below hb) hv HX.out (by omega) (by omega) HL.out
  go_enter Try.func36, Try.ntmps36
  go_wp2_with (first
    | (go_at_call 52; (with_reducible refine (cloneI.calls A1 c1 l1 l1 _ (Kd.C_below HR1.out HB0.out) HC1.out HF.out).mono ?_); rintro e w1 ⟨v1, rfl, ho, hb⟩; have HO := Lib.hid ho; have HB := Lib.hid hb; clear ho hb)
    | (go_at_call 53; (with_reducible refine (HS.out _ _ HO.out HB.out).mono ?_); rintro e w2 ⟨rfl, ho2, hg2⟩; have HO2 := Lib.hid ho2; have HG2 := Lib.hid hg2; clear ho2 hg2))
  go_ret
  refine ⟨_, rfl, Kd.R_lower HO2.out (by simp), ?_⟩
  exact below_then HB0.out HB0.out.size (HB.out.grown HG2.out HB.out.size (Kd.R_base HO.out))
end Go.Proofs.Ytdkiembkigadkaa.M
