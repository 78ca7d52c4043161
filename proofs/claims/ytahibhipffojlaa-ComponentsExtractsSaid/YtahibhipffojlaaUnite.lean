/- The closure unite of components.label joins two sets. -/
import Derived.Test.YtahibhipffojlaaMap
import Derived.Test.YtahibhipffojlaaFind
import Derived.Outline
set_option linter.unusedSimpArgs false
set_option linter.unusedVariables false
namespace Go.Proofs.Ytahibhipffojlaa.Unite
open Go.RowKit Go.Proofs.YtahibhipffojlaaW.PrintLast Go.Proofs.YtahibhipffojlaaW.PrintWords Go.Proofs.YtahibhipffojlaaW.PrintMore Go.Proofs.Ytahibhipffojlaa.Walk Go.Proofs.Ytahibhipffojlaa.M Go.Proofs.Ytahibhipffojlaa.Uf Go.Proofs.Ytahibhipffojlaa.Find Go.Proofs.Ytahibhipffojlaa.Join Go.Proofs.Ytahibhipffojlaa.Map
attribute [local go_sem high] max2_mx min2_mn max_two min_two

/-- Only blocks of S have turned, and new ones have come. -/
structure Chg (w w' : World) (S : Nat → Prop) : Prop where
  os : w'.os = w.os
  tape : w'.tape = w.tape
  output : w'.output = w.output
  size : w.heap.size ≤ w'.heap.size
  block : ∀ i, i < w.heap.size → ¬ S i → w'.heap[i]? = w.heap[i]?
theorem Chg.refl (w : World) (S : Nat → Prop) : Chg w w S := ⟨rfl, rfl, rfl, Nat.le_refl _, fun _ _ _ => rfl⟩
theorem Chg.trans {a b c : World} {S : Nat → Prop} (h : Chg a b S) (k : Chg b c S) : Chg a c S :=
  ⟨k.os.trans h.os, k.tape.trans h.tape, k.output.trans h.output, Nat.le_trans h.size k.size, fun i hi hs => (k.block i (Nat.lt_of_lt_of_le hi h.size) hs).trans (h.block i hi hs)⟩
theorem Chg.of_grown {w w' : World} {g : Nat} {S : Nat → Prop} (h : w.grownBy w' (some g)) (hS : S g) : Chg w w' S := ⟨h.os, h.tape, h.output, h.size, fun i hi hs => h.block i hi (fun e => hs (by injection e with e; rw [e]; exact hS))⟩
theorem Chg.of_below {w w' : World} {S : Nat → Prop} (h : Below w.heap.size w w') : Chg w w' S := ⟨h.os, h.tape, h.output, h.size, fun i hi _ => h.block i hi⟩
theorem Chg.drew {w w' : World} {S : Nat → Prop} (h : Chg w w' S) : Chg w w'.drew S := ⟨h.os, h.tape, h.output, h.size, h.block⟩
theorem Chg.drew0 {w w' : World} {S : Nat → Prop} (h : Chg w.drew w' S) : Chg w w' S := ⟨h.os, h.tape, h.output, h.size, h.block⟩
theorem Chg.mono {w w' : World} {S T : Nat → Prop} (h : Chg w w' S) (hST : ∀ i, S i → T i) : Chg w w' T := ⟨h.os, h.tape, h.output, h.size, fun i hi hs => h.block i hi (fun k => hs (hST i k))⟩

def joinF (a b : S38) : S38 := ⟨⟨mn a.f0.f0 b.f0.f0, mn a.f0.f1 b.f0.f1, mx (a.f0.f0 + a.f0.f2) (b.f0.f0 + b.f0.f2) - mn a.f0.f0 b.f0.f0, mx (a.f0.f1 + a.f0.f3) (b.f0.f1 + b.f0.f3) - mn a.f0.f1 b.f0.f1⟩, a.f1 + b.f1, a.f2⟩
def Okb (b : S38) : Prop := (0 ≤ b.f0.f0 ∧ b.f0.f0 ≤ 1000000) ∧ (0 ≤ b.f0.f1 ∧ b.f0.f1 ≤ 1000000) ∧ (0 ≤ b.f0.f2 ∧ b.f0.f2 ≤ 1000000) ∧ (0 ≤ b.f0.f3 ∧ b.f0.f3 ≤ 1000000) ∧ (0 ≤ b.f1 ∧ b.f1 ≤ 100000000)
instance (b : S38) : Decidable (Okb b) := by unfold Okb; infer_instance
theorem joined_any (x y : S38) (hx : Okb x) (hy : Okb y) (w : World) : Calls Try.prog 48 #[bval x, bval y] w fun e w' => e = .returned (bval (joinF x y)) ∧ Below w.heap.size w w' :=
  joined_raw _ _ _ _ _ _ _ _ _ _ _ _ _ _ w hx.1 hx.2.1 hx.2.2.1 hx.2.2.2.1 hx.2.2.2.2 hy.1 hy.2.1 hy.2.2.1 hy.2.2.2.1 hy.2.2.2.2

/-- what label's closures share -/
structure Luw (base : Nat) (w : World) (bp bf bb bm g n cap c : Nat) (p rt : List Int) (M : List (Option S38)) : Prop where
  P : Par p rt
  U : Ufw base w bp bf g n cap p
  hb : w.heap[bb]? = some (.cells #[.map (some bm)] 66 (0, 0))
  m : MapAt w bm c M
  ml : M.length = n

section
variable {base : Nat} {w w' : World} {bp bf bb bm g n cap c : Nat} {p rt : List Int} {M : List (Option S38)}
theorem Luw.drew (L : Luw base w bp bf bb bm g n cap c p rt M) : Luw base w.drew bp bf bb bm g n cap c p rt M := ⟨L.P, L.U.drew, L.hb, L.m, L.ml⟩
theorem Luw.gb (L : Luw base w bp bf bb bm g n cap c p rt M) : g ≠ bb := by
  rintro rfl
  rcases L.U.own.2 with ⟨h, _⟩ | ⟨g', cap', cur, h, _, hh, _⟩
  · cases h
  · injection h with h; injection h with h; injection h with h
    subst h
    rw [L.hb] at hh; injection hh with hh; injection hh with _ h3; exact absurd h3 (by decide)
theorem Luw.gcells (L : Luw base w bp bf bb bm g n cap c p rt M) : ∃ cs, w.heap[g]? = some (.cells cs 3 (0, 0)) := by
  rcases L.U.own.2 with ⟨h, _⟩ | ⟨g', cap', cur, h, _, hh, _⟩
  · cases h
  · injection h with h; injection h with h; injection h with h
    subst h
    exact ⟨_, hh⟩
theorem Luw.find (L : Luw base w bp bf bb bm g n cap c p rt M) (a : Nat) (ha : a < n) (ra : Int) (hra : Hid (rt.getD a 0 = ra)) : Calls Try.prog 46 #[.int .i64 (a : Int), .pointer (some ⟨bp, 0, none⟩), .pointer (some ⟨bf, 0, none⟩)] w
    fun e w' => e = .returned (.int .i64 ra) ∧ ∃ p', Luw base w' bp bf bb bm g n cap c p' rt M ∧ w.grownBy w' (some g) := by
  refine (find_any rt base bp bf g n cap (a + 1) a (by omega) w p L.P L.U ha).mono ?_
  rintro e w1 ⟨rfl, p1, P1, U1, _, hg⟩
  obtain ⟨cs, hcs⟩ := L.gcells
  exact ⟨ret_int hra.out, p1, ⟨P1, U1, (hg.block bb (blk_lt L.hb) (fun e => L.gb (by injection e with e; exact e.symm))).trans L.hb, L.m.kept hg (fun e => L.m.isCells hcs (by injection e)), L.ml⟩, hg⟩
end

section
variable {base : Nat} {w w' : World} {bp bf bb bm g n cap c : Nat} {p rt : List Int} {M : List (Option S38)}
theorem Luw.kept_ {row : Option Nat} {c' : Nat} {M' : List (Option S38)} (L : Luw base w bp bf bb bm g n cap c p rt M) (hg : w.grownBy w' row) (h1 : some bp ≠ row) (h2 : some bf ≠ row) (h3 : some bb ≠ row) (h4 : some g ≠ row)
    (m : MapAt w' bm c' M') (ml : M'.length = n) : Luw base w' bp bf bb bm g n cap c' p rt M' :=
  ⟨L.P, ⟨L.U.len, (hg.block bp (blk_lt L.U.hp) h1).trans L.U.hp, (hg.block bf (blk_lt L.U.hf) h2).trans L.U.hf, L.U.own.kept hg (.inr h4)⟩, (hg.block bb (blk_lt L.hb) h3).trans L.hb, m, ml⟩
theorem Luw.turned {c' : Nat} {M' : List (Option S38)} (L : Luw base w bp bf bb bm g n cap c p rt M) (hg : w.grownBy w' (some bm)) (m : MapAt w' bm c' M') (ml : M'.length = n) : Luw base w' bp bf bb bm g n cap c' p rt M' := by
  obtain ⟨cs, hcs⟩ := L.gcells
  exact L.kept_ hg (fun e => L.m.isCells L.U.hp (by injection e with e; exact e.symm)) (fun e => L.m.isCells L.U.hf (by injection e with e; exact e.symm)) (fun e => L.m.isCells L.hb (by injection e with e; exact e.symm)) (fun e => L.m.isCells hcs (by injection e with e; exact e.symm)) m ml
theorem Luw.below0 (L : Luw base w bp bf bb bm g n cap c p rt M) (hb : Below w.heap.size w w') : Luw base w' bp bf bb bm g n cap c p rt M :=
  L.kept_ (row := none) ⟨hb.os, hb.tape, hb.output, hb.size, fun i hi _ => hb.block i hi⟩ (by simp) (by simp) (by simp) (by simp) (L.m.below hb L.m.lt) L.ml
end

/-- what unite makes of the roots and the blobs -/
def uniteF (rt : List Int) (M : List (Option S38)) (a b : Nat) : Option (List Int × List (Option S38)) :=
  if a < rt.length ∧ b < rt.length then
    if rt.getD a 0 = rt.getD b 0 then some (rt, M)
    else match M.getD (mn (rt.getD a 0) (rt.getD b 0)).toNat none, M.getD (mx (rt.getD a 0) (rt.getD b 0)).toNat none with
      | some x, some y => if Okb x ∧ Okb y then some (rt.map (fun z => if z = mx (rt.getD a 0) (rt.getD b 0) then mn (rt.getD a 0) (rt.getD b 0) else z), (M.set (mn (rt.getD a 0) (rt.getD b 0)).toNat (some (joinF x y))).set (mx (rt.getD a 0) (rt.getD b 0)).toNat none) else none
      | _, _ => none
  else none

def UnitePost (base : Nat) (w : World) (bp bf bb bm g n cap c : Nat) (rt' : List Int) (M' : List (Option S38)) (e : Ending) (w' : World) : Prop :=
  e = .returned (.tuple #[]) ∧ ∃ p', Luw base w' bp bf bb bm g n cap (c + 1) p' rt' M' ∧ Chg w w' (fun i => i = g ∨ i = bm)

section
variable {base : Nat} {w : World} {bp bf bb bm g n cap c : Nat} {p rt : List Int} {M : List (Option S38)}
theorem MapAt.mono_ {w : World} {b c c' : Nat} {M : List (Option S38)} (h : MapAt w b c M) (hc : c ≤ c') : MapAt w b c' M := by
  obtain ⟨n, D, hn, h⟩ := h
  exact ⟨n, D, by omega, h⟩

set_option maxRecDepth 100000 in
set_option maxHeartbeats 1000000 in
theorem unite_same (a b : Nat) (ra : Int) (ha : a < n) (hb : b < n) (ea : Hid (rt.getD a 0 = ra)) (eb : Hid (rt.getD b 0 = ra)) (L : Luw base w bp bf bb bm g n cap c p rt M) :
    Calls Try.prog 47 #[.int .i64 (a : Int), .int .i64 (b : Int), .pointer (some ⟨bf, 0, none⟩), .pointer (some ⟨bp, 0, none⟩), .pointer (some ⟨bb, 0, none⟩)] w (UnitePost base w bp bf bb bm g n cap c rt M) := by
  have hc1 : w.cell? ⟨bf, 0, none⟩ = some (.func (.func 46) #[] #[.pointer (some ⟨bp, 0, none⟩), .pointer (some ⟨bf, 0, none⟩)]) := cell_of_one L.U.hf
  have HL := Lib.hid L
  clear L
  go_enter Try.func47, Try.ntmps47
  go_wp2_with fail
  refine start_ (n := 8) (S := fun w' => w'.cell? ⟨bf, 0, none⟩ = some (.func (.func 46) #[] #[.pointer (some ⟨bp, 0, none⟩), .pointer (some ⟨bf, 0, none⟩)])) (ds := []) #[false, false, false, false, false, false, false, false] (by kernel_rfl) rfl rfl (hc1) (fun hHeld => ?_)
  refine pure_ (i := 1) (N := some 8) (v := ?_) (a' := ?_) #[false, true, false, false, false, false, false, false] rfl rfl (by kernel_rfl) (fun _ _ _ h => h) (Or.inl ⟨by rfl, ?_⟩) ?_ ?_
  rotate_left
  · intro w'
    go_simp
    with_reducible rfl
  rotate_left
  · simp only [Act.put, List.setIfInBounds_toArray, List.set_cons_zero, List.set_cons_succ, i64_w, i32_w]
    rfl
  refine pure_ (i := 4) (N := some 11) (v := ?_) (a' := ?_) #[false, true, false, false, true, false, false, false] rfl rfl (by kernel_rfl) (fun _ _ _ h => h) (Or.inl ⟨by rfl, ?_⟩) ?_ ?_
  rotate_left
  · intro w'
    go_simp
    with_reducible rfl
  rotate_left
  · simp only [Act.put, List.setIfInBounds_toArray, List.set_cons_zero, List.set_cons_succ, i64_w, i32_w]
    rfl
  refine take_ (i := 0) (N := some 7) (v := ?_) (a' := ?_) #[true, true, false, false, true, false, false, false] rfl rfl (by kernel_rfl) (fun _ _ _ h => h) (Or.inl ⟨by rfl, ?_⟩) hHeld ?_ ?_
  rotate_left
  · intro w' s0
    go_simp
    with_reducible rfl
  rotate_left
  · simp only [Act.put, List.setIfInBounds_toArray, List.set_cons_zero, List.set_cons_succ, i64_w, i32_w]
    rfl
  refine take_ (i := 3) (N := some 10) (v := ?_) (a' := ?_) #[true, true, false, true, true, false, false, false] rfl rfl (by kernel_rfl) (fun _ _ _ h => h) (Or.inl ⟨by rfl, ?_⟩) hHeld ?_ ?_
  rotate_left
  · intro w' s0
    go_simp
    with_reducible rfl
  rotate_left
  · simp only [Act.put, List.setIfInBounds_toArray, List.set_cons_zero, List.set_cons_succ, i64_w, i32_w]
    rfl
  refine one_ (i := 2) (N := some 9) #[true, true, true, true, true, false, false, false] rfl rfl (by kernel_rfl) (by decide) (fun K hK => ?_)
  refine goesV #[.pointer (some ⟨bp, 0, none⟩), .pointer (some ⟨bf, 0, none⟩)] Try.func46 (by kernel_rfl) rfl #[.int .i64 (a : Int), .pointer (some ⟨bp, 0, none⟩), .pointer (some ⟨bf, 0, none⟩)] (by rfl) rfl rfl (by rfl) (by simp only [List.map_toArray, List.map_cons, List.map_nil, List.append_toArray, List.cons_append, List.nil_append]; rfl) ?_
  with_reducible refine (HL.out.drew.find a ha ra ea).mono ?_
  rintro e w1 ⟨rfl, p1, L10, hg10⟩
  refine ⟨_, rfl, ?_⟩
  have L1 := Lib.hid L10; have hg1 := Lib.hid hg10; have hk1 := cell_of_one L10.U.hf; clear L10 hg10
  refine hK.out _ _ (hk1) (fun hHeld => ?_)
  clear hK K
  refine norm_ (a' := ?_) ?_ ?_
  rotate_left
  · show Act.put _ (some 9) _ = _
    simp only [Act.put, List.setIfInBounds_toArray, List.set_cons_zero, List.set_cons_succ, i64_w, i32_w]
    rfl
  refine one_ (i := 5) (N := some 12) #[true, true, true, true, true, true, false, false] rfl rfl (by kernel_rfl) (by decide) (fun K hK => ?_)
  refine goesV #[.pointer (some ⟨bp, 0, none⟩), .pointer (some ⟨bf, 0, none⟩)] Try.func46 (by kernel_rfl) rfl #[.int .i64 (b : Int), .pointer (some ⟨bp, 0, none⟩), .pointer (some ⟨bf, 0, none⟩)] (by rfl) rfl rfl (by rfl) (by simp only [List.map_toArray, List.map_cons, List.map_nil, List.append_toArray, List.cons_append, List.nil_append]; rfl) ?_
  with_reducible refine (L1.out.find b hb ra eb).mono ?_
  rintro e w2 ⟨rfl, p2, L20, hg20⟩
  refine ⟨_, rfl, ?_⟩
  have L2 := Lib.hid L20; have hg2 := Lib.hid hg20; have hk2 := cell_of_one L20.U.hf; clear L20 hg20
  refine hK.out _ _ (hk2) (fun hHeld => ?_)
  clear hK K
  refine norm_ (a' := ?_) ?_ ?_
  rotate_left
  · show Act.put _ (some 12) _ = _
    simp only [Act.put, List.setIfInBounds_toArray, List.set_cons_zero, List.set_cons_succ, i64_w, i32_w]
    rfl
  refine pure_ (i := 6) (N := some 0) (v := ?_) (a' := ?_) #[true, true, true, true, true, true, true, false] rfl rfl (by kernel_rfl) (fun _ _ _ h => h) (Or.inl ⟨by rfl, ?_⟩) ?_ ?_
  rotate_left
  · intro w'
    go_simp
    with_reducible rfl
  rotate_left
  · simp only [Act.put, List.setIfInBounds_toArray, List.set_cons_zero, List.set_cons_succ, i64_w, i32_w]
    rfl
  refine pure_ (i := 7) (N := some 1) (v := ?_) (a' := ?_) #[true, true, true, true, true, true, true, true] rfl rfl (by kernel_rfl) (fun _ _ _ h => h) (Or.inl ⟨by rfl, ?_⟩) ?_ ?_
  rotate_left
  · intro w'
    go_simp
    with_reducible rfl
  rotate_left
  · simp only [Act.put, List.setIfInBounds_toArray, List.set_cons_zero, List.set_cons_succ, i64_w, i32_w]
    rfl
  refine done_ (by kernel_rfl) ?_

  go_wp2
  go_end0
  exact ⟨rfl, p2, ⟨L2.out.P, L2.out.U, L2.out.hb, MapAt.mono_ L2.out.m (Nat.le_succ c), L2.out.ml⟩, ((Chg.of_grown hg1.out (.inl rfl)).drew0).trans (Chg.of_grown hg2.out (.inl rfl))⟩

theorem Luw.joined (L : Luw base w bp bf bb bm g n cap c p rt M) (lo hi : Nat) (hlt : lo < hi) (hn : hi < n) (rlo : p.getD lo 0 = lo) (rhi : p.getD hi 0 = hi) :
    Luw base (w.setCell ⟨g, hi, none⟩ (.int .i64 (lo : Int))) bp bf bb bm g n cap c (p.set hi lo) (rt.map fun z => if z = (hi : Int) then (lo : Int) else z) M := by
  obtain ⟨cs, hcs⟩ := L.gcells
  exact ⟨L.P.join lo hi hlt (by rw [L.U.len]; exact hn) rlo rhi, L.U.set_ hi lo, (Below.heap_setCell w _ _ bb (fun e => L.gb e.symm)).trans L.hb,
    L.m.same (Below.heap_setCell w _ _ bm (fun e => L.m.isCells hcs e)), L.ml⟩

set_option maxRecDepth 100000 in
set_option maxHeartbeats 1000000 in
theorem unite_diff (a b lo hi : Nat) (ra rb : Int) (x y : S38) (ha : a < n) (hb : b < n) (ea : Hid (rt.getD a 0 = ra)) (eb : Hid (rt.getD b 0 = rb)) (hne : (ra == rb) = false) (hmn : mn ra rb = (lo : Int)) (hmx : mx ra rb = (hi : Int))
    (hlt0 : Hid (lo < hi)) (hhn : hi < n) (hx : Hid (M.getD lo none = some x)) (hy : Hid (M.getD hi none = some y)) (hox : Hid (Okb x)) (hoy : Hid (Okb y)) (hn9 : Hid (n ≤ 1000000000)) (hc9 : Hid (c ≤ 1000000000))
    (hroot : Hid (∀ p', Par p' rt → p'.getD lo 0 = lo ∧ p'.getD hi 0 = hi)) (L : Luw base w bp bf bb bm g n cap c p rt M) :
    Calls Try.prog 47 #[.int .i64 (a : Int), .int .i64 (b : Int), .pointer (some ⟨bf, 0, none⟩), .pointer (some ⟨bp, 0, none⟩), .pointer (some ⟨bb, 0, none⟩)] w
      (UnitePost base w bp bf bb bm g n cap c (rt.map fun z => if z = (hi : Int) then (lo : Int) else z) ((M.set lo (some (joinF x y))).set hi none)) := by
  have hc1 : w.cell? ⟨bf, 0, none⟩ = some (.func (.func 46) #[] #[.pointer (some ⟨bp, 0, none⟩), .pointer (some ⟨bf, 0, none⟩)]) := cell_of_one L.U.hf
  have hhi9 : Hid (hi ≤ 1000000000) := Lib.hid (by have := hn9.out; omega)
  have hlo9 : Hid (lo ≤ 1000000000) := Lib.hid (by have := hn9.out; have := hlt0.out; omega)
  have hloM : Hid (lo < M.length) := Lib.hid (by have := L.ml; have := hlt0.out; omega)
  have hhiM : Hid (hi < M.length) := Lib.hid (by have := L.ml; omega)
  have hi0 : (0 : Int) ≤ (hi : Int) := Int.natCast_nonneg _
  have hi1 : (hi : Int) < (n : Int) := by omega
  have HL := Lib.hid L
  clear L
  go_enter Try.func47, Try.ntmps47
  go_wp2_with fail
  refine start_ (n := 8) (S := fun w' => w'.cell? ⟨bf, 0, none⟩ = some (.func (.func 46) #[] #[.pointer (some ⟨bp, 0, none⟩), .pointer (some ⟨bf, 0, none⟩)])) (ds := []) #[false, false, false, false, false, false, false, false] (by kernel_rfl) rfl rfl (hc1) (fun hHeld => ?_)
  refine pure_ (i := 1) (N := some 8) (v := ?_) (a' := ?_) #[false, true, false, false, false, false, false, false] rfl rfl (by kernel_rfl) (fun _ _ _ h => h) (Or.inl ⟨by rfl, ?_⟩) ?_ ?_
  rotate_left
  · intro w'
    go_simp
    with_reducible rfl
  rotate_left
  · simp only [Act.put, List.setIfInBounds_toArray, List.set_cons_zero, List.set_cons_succ, i64_w, i32_w]
    rfl
  refine pure_ (i := 4) (N := some 11) (v := ?_) (a' := ?_) #[false, true, false, false, true, false, false, false] rfl rfl (by kernel_rfl) (fun _ _ _ h => h) (Or.inl ⟨by rfl, ?_⟩) ?_ ?_
  rotate_left
  · intro w'
    go_simp
    with_reducible rfl
  rotate_left
  · simp only [Act.put, List.setIfInBounds_toArray, List.set_cons_zero, List.set_cons_succ, i64_w, i32_w]
    rfl
  refine take_ (i := 0) (N := some 7) (v := ?_) (a' := ?_) #[true, true, false, false, true, false, false, false] rfl rfl (by kernel_rfl) (fun _ _ _ h => h) (Or.inl ⟨by rfl, ?_⟩) hHeld ?_ ?_
  rotate_left
  · intro w' s0
    go_simp
    with_reducible rfl
  rotate_left
  · simp only [Act.put, List.setIfInBounds_toArray, List.set_cons_zero, List.set_cons_succ, i64_w, i32_w]
    rfl
  refine take_ (i := 3) (N := some 10) (v := ?_) (a' := ?_) #[true, true, false, true, true, false, false, false] rfl rfl (by kernel_rfl) (fun _ _ _ h => h) (Or.inl ⟨by rfl, ?_⟩) hHeld ?_ ?_
  rotate_left
  · intro w' s0
    go_simp
    with_reducible rfl
  rotate_left
  · simp only [Act.put, List.setIfInBounds_toArray, List.set_cons_zero, List.set_cons_succ, i64_w, i32_w]
    rfl
  refine one_ (i := 2) (N := some 9) #[true, true, true, true, true, false, false, false] rfl rfl (by kernel_rfl) (by decide) (fun K hK => ?_)
  refine goesV #[.pointer (some ⟨bp, 0, none⟩), .pointer (some ⟨bf, 0, none⟩)] Try.func46 (by kernel_rfl) rfl #[.int .i64 (a : Int), .pointer (some ⟨bp, 0, none⟩), .pointer (some ⟨bf, 0, none⟩)] (by rfl) rfl rfl (by rfl) (by simp only [List.map_toArray, List.map_cons, List.map_nil, List.append_toArray, List.cons_append, List.nil_append]; rfl) ?_
  with_reducible refine (HL.out.drew.find a ha ra ea).mono ?_
  rintro e w1 ⟨rfl, p1, L10, hg10⟩
  refine ⟨_, rfl, ?_⟩
  have L1 := Lib.hid L10; have hg1 := Lib.hid hg10; have hk1 := cell_of_one L10.U.hf; clear L10 hg10
  refine hK.out _ _ (hk1) (fun hHeld => ?_)
  clear hK K
  refine norm_ (a' := ?_) ?_ ?_
  rotate_left
  · show Act.put _ (some 9) _ = _
    simp only [Act.put, List.setIfInBounds_toArray, List.set_cons_zero, List.set_cons_succ, i64_w, i32_w]
    rfl
  refine one_ (i := 5) (N := some 12) #[true, true, true, true, true, true, false, false] rfl rfl (by kernel_rfl) (by decide) (fun K hK => ?_)
  refine goesV #[.pointer (some ⟨bp, 0, none⟩), .pointer (some ⟨bf, 0, none⟩)] Try.func46 (by kernel_rfl) rfl #[.int .i64 (b : Int), .pointer (some ⟨bp, 0, none⟩), .pointer (some ⟨bf, 0, none⟩)] (by rfl) rfl rfl (by rfl) (by simp only [List.map_toArray, List.map_cons, List.map_nil, List.append_toArray, List.cons_append, List.nil_append]; rfl) ?_
  with_reducible refine (L1.out.find b hb rb eb).mono ?_
  rintro e w2 ⟨rfl, p2, L20, hg20⟩
  refine ⟨_, rfl, ?_⟩
  have L2 := Lib.hid L20; have hg2 := Lib.hid hg20; have hk2 := cell_of_one L20.U.hf; clear L20 hg20
  refine hK.out _ _ (hk2) (fun hHeld => ?_)
  clear hK K
  refine norm_ (a' := ?_) ?_ ?_
  rotate_left
  · show Act.put _ (some 12) _ = _
    simp only [Act.put, List.setIfInBounds_toArray, List.set_cons_zero, List.set_cons_succ, i64_w, i32_w]
    rfl
  refine pure_ (i := 6) (N := some 0) (v := ?_) (a' := ?_) #[true, true, true, true, true, true, true, false] rfl rfl (by kernel_rfl) (fun _ _ _ h => h) (Or.inl ⟨by rfl, ?_⟩) ?_ ?_
  rotate_left
  · intro w'
    go_simp
    with_reducible rfl
  rotate_left
  · simp only [Act.put, List.setIfInBounds_toArray, List.set_cons_zero, List.set_cons_succ, i64_w, i32_w]
    rfl
  refine pure_ (i := 7) (N := some 1) (v := ?_) (a' := ?_) #[true, true, true, true, true, true, true, true] rfl rfl (by kernel_rfl) (fun _ _ _ h => h) (Or.inl ⟨by rfl, ?_⟩) ?_ ?_
  rotate_left
  · intro w'
    go_simp
    with_reducible rfl
  rotate_left
  · simp only [Act.put, List.setIfInBounds_toArray, List.set_cons_zero, List.set_cons_succ, i64_w, i32_w]
    rfl
  refine done_ (by kernel_rfl) ?_

  have hkp := cell_of_one L2.out.U.hp
  have hkg := L2.out.U.at_ hi hhn
  have hfz := L2.out.U.own.frozenAt hi
  have R2 := hroot.out _ L2.out.P
  have L3 := Lib.hid (L2.out.joined lo hi hlt0.out hhn R2.1 R2.2)
  have HG3 := Lib.hid (grown_set w2 g hi (.int .i64 (lo : Int)))
  clear R2
  have hcb : (w2.setCell ⟨g, hi, none⟩ (.int .i64 (lo : Int))).cell? ⟨bb, 0, none⟩ = some (.map (some bm)) := cell_of_one L3.out.hb
  have HC0 := Lib.hid (((Chg.of_grown (S := fun i => i = g ∨ i = bm) hg1.out (.inl rfl)).drew0).trans ((Chg.of_grown hg2.out (.inl rfl)).trans (Chg.of_grown HG3.out (.inl rfl))))
  go_wp2_with fail
  clear hkp hkg hfz hk1 hk2
  generalize hw3 : w2.setCell ⟨g, hi, none⟩ (.int .i64 (lo : Int)) = w3 at *
  clear hw3
  refine start_ (n := 10) (S := fun w' => w'.cell? ⟨bb, 0, none⟩ = some (.map (some bm)) ∧ (Instr.lookup 66 (.map (some bm)) (.int .i64 (lo : Int)) false).run Try.prog w' = .ok (bval x) w' ∧ (Instr.lookup 66 (.map (some bm)) (.int .i64 (hi : Int)) false).run Try.prog w' = .ok (bval y) w') (ds := [9]) #[false, false, false, false, false, false, false, false, false, false] (by kernel_rfl) rfl rfl ⟨hcb, (L3.out.drew.m.look lo hlo9.out x hx.out), (L3.out.drew.m.look hi hhi9.out y hy.out)⟩ (fun hHeld => ?_)
  refine pure_ (i := 1) (N := some 27) (v := ?_) (a' := ?_) #[false, true, false, false, false, false, false, false, false, false] rfl rfl (by kernel_rfl) (fun _ _ _ h => h) (Or.inl ⟨by rfl, ?_⟩) ?_ ?_
  rotate_left
  · intro w'
    go_simp
    with_reducible rfl
  rotate_left
  · simp only [Act.put, List.setIfInBounds_toArray, List.set_cons_zero, List.set_cons_succ, i64_w, i32_w]
    rfl
  refine pure_ (i := 3) (N := some 29) (v := ?_) (a' := ?_) #[false, true, false, true, false, false, false, false, false, false] rfl rfl (by kernel_rfl) (fun _ _ _ h => h) (Or.inl ⟨by rfl, ?_⟩) ?_ ?_
  rotate_left
  · intro w'
    go_simp
    with_reducible rfl
  rotate_left
  · simp only [Act.put, List.setIfInBounds_toArray, List.set_cons_zero, List.set_cons_succ, i64_w, i32_w]
    rfl
  refine pure_ (i := 6) (N := some 32) (v := ?_) (a' := ?_) #[false, true, false, true, false, false, true, false, false, false] rfl rfl (by kernel_rfl) (fun _ _ _ h => h) (Or.inl ⟨by rfl, ?_⟩) ?_ ?_
  rotate_left
  · intro w'
    go_simp
    with_reducible rfl
  rotate_left
  · simp only [Act.put, List.setIfInBounds_toArray, List.set_cons_zero, List.set_cons_succ, i64_w, i32_w]
    rfl
  refine take_ (i := 0) (N := some 26) (v := ?_) (a' := ?_) #[true, true, false, true, false, false, true, false, false, false] rfl rfl (by kernel_rfl) (fun _ _ _ h => h) (Or.inl ⟨by rfl, ?_⟩) hHeld ?_ ?_
  rotate_left
  · rintro w' ⟨s0, s1, s2⟩
    go_simp
    with_reducible rfl
  rotate_left
  · simp only [Act.put, List.setIfInBounds_toArray, List.set_cons_zero, List.set_cons_succ, i64_w, i32_w]
    rfl
  refine take_ (i := 2) (N := some 28) (v := ?_) (a' := ?_) #[true, true, true, true, false, false, true, false, false, false] rfl rfl (by kernel_rfl) (fun _ _ _ h => h) (Or.inl ⟨by rfl, ?_⟩) hHeld ?_ ?_
  rotate_left
  · rintro w' ⟨s0, s1, s2⟩
    go_simp
    with_reducible rfl
  rotate_left
  · simp only [Act.put, List.setIfInBounds_toArray, List.set_cons_zero, List.set_cons_succ, i64_w, i32_w]
    rfl
  refine take_ (i := 4) (N := some 30) (v := ?_) (a' := ?_) #[true, true, true, true, true, false, true, false, false, false] rfl rfl (by kernel_rfl) (fun _ _ _ h => h) (Or.inl ⟨by rfl, ?_⟩) hHeld ?_ ?_
  rotate_left
  · rintro w' ⟨s0, s1, s2⟩
    go_simp
    with_reducible rfl
  rotate_left
  · simp only [Act.put, List.setIfInBounds_toArray, List.set_cons_zero, List.set_cons_succ, i64_w, i32_w]
    rfl
  refine take_ (i := 5) (N := some 31) (v := ?_) (a' := ?_) #[true, true, true, true, true, true, true, false, false, false] rfl rfl (by kernel_rfl) (fun _ _ _ h => h) (Or.inl ⟨by rfl, ?_⟩) hHeld ?_ ?_
  rotate_left
  · rintro w' ⟨s0, s1, s2⟩
    go_simp
    with_reducible rfl
  rotate_left
  · simp only [Act.put, List.setIfInBounds_toArray, List.set_cons_zero, List.set_cons_succ, i64_w, i32_w]
    rfl
  refine take_ (i := 7) (N := some 33) (v := ?_) (a' := ?_) #[true, true, true, true, true, true, true, true, false, false] rfl rfl (by kernel_rfl) (fun _ _ _ h => h) (Or.inl ⟨by rfl, ?_⟩) hHeld ?_ ?_
  rotate_left
  · rintro w' ⟨s0, s1, s2⟩
    go_simp
    with_reducible rfl
  rotate_left
  · simp only [Act.put, List.setIfInBounds_toArray, List.set_cons_zero, List.set_cons_succ, i64_w, i32_w]
    rfl
  refine one_ (i := 8) (N := some 34) #[true, true, true, true, true, true, true, true, true, false] rfl rfl (by kernel_rfl) (by decide) (fun K hK => ?_)
  refine goes_ Try.func48 (by kernel_rfl) rfl #[bval x, bval y] (by rfl) rfl rfl (by simp only [List.map_toArray, List.map_cons, List.map_nil]; rfl) ?_
  with_reducible refine (joined_any x y hox.out hoy.out _).mono ?_
  rintro e w4 ⟨rfl, hb4⟩
  refine ⟨_, rfl, ?_⟩
  have hc4 := (hb4.cell (p := ⟨bb, 0, none⟩) (blk_lt L3.out.hb)).trans hcb
  have m4 := L3.out.drew.m.below hb4 L3.out.m.lt
  have HB4 := Lib.hid hb4
  obtain ⟨w5, hup, m5, hg5⟩ := m4.put_ hc9.out lo hlo9.out hloM.out (joinF x y)
  have M4 := Lib.hid m4; have M5 := Lib.hid m5; have HG5 := Lib.hid hg5; clear m4 m5 hg5 hb4
  refine hK.out _ _ ⟨hc4, (M4.out.look lo hlo9.out x hx.out), (M4.out.look hi hhi9.out y hy.out)⟩ (fun hHeld => ?_)
  clear hK K
  refine norm_ (a' := ?_) ?_ ?_
  rotate_left
  · show Act.put _ (some 34) _ = _
    simp only [Act.put, List.setIfInBounds_toArray, List.set_cons_zero, List.set_cons_succ, i64_w, i32_w]
    rfl
  refine last_ (i := 9) (N := none) #[true, true, true, true, true, true, true, true, true, true] rfl rfl (by kernel_rfl) (by decide) (fun K hK => ?_)
  refine skip_ (w1 := ?_) (by rfl) rfl ?_ ?_
  rotate_left
  · go_simp
    rfl
  refine hK.out _ _ ?_
  clear hK K
  refine done_ (by kernel_rfl) ?_

  have hbb5 : w5.heap[bb]? = some (.cells #[.map (some bm)] 66 (0, 0)) := (HG5.out.block bb (blk_lt ((HB4.out.block bb (blk_lt L3.out.hb)).trans L3.out.hb)) (fun e => by
      injection e with e
      exact M4.out.isCells ((HB4.out.block bb (blk_lt L3.out.hb)).trans L3.out.hb) e.symm)).trans ((HB4.out.block bb (blk_lt L3.out.hb)).trans L3.out.hb)
  have hc5 := cell_of_one hbb5
  obtain ⟨w6, hdel, m6, hg6⟩ := M5.out.del_ hi hhi9.out (by rw [List.length_set]; exact hhiM.out) 0
  have M6 := Lib.hid m6
  have HG6 := Lib.hid hg6
  clear m6 hg6
  go_wp2_with fail
  go_wp2
  go_end0
  have L4 := L3.out.drew.below0 HB4.out
  have L5 := L4.turned HG5.out M5.out (by rw [List.length_set]; exact L4.ml)
  have L6 := L5.turned HG6.out M6.out (by rw [List.length_set]; exact L5.ml)
  exact ⟨rfl, p2.set hi lo, L6, (HC0.out.trans (Chg.of_below HB4.out).drew0).trans ((Chg.of_grown HG5.out (.inr rfl)).trans (Chg.of_grown HG6.out (.inr rfl)))⟩

theorem roots_of (P : Par p rt) (a : Nat) (ha : a < rt.length) : 0 ≤ rt.getD a 0 ∧ rt.getD a 0 ≤ a ∧ ∀ p', Par p' rt → p'.getD (rt.getD a 0).toNat 0 = rt.getD a 0 := by
  have h := P.root (a + 1) a (by omega) (by rw [P.len]; exact ha)
  exact ⟨h.1, h.2.1, fun p' P' => (P'.root (a + 1) a (by omega) (by rw [P'.len]; exact ha)).2.2⟩

theorem unite_any (a b : Nat) (rt' : List Int) (M' : List (Option S38)) (hu : uniteF rt M a b = some (rt', M')) (hn9 : n ≤ 1000000000) (hc9 : c ≤ 1000000000) (L : Luw base w bp bf bb bm g n cap c p rt M) :
    Calls Try.prog 47 #[.int .i64 (a : Int), .int .i64 (b : Int), .pointer (some ⟨bf, 0, none⟩), .pointer (some ⟨bp, 0, none⟩), .pointer (some ⟨bb, 0, none⟩)] w (UnitePost base w bp bf bb bm g n cap c rt' M') := by
  have hrn : rt.length = n := by rw [← L.P.len, L.U.len]
  unfold uniteF at hu
  split at hu
  next hab =>
    obtain ⟨a0, a1, a2⟩ := roots_of L.P a hab.1
    obtain ⟨b0, b1, b2⟩ := roots_of L.P b hab.2
    split at hu
    next he =>
      injection hu with hu
      injection hu with h1 h2
      subst h1 h2
      exact unite_same a b _ (by omega) (by omega) (Lib.hid rfl) (Lib.hid he.symm) L
    next he =>
      have key : ∃ lo hi : Nat, mn (rt.getD a 0) (rt.getD b 0) = (lo : Int) ∧ mx (rt.getD a 0) (rt.getD b 0) = (hi : Int) ∧ lo < hi ∧ hi < n ∧ ∀ p', Par p' rt → p'.getD lo 0 = lo ∧ p'.getD hi 0 = hi := by
        generalize rt.getD a 0 = ra at *
        generalize rt.getD b 0 = rb at *
        by_cases hl : ra < rb
        · refine ⟨ra.toNat, rb.toNat, ?_, ?_, by omega, by omega, fun p' P' => ⟨?_, ?_⟩⟩
          · unfold mn; split <;> omega
          · unfold mx; split <;> omega
          · rw [a2 p' P']; omega
          · rw [b2 p' P']; omega
        · refine ⟨rb.toNat, ra.toNat, ?_, ?_, by omega, by omega, fun p' P' => ⟨?_, ?_⟩⟩
          · unfold mn; split <;> omega
          · unfold mx; split <;> omega
          · rw [b2 p' P']; omega
          · rw [a2 p' P']; omega
      obtain ⟨lo, hi, h1, h2, h3, h4, h5⟩ := key
      rw [h1, h2] at hu
      simp only [Int.toNat_natCast] at hu
      split at hu
      next x y hx hy =>
        split at hu
        next hok =>
          injection hu with hu
          injection hu with e1 e2
          subst e1 e2
          exact unite_diff a b lo hi _ _ x y (by omega) (by omega) (Lib.hid rfl) (Lib.hid rfl) (by simp; exact he) h1 h2 (Lib.hid h3) h4 (Lib.hid hx) (Lib.hid hy) (Lib.hid hok.1) (Lib.hid hok.2) (Lib.hid hn9) (Lib.hid hc9) (Lib.hid h5) L
        next => cases hu
      next => cases hu
  next => cases hu
end
end Go.Proofs.Ytahibhipffojlaa.Unite
