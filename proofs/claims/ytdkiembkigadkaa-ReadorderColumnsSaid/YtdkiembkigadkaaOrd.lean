/- The numbers of boxes, made and sorted by the boxes' left sides; equal ones keep their order. -/
import Derived.Test.YtdkiembkigadkaaStabW
set_option linter.unusedSimpArgs false
set_option linter.unusedVariables false
namespace Go.Proofs.Ytdkiembkigadkaa.M
open Go.RowKit Go.Shelf Go.Sort Go.Proofs.YtdkiembkigadkaaW.PrintLast Go.Proofs.YtdkiembkigadkaaW.PrintWords Go.Proofs.YtdkiembkigadkaaW.PrintMore
open Go.Proofs.Ytdkiembkigadkaa.P (isort abv lef sorted_eq abv_tot lef_tot abv_iff lef_iff isort_perm isort_sorted isort_length mem_isort Tot So)
theorem lexK (X Z N i k : Int) (hi : 0 ≤ i) (hk : 0 ≤ k) (hiN : i < N) (hkN : k < N) : (X < Z ∨ (X = Z ∧ i < k)) ↔ X * N + i < Z * N + k := by
  have st : ∀ a b : Int, a < b → a * N + N ≤ b * N := fun a b h => by
    have := Int.mul_le_mul_of_nonneg_right (show a + 1 ≤ b by omega) (show 0 ≤ N by omega)
    rw [Int.add_mul, Int.one_mul] at this
    exact this
  constructor
  · rintro (h | ⟨rfl, h⟩)
    · have := st X Z h
      omega
    · omega
  · intro h
    by_cases h1 : X < Z
    · exact .inl h1
    · by_cases h2 : X = Z
      · subst h2
        exact .inr ⟨rfl, by omega⟩
      · have := st Z X (by omega)
        omega
def keyX (l : List S31) (m : Nat) (i : Fin (m + 1)) : Int := boxX l i.val * ((m : Int) + 1) + i.val
theorem keyX_cmp (l : List S31) (m : Nat) (x y : Fin (m + 1)) (h : y.val < x.val) : cmpI (boxX l x.val) (boxX l y.val) < 0 ↔ keyX l m x < keyX l m y := by
  have hx := x.isLt
  have hy := y.isLt
  rw [cmpI_lt]
  unfold keyX
  rw [← lexK (boxX l x.val) (boxX l y.val) ((m : Int) + 1) x.val y.val (by omega) (by omega) (by omega) (by omega)]
  constructor
  · exact fun h => .inl h
  · rintro (h | ⟨_, h⟩)
    · exact h
    · omega
theorem toF_val {m : Nat} {xs : List Int} (hx : ∀ x ∈ xs, 0 ≤ x ∧ x < (m + 1 : Nat)) {p : Nat} (hp : p < xs.length) : ((((toF m xs).toArray[p]! : Fin (m + 1)).val : Nat) : Int) = xs[p] := by
  have h := ofF_toF hx
  have hl : (toF m xs).length = xs.length := by unfold toF; simp
  have h2 : (ofF (toF m xs))[p]? = xs[p]? := by rw [h]
  unfold ofF at h2
  rw [List.getElem?_map, List.getElem?_eq_getElem hp, List.getElem?_eq_getElem (show p < (toF m xs).length by omega)] at h2
  injection h2 with h2
  rw [← h2, getElem!_pos (toF m xs).toArray p (by simpa [hl] using hp)]
  simp
/-- what the sort leaves -/
theorem sortedL {l : List S31} {m : Nat} {xs : List Int} (hx : ∀ x ∈ xs, 0 ≤ x ∧ x < (m + 1 : Nat)) {d : Array (Fin (m + 1))} (hp : PermIn 0 (toF m xs).toArray.size (toF m xs).toArray d)
    (hs : So (keyX l m) 0 (toF m xs).toArray.size d) :
    (ofF d.toList).Perm xs ∧ (ofF d.toList).Pairwise (fun a b => lef (boxX l) b a = false) ∧ d.toList.length = xs.length := by
  obtain ⟨hsz, _, hperm⟩ := hp
  have e1 : d.extract 0 (toF m xs).toArray.size = d := by rw [← hsz]; exact Array.extract_size
  rw [e1, Array.extract_size] at hperm
  have h2 : (toF m xs).toArray.toList.map (fun i => ((i.val : Nat) : Int)) = xs := ofF_toF hx
  have hp2 : (ofF d.toList).Perm xs := by
    have := hperm.map fun i : Fin (m + 1) => ((i.val : Nat) : Int)
    rw [h2] at this
    exact this
  refine ⟨hp2, ?_, by have := hp2.length_eq; unfold ofF at this; simpa using this⟩
  unfold ofF
  rw [List.pairwise_map, List.pairwise_iff_getElem]
  intro i j hi hj hij
  have hi' : i < d.size := by simpa using hi
  have hj' : j < d.size := by simpa using hj
  have h := hs i j (Nat.zero_le _) hij (by omega)
  rw [getElem!_pos d j hj', getElem!_pos d i hi'] at h
  simp only [Array.getElem_toList]
  have hx1 := d[i].isLt
  have hx2 := d[j].isLt
  unfold keyX at h
  have hk := lexK (boxX l d[j].val) (boxX l d[i].val) ((m : Int) + 1) d[j].val d[i].val (by omega) (by omega) (by omega) (by omega)
  cases hl : lef (boxX l) ((d[j].val : Nat) : Int) ((d[i].val : Nat) : Int)
  · rfl
  · rw [lef_iff, hk] at hl
    omega
set_option maxRecDepth 100000 in
/-- the sort's call, out of the blocks' -/
theorem stab_call (p : Option Addr) (n cap : Nat) (fv : Value) (w : World) (Q : Ending → World → Prop)
    (hs : Calls Try.prog 49 #[.slice p n cap, .int .i64 (n : Int), fv] w fun e w' => e = .returned (.tuple #[]) ∧ Q e w') :
    Calls Try.prog 32 #[.slice p n cap, fv] w fun e w' => e = .returned (.tuple #[]) ∧ Q e w' := by
  go_enter Try.func32, Try.ntmps32
  go_wp2_with (go_at_call 49; refine hs.mono ?_; rintro e w' ⟨rfl, hq⟩)
  go_end0
  exact ⟨rfl, hq⟩
theorem stab_any {l : List S31} {w : World} {bl g o c base : Nat} {v : Value} {xs : List Int} (B : BxAt l w bl g o c) (HR : Kd.R (Kd.int .i64) 3 w base (fun _ => True) v xs) (hx : ∀ x ∈ xs, 0 ≤ x ∧ x < (l.length : Int)) (hg : g < base) (hbl : bl < base) (hl : xs.length ≤ 1000000000) (hp : 0 < xs.length) (ha : xs.Pairwise (· < ·)) :
    Calls Try.prog 32 #[v, .func (.func 33) #[] #[.pointer (some ⟨bl, 0, none⟩)]] w fun e w' => e = .returned (.tuple #[]) ∧ ∃ ys : List Int, ys.Perm xs ∧ ys.Pairwise (fun a b => lef (boxX l) b a = false) ∧ Kd.R (Kd.int .i64) 3 w' base (fun _ => True) v ys ∧ w.grownBy w' v.ownBlock := by
  obtain ⟨A, cap, e⟩ := Kd.R_slice HR
  obtain ⟨gv, cap', e2, hbase, hgv, _⟩ := Kd.R_form HR hp
  rw [e2] at HR
  subst e2
  obtain ⟨H, hlt, hge⟩ := holds_R HR
  obtain ⟨x0, hx0⟩ := List.exists_mem_of_length_pos hp
  obtain ⟨m, hm⟩ : ∃ m, l.length = m + 1 := ⟨l.length - 1, by have := hx x0 hx0; omega⟩
  rw [hm] at hx
  have hsz : (toF m xs).toArray.size = xs.length := by unfold toF; simp
  have hcmp := CmpX (gv := gv) (size := (toF m xs).toArray.size) B hm (by omega) (by omega)
  have hi := stable_s (keyX l m) (encF m) (fun i k => cmpI (boxX l i.val) (boxX l k.val)) (fun i => i.val) (keyX_cmp l m) 33 #[.pointer (some ⟨bl, 0, none⟩)] gv 0 cap' (toF m xs).toArray w (enters_of Try.func33 (by kernel_rfl) rfl) hcmp ⟨encF_one m, holds_F hx H, hlt⟩ (SW.start (holds_F hx H)) (by omega) (fun p q h1 h2 => by
    rw [hsz] at h2
    have e1 := toF_val hx (show p < xs.length by omega)
    have e2 := toF_val hx h2
    have := List.pairwise_iff_getElem.1 ha p q (by omega) h2 h1
    omega)
  rw [hsz] at hi
  refine stab_call (some ⟨gv, 0, none⟩) xs.length cap' _ w _ (hi.mono ?_)
  rintro e w' ⟨rfl, d, h1, h2, n, os, rfl⟩
  rw [← hsz] at h1 h2
  obtain ⟨s1, s2, s3⟩ := sortedL hx h1 h2
  refine ⟨rfl, _, s1, s2, ?_⟩
  obtain ⟨r1, r2⟩ := R_sorted (m := m) (n := n) (os := os) HR s3
  exact ⟨r1, r2⟩
def iota (n : Nat) : List Int := (List.range n).map fun i => ((i : Nat) : Int)
theorem iota_length (n : Nat) : (iota n).length = n := by unfold iota; simp
theorem mem_iota {n : Nat} {x : Int} : x ∈ iota n ↔ 0 ≤ x ∧ x < (n : Int) := by
  unfold iota
  rw [List.mem_map]
  constructor
  · rintro ⟨i, hi, rfl⟩
    have := List.mem_range.1 hi
    omega
  · rintro ⟨h0, h1⟩
    exact ⟨x.toNat, List.mem_range.2 (by omega), by omega⟩
theorem all_l0 (n : Nat) (hn : n ≤ 100000000) : ∀ (k i : Nat) (xs : List Int), xs.length = n → i ≤ n → n < k + i → xs.take i = iota i → readorder_all.l0 k xs (n : Int) (i : Int) = some (iota n) := by
  intro k
  induction k with
  | zero => intro i xs _ h1 h2 _; omega
  | succ k ih =>
    intro i xs hl hi hk ht
    simp only [readorder_all.l0]
    rcases Nat.lt_or_ge i n with h | h
    · rw [if_pos (by omega), if_pos (by omega), if_pos (by omega)]
      have e : wrap64 ((i : Int) + 1) = ((i + 1 : Nat) : Int) := by unfold wrap64; omega
      rw [e, Int.toNat_natCast]
      refine ih (i + 1) _ (by simpa using hl) (by omega) (by omega) ?_
      have hxi : i < xs.length := by omega
      rw [List.take_add_one, List.take_set_of_le (Nat.le_refl _), ht, List.getElem?_set_self hxi]
      unfold iota
      rw [List.range_succ, List.map_append]
      rfl
    · have e : i = n := by omega
      subst e
      rw [if_neg (by omega)]
      rw [List.take_of_length_le (by omega)] at ht
      rw [ht]
theorem all_f (n : Nat) (hn : n ≤ 100000000) : readorder_all.f (n + 1) (n : Int) = some (iota n) := by
  unfold readorder_all.f
  rw [if_pos (by omega), Int.toNat_natCast, if_pos (by omega), Option.bind_some, List.length_replicate]
  exact all_l0 n hn (n + 1) 0 _ (by simp) (by omega) (by omega) rfl
theorem all_any (n : Nat) (hn : n ≤ 100000000) (w : World) : Calls Try.prog 31 #[.int .i64 (n : Int)] w fun e w' => ∃ v0_ : Value, e = .returned v0_ ∧ Kd.R (Kd.int .i64) 3 w' w.heap.size (fun _ => True) v0_ (iota n) ∧ Below w.heap.size w w' :=
  readorder_all.calls (n + 1) (n : Int) (iota n) w (all_f n hn)
theorem iota_asc (n : Nat) : (iota n).Pairwise (· < ·) := by
  unfold iota
  exact List.Pairwise.map _ (fun a b h => by omega) List.pairwise_lt_range
def ordX.f (l0 : List S31) : Option (List Int) := if l0.length ≤ 100000000 then some (isort (lef (boxX l0)) (iota l0.length)) else none
theorem ord_any {A0 : Option Addr} {c0 : Nat} {l0 : List S31} {wi w w1 : World} {gb : Nat} {v : Value} {ys : List Int} (hr0 : Kd.C k31 wi A0 l0.length l0) (hb0 : Below wi.heap.size wi w) (hc : w.heap[gb]? = some (.cells #[.slice A0 l0.length c0] 22 (0, 0))) (hgb : gb = wi.heap.size)
    (hb : Below w.heap.size w w1) (HR : Kd.R (Kd.int .i64) 3 w1 w.heap.size (fun _ => True) v (iota l0.length)) (hf : ordX.f l0 = some ys) :
    Calls Try.prog 32 #[v, .func (.func 33) #[] #[.pointer (some ⟨gb, 0, none⟩)]] w1 fun e w' => e = .returned (.tuple #[]) ∧ Kd.R (Kd.int .i64) 3 w' w.heap.size (fun _ => True) v ys ∧ w1.grownBy w' v.ownBlock := by
  unfold ordX.f at hf
  split at hf
  case isFalse => cases hf
  rename_i hl
  injection hf with hf
  subst hf
  rcases Nat.eq_zero_or_pos l0.length with h0 | hp
  · have hx0 : l0 = [] := List.length_eq_zero_iff.1 h0
    subst hx0
    obtain ⟨A, c, e⟩ := Kd.R_slice HR
    subst e
    refine stab_few (P := Try.prog) A 0 c _ w1 _ (by omega) ?_
    refine (AnyF.insertionSortCmpFunc_none (P := Try.prog) (ρ := laysSF_ren) { laysSF with } A c _ w1).mono ?_
    rintro e w' ⟨rfl, rfl⟩
    exact ⟨rfl, HR, rfl, rfl, rfl, Nat.le_refl _, fun _ _ _ => rfl⟩
  · obtain ⟨ad, c, e0, _⟩ := Kd.C_get hr0 z31 0 (Int.le_refl _) (by omega)
    subst e0
    have hlt := blk_lt hc
    obtain ⟨B, hg⟩ := BxAt.mk_ (l := l0) (W := w) (bl := gb) (c := c0) hr0 hp hb0 ((blk_cell hc 0).trans rfl) hlt
    have hlen := iota_length l0.length
    refine (stab_any (B.below hb) HR (fun x hx => mem_iota.1 hx) (Nat.lt_of_lt_of_le hg hb0.size) hlt (by omega) (by omega) (iota_asc _)).mono ?_
    rintro e w' ⟨rfl, ys, p1, p2, p3, p4⟩
    rw [sorted_eq (lef_tot _) p1 p2] at p3
    exact ⟨rfl, p3, p4⟩
theorem ordX_len {l0 : List S31} {ys : List Int} (hf : ordX.f l0 = some ys) : l0.length ≤ 100000000 := by
  unfold ordX.f at hf
  split at hf
  · omega
  · cases hf
end Go.Proofs.Ytdkiembkigadkaa.M
