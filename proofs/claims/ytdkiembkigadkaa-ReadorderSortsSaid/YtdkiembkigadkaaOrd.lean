/- The numbers of boxes, made and sorted by the boxes' left sides. -/
import Derived.Test.YtdkiembkigadkaaStab
set_option linter.unusedSimpArgs false
set_option linter.unusedVariables false
namespace Go.Proofs.Ytdkiembkigadkaa.M
open Go.RowKit Go.Shelf Go.Sort Go.Proofs.YtdkiembkigadkaaW.PrintLast Go.Proofs.YtdkiembkigadkaaW.PrintWords Go.Proofs.YtdkiembkigadkaaW.PrintMore
open Go.Proofs.Ytdkiembkigadkaa.P (isort abv lef sorted_eq abv_tot lef_tot abv_iff lef_iff isort_perm isort_sorted isort_length mem_isort Tot)
def iota (n : Nat) : List Int := (List.range n).map fun i => ((i : Nat) : Int)
theorem iota_length (n : Nat) : (iota n).length = n := by unfold iota; simp
theorem mem_iota {n : Nat} {x : Int} : x ∈ iota n ↔ 0 ≤ x ∧ x < (n : Int) := by
  unfold iota
  rw [List.mem_map]
  constructor
  · rintro ⟨i, hi, rfl⟩
    have := List.mem_range.1 hi
    omega
  · rintro ⟨h0, h1⟩
    exact ⟨x.toNat, List.mem_range.2 (by omega), by omega⟩
theorem all_l0 (n : Nat) (hn : n ≤ 100000000) : ∀ (k i : Nat) (xs : List Int), xs.length = n → i ≤ n → n < k + i → xs.take i = iota i → readorder_all.l0 k xs (n : Int) (i : Int) = some (iota n) := by
  intro k
  induction k with
  | zero => intro i xs _ h1 h2 _; omega
  | succ k ih =>
    intro i xs hl hi hk ht
    simp only [readorder_all.l0]
    rcases Nat.lt_or_ge i n with h | h
    · rw [if_pos (by omega), if_pos (by omega), if_pos (by omega)]
      have e : wrap64 ((i : Int) + 1) = ((i + 1 : Nat) : Int) := by unfold wrap64; omega
      rw [e, Int.toNat_natCast]
      refine ih (i + 1) _ (by simpa using hl) (by omega) (by omega) ?_
      have hxi : i < xs.length := by omega
      rw [List.take_add_one, List.take_set_of_le (Nat.le_refl _), ht, List.getElem?_set_self hxi]
      unfold iota
      rw [List.range_succ, List.map_append]
      rfl
    · have e : i = n := by omega
      subst e
      rw [if_neg (by omega)]
      rw [List.take_of_length_le (by omega)] at ht
      rw [ht]
theorem all_f (n : Nat) (hn : n ≤ 100000000) : readorder_all.f (n + 1) (n : Int) = some (iota n) := by
  unfold readorder_all.f
  rw [if_pos (by omega), Int.toNat_natCast, if_pos (by omega), Option.bind_some, List.length_replicate]
  exact all_l0 n hn (n + 1) 0 _ (by simp) (by omega) (by omega) rfl
theorem all_any (n : Nat) (hn : n ≤ 100000000) (w : World) : Calls Try.prog 31 #[.int .i64 (n : Int)] w fun e w' => ∃ v0_ : Value, e = .returned v0_ ∧ Kd.R (Kd.int .i64) 3 w' w.heap.size (fun _ => True) v0_ (iota n) ∧ Below w.heap.size w w' :=
  readorder_all.calls (n + 1) (n : Int) (iota n) w (all_f n hn)
/-- no two boxes begin at one place -/
def distX (l : List S31) : Bool := (iota l.length).all fun i => (iota l.length).all fun k => decide (i = k) || decide (boxX l i ≠ boxX l k)
def ordX.f (l0 : List S31) : Option (List Int) := if l0.length < 20 ∧ distX l0 = true then some (isort (lef (boxX l0)) (iota l0.length)) else none
theorem sorted_dist {l : List S31} (hd : distX l = true) {ys : List Int} (hp : ys.Perm (iota l.length)) (hs : ys.Pairwise (fun a b => boxX l a ≤ boxX l b)) : ys = isort (lef (boxX l)) (iota l.length) := by
  refine sorted_eq (lef_tot _) hp ?_
  have hnd : ys.Nodup := hp.nodup_iff.2 (by
    unfold iota
    exact List.Pairwise.map _ (fun a b h e => h (by omega)) List.nodup_range)
  unfold distX at hd
  rw [List.all_eq_true] at hd
  have hm : ∀ a ∈ ys, ∀ b ∈ ys, a ≠ b → boxX l a ≠ boxX l b := fun a ha b hb hab => by
    have h1 := hd a (hp.mem_iff.1 ha)
    rw [List.all_eq_true] at h1
    have h2 := h1 b (hp.mem_iff.1 hb)
    simpa [hab] using h2
  rw [List.pairwise_iff_getElem] at hs ⊢
  have hnd' := List.pairwise_iff_getElem.1 hnd
  intro i j hi hj hij
  have h1 := hs i j hi hj hij
  have h2 := hm _ (List.getElem_mem hi) _ (List.getElem_mem hj) (hnd' i j hi hj hij)
  cases h : lef (boxX l) ys[j] ys[i]
  · rfl
  · rw [lef_iff] at h
    omega
theorem ord_any {A0 : Option Addr} {c0 : Nat} {l0 : List S31} {wi w w1 : World} {gb : Nat} {v : Value} {ys : List Int} (hr0 : Kd.C k31 wi A0 l0.length l0) (hb0 : Below wi.heap.size wi w) (hc : w.heap[gb]? = some (.cells #[.slice A0 l0.length c0] 22 (0, 0))) (hgb : gb = wi.heap.size)
    (hb : Below w.heap.size w w1) (HR : Kd.R (Kd.int .i64) 3 w1 w.heap.size (fun _ => True) v (iota l0.length)) (hf : ordX.f l0 = some ys) :
    Calls Try.prog 32 #[v, .func (.func 33) #[] #[.pointer (some ⟨gb, 0, none⟩)]] w1 fun e w' => e = .returned (.tuple #[]) ∧ Kd.R (Kd.int .i64) 3 w' w.heap.size (fun _ => True) v ys ∧ w1.grownBy w' v.ownBlock := by
  unfold ordX.f at hf
  split at hf
  case isFalse => cases hf
  rename_i hl
  injection hf with hf
  subst hf
  rcases Nat.eq_zero_or_pos l0.length with h0 | hp
  · have hx0 : l0 = [] := List.length_eq_zero_iff.1 h0
    subst hx0
    obtain ⟨A, c, e⟩ := Kd.R_slice HR
    subst e
    refine stab_few (P := Try.prog) A 0 c _ w1 _ (by omega) ?_
    refine (AnyF.insertionSortCmpFunc_none (P := Try.prog) (ρ := laysSF_ren) { laysSF with } A c _ w1).mono ?_
    rintro e w' ⟨rfl, rfl⟩
    exact ⟨rfl, HR, rfl, rfl, rfl, Nat.le_refl _, fun _ _ _ => rfl⟩
  · obtain ⟨ad, c, e0, _⟩ := Kd.C_get hr0 z31 0 (Int.le_refl _) (by omega)
    subst e0
    have hlt := blk_lt hc
    obtain ⟨B, hg⟩ := BxAt.mk_ (l := l0) (W := w) (bl := gb) (c := c0) hr0 hp hb0 ((blk_cell hc 0).trans rfl) hlt
    have hlen := iota_length l0.length
    refine (stab_own (B.below hb) HR (fun x hx => mem_iota.1 hx) (Nat.lt_of_lt_of_le hg hb0.size) hlt (by omega) (by omega)).mono ?_
    rintro e w' ⟨rfl, ys, p1, p2, p3, p4⟩
    rw [sorted_dist hl.2 p1 p2] at p3
    exact ⟨rfl, p3, p4⟩
theorem ordX_len {l0 : List S31} {ys : List Int} (hf : ordX.f l0 = some ys) : l0.length ≤ 100000000 := by
  unfold ordX.f at hf
  split at hf
  · omega
  · cases hf
end Go.Proofs.Ytdkiembkigadkaa.M
