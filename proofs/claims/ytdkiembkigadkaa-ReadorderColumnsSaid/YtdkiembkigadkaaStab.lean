/- slices.SortStableFunc by the left sides of boxes: the same numbers, sorted (fewer than 20). -/
import Derived.Test.YtdkiembkigadkaaDown
import Derived.Shelf.SlSortCmp.Insertion1
set_option linter.unusedSimpArgs false
set_option linter.unusedVariables false
namespace Go.Proofs.Ytdkiembkigadkaa.M
open Go.RowKit Go.Shelf Go.Sort Go.Proofs.YtdkiembkigadkaaW.PrintLast Go.Proofs.YtdkiembkigadkaaW.PrintWords Go.Proofs.YtdkiembkigadkaaW.PrintMore
open Go.Proofs.Ytdkiembkigadkaa.P (isort abv lef sorted_eq abv_tot lef_tot abv_iff lef_iff isort_perm isort_sorted isort_length mem_isort Tot)
theorem cmpX_swo (l : List S31) (m : Nat) : SWO (ltOf fun i k : Fin (m + 1) => cmpI (boxX l i.val) (boxX l k.val)) where
  irrefl x := by
    unfold ltOf
    rw [decide_eq_false_iff_not, cmpI_lt]
    omega
  trans x y z h1 h2 := by
    unfold ltOf at *
    rw [decide_eq_true_eq, cmpI_lt] at *
    omega
  ntrans x y z h1 h2 := by
    unfold ltOf at *
    rw [decide_eq_false_iff_not, cmpI_lt] at *
    omega
/-- what a permuted, sorted row of numbers says of the list -/
theorem sortedX {l : List S31} {m : Nat} {xs : List Int} (hx : ∀ x ∈ xs, 0 ≤ x ∧ x < (m + 1 : Nat)) {d : Array (Fin (m + 1))} (hp : PermIn 0 (toF m xs).toArray.size (toF m xs).toArray d)
    (hs : SortedIn (ltOf fun i k : Fin (m + 1) => cmpI (boxX l i.val) (boxX l k.val)) 0 (toF m xs).toArray.size d) :
    (ofF d.toList).Perm xs ∧ (ofF d.toList).Pairwise (fun a b => boxX l a ≤ boxX l b) ∧ d.toList.length = xs.length := by
  obtain ⟨hsz, _, hperm⟩ := hp
  have e1 : d.extract 0 (toF m xs).toArray.size = d := by rw [← hsz]; exact Array.extract_size
  rw [e1, Array.extract_size] at hperm
  have h2 : (toF m xs).toArray.toList.map (fun i => ((i.val : Nat) : Int)) = xs := ofF_toF hx
  have hp2 : (ofF d.toList).Perm xs := by
    have := hperm.map fun i : Fin (m + 1) => ((i.val : Nat) : Int)
    rw [h2] at this
    exact this
  refine ⟨hp2, ?_, by have := hp2.length_eq; unfold ofF at this; simpa using this⟩
  unfold ofF
  rw [List.pairwise_map, List.pairwise_iff_getElem]
  intro i j hi hj hij
  have hi' : i < d.size := by simpa using hi
  have hj' : j < d.size := by simpa using hj
  have h := hs i j (Nat.zero_le _) hij (by omega)
  rw [getElem!_pos d j hj', getElem!_pos d i hi'] at h
  unfold ltOf at h
  rw [decide_eq_false_iff_not, cmpI_lt] at h
  simp only [Array.getElem_toList]
  omega
theorem CmpX {l : List S31} {w : World} {bl g o c : Nat} {m gv size : Nat} (B : BxAt l w bl g o c) (hm : l.length = m + 1) (h1 : g ≠ gv) (h2 : bl ≠ gv) :
    CmpLays1 Try.prog 33 #[.pointer (some ⟨bl, 0, none⟩)] (encF m) (fun i k => cmpI (boxX l i.val) (boxX l k.val)) gv 0 size w := by
  intro mm os dk hs x y
  refine (cols_any (B.sort (encF m) gv 0 mm dk os h1 h2) x.val y.val (by have := x.isLt; omega) (by have := y.isLt; omega)).mono ?_
  rintro e w' ⟨rfl, rfl⟩
  exact ⟨rfl, 1, #[], by rw [grow_empty]; rfl⟩
set_option maxRecDepth 100000 in
/-- the sort's blocks, fewer than 20 numbers: one insertion sort -/
theorem stab_few {P : Program} (p : Option Addr) (n cap : Nat) (fv : Value) (w : World) (Q : Ending → World → Prop) (hn : n < 20)
    (hi : Calls Try.prog 61 #[.slice p n cap, .int .i64 0, .int .i64 (n : Int), fv] w fun e w' => e = .returned (.tuple #[]) ∧ Q e w') :
    Calls Try.prog 32 #[.slice p n cap, fv] w fun e w' => e = .returned (.tuple #[]) ∧ Q e w' := by
  have h1 : decide ((20 : Int) ≤ (n : Int)) = false := decide_eq_false (by omega)
  have h2 : decide ((20 : Int) < (n : Int)) = false := decide_eq_false (by omega)
  have hs : Calls Try.prog 49 #[.slice p n cap, .int .i64 (n : Int), fv] w fun e w' => e = .returned (.tuple #[]) ∧ Q (.returned (.tuple #[])) w' := by
    go_enter Try.func49, Try.ntmps49
    go_wp2
    refine wp_loop_rounds 1 ?_
    rw [rounds_succ]
    go_wp2_with (go_at_call 61; refine hi.mono ?_; rintro e w' ⟨rfl, hq⟩)
    refine wp_loop_rounds 1 ?_
    rw [rounds_succ]
    go_wp2
    go_end0
    exact ⟨rfl, hq⟩
  go_enter Try.func32, Try.ntmps32
  go_wp2_with (go_at_call 49; refine hs.mono ?_; rintro e w' ⟨rfl, hq⟩)
  go_end0
  exact ⟨rfl, hq⟩
theorem stab_own {l : List S31} {w : World} {bl g o c base : Nat} {v : Value} {xs : List Int} (B : BxAt l w bl g o c) (HR : Kd.R (Kd.int .i64) 3 w base (fun _ => True) v xs) (hx : ∀ x ∈ xs, 0 ≤ x ∧ x < (l.length : Int)) (hg : g < base) (hbl : bl < base) (hl : xs.length < 20) (hp : 0 < xs.length) :
    Calls Try.prog 32 #[v, .func (.func 33) #[] #[.pointer (some ⟨bl, 0, none⟩)]] w fun e w' => e = .returned (.tuple #[]) ∧ ∃ ys : List Int, ys.Perm xs ∧ ys.Pairwise (fun a b => boxX l a ≤ boxX l b) ∧ Kd.R (Kd.int .i64) 3 w' base (fun _ => True) v ys ∧ w.grownBy w' v.ownBlock := by
  obtain ⟨A, cap, e⟩ := Kd.R_slice HR
  obtain ⟨gv, cap', e2, hbase, hgv, _⟩ := Kd.R_form HR hp
  rw [e2] at HR
  subst e2
  obtain ⟨H, hlt, hge⟩ := holds_R HR
  obtain ⟨x0, hx0⟩ := List.exists_mem_of_length_pos hp
  obtain ⟨m, hm⟩ : ∃ m, l.length = m + 1 := ⟨l.length - 1, by have := hx x0 hx0; omega⟩
  rw [hm] at hx
  have hsz : (toF m xs).toArray.size = xs.length := by unfold toF; simp
  have hcmp := CmpX (gv := gv) (size := (toF m xs).toArray.size) B hm (by omega) (by omega)
  have hi := Any.insertionSortCmpFunc_s (P := Try.prog) (ρ := laysSF_ren) { laysSF with } (encF m) (fun i k => cmpI (boxX l i.val) (boxX l k.val)) 33 #[.pointer (some ⟨bl, 0, none⟩)] gv 0 cap' 0 (toF m xs).toArray.size (toF m xs).toArray (toF m xs).toArray w w (enters_of Try.func33 (by kernel_rfl) rfl) hcmp ⟨encF_one m, holds_F hx H, hlt⟩ rfl (SW.start (holds_F hx H)) (Nat.zero_le _) (Nat.le_refl _) (by omega)
  have hh := insertionSort_holds (cmpX_swo l m) (toF m xs).toArray 0 (toF m xs).toArray.size (Nat.zero_le _) (Nat.le_refl _)
  generalize Sort.insertionSort (ltOf fun i k : Fin (m + 1) => cmpI (boxX l i.val) (boxX l k.val)) (toF m xs).toArray 0 (toF m xs).toArray.size = d at hi hh
  obtain ⟨s1, s2, s3⟩ := sortedX hx hh.1 hh.2
  rw [hsz] at hi
  refine stab_few (P := Try.prog) (some ⟨gv, 0, none⟩) xs.length cap' _ w _ hl (hi.mono ?_)
  rintro e w' ⟨rfl, n, os, rfl⟩
  refine ⟨rfl, _, s1, s2, ?_⟩
  obtain ⟨r1, r2⟩ := R_sorted (m := m) (n := n) (os := os) HR s3
  exact ⟨r1, r2⟩
end Go.Proofs.Ytdkiembkigadkaa.M
