/- slices.Sorted of a map's keys: the numbers that the map has. -/
import Derived.Test.YtdkiembkigadkaaMapI
import Derived.Shelf.SlIterI.Nil
import Derived.Shelf.Sort.Plain
import Derived.Shelf.Slices.In.SortNone
set_option linter.unusedSimpArgs false
set_option linter.unusedVariables false
namespace Go.Proofs.Ytdkiembkigadkaa.Map
open Go.RowKit Go.Maps Go.Sort Go.Shelf Go.Proofs.YtdkiembkigadkaaW.PrintLast Go.Proofs.YtdkiembkigadkaaW.PrintWords Go.Proofs.YtdkiembkigadkaaW.PrintMore Go.Proofs.Ytdkiembkigadkaa.M
def laysK_ren : Go.Shelf.Ren := ⟨fun | 7 => 29 | 10 => 48 | n => n, fun | 23 => 45 | 26 => 3 | 3 => 3 | 28 => 48 | 0 => 0 | 27 => 47 | 33 => 66 | 4 => 4 | n => n, fun | n => n⟩
theorem laysK : SlLaysZI.n7 Try.prog laysK_ren := {
  mixed := by kernel_rfl
  f7 := ⟨Try.f29.name, by decide, Try.func29.trans (congrArg some (by kernel_rfl))⟩
  f10 := ⟨Try.f48.name, by decide, Try.func48.trans (congrArg some (by kernel_rfl))⟩
  t0 := Try.underlying0
  a0 := Try.isAgg0
  z0 := Try.sizeOf0
  v0 := Try.zeroValue0
  t4 := Try.underlying4
  a4 := Try.isAgg4
  z4 := Try.sizeOf4
  v4 := Try.zeroValue4
  t23 := Try.underlying45
  a23 := Try.isAgg45
  z23 := Try.sizeOf45
  v23 := Try.zeroValue45
  t26 := Try.underlying3
  a26 := Try.isAgg3
  z26 := Try.sizeOf3
  v26 := Try.zeroValue3
  t27 := Try.underlying47
  a27 := Try.isAgg47
  z27 := Try.sizeOf47
  v27 := Try.zeroValue47
  t28 := Try.underlying48
  a28 := Try.isAgg48
  z28 := Try.sizeOf48
  v28 := Try.zeroValue48
  t33 := Try.underlying66
  a33 := Try.isAgg66
  z33 := Try.sizeOf66
  v33 := Try.zeroValue66 }
def laysS_ren : Go.Shelf.Ren := ⟨fun | 6 => 28 | 8 => 46 | 9 => 47 | 11 => 58 | 13 => 60 | 12 => 59 | 23 => 73 | 24 => 74 | 14 => 64 | 15 => 65 | 16 => 66 | 17 => 67 | 18 => 68 | 19 => 69 | 20 => 70 | 21 => 71 | 22 => 72 | 25 => 83 | 26 => 84 | 27 => 85 | 28 => 86 | 29 => 87 | 30 => 50 | 31 => 92 | n => n, fun | 26 => 3 | 28 => 48 | 24 => 24 | 0 => 0 | 3 => 3 | 37 => 75 | 48 => 88 | 50 => 90 | 4 => 4 | 40 => 80 | 39 => 79 | 45 => 85 | 5 => 5 | 9 => 9 | 51 => 95 | 55 => 99 | 57 => 103 | 58 => 104 | 33 => 66 | n => n, fun | n => n⟩
theorem laysS : SlLaysZI.n6 Try.prog laysS_ren := {
  mixed := by kernel_rfl
  f6 := ⟨Try.f28.name, by decide, Try.func28.trans (congrArg some (by kernel_rfl))⟩
  f8 := ⟨Try.f46.name, by decide, Try.func46.trans (congrArg some (by kernel_rfl))⟩
  f11 := ⟨Try.f58.name, by decide, Try.func58.trans (congrArg some (by kernel_rfl))⟩
  t0 := Try.underlying0
  a0 := Try.isAgg0
  z0 := Try.sizeOf0
  v0 := Try.zeroValue0
  t24 := Try.underlying24
  a24 := Try.isAgg24
  z24 := Try.sizeOf24
  v24 := Try.zeroValue24
  t26 := Try.underlying3
  a26 := Try.isAgg3
  z26 := Try.sizeOf3
  v26 := Try.zeroValue3
  t28 := Try.underlying48
  a28 := Try.isAgg48
  z28 := Try.sizeOf48
  v28 := Try.zeroValue48
  i26 := by kernel_rfl }
def laysSort_ren : Go.Shelf.Ren := ⟨fun | 189 => 47 | 125 => 60 | 257 => 59 | 128 => 73 | 129 => 74 | 294 => 64 | 295 => 65 | 296 => 66 | 297 => 67 | 298 => 68 | 299 => 69 | 216 => 70 | 300 => 71 | 301 => 72 | 328 => 83 | 329 => 84 | 330 => 85 | 331 => 86 | 332 => 87 | 215 => 50 | 343 => 92 | n => n, fun | 28 => 24 | 3 => 3 | 46 => 75 | 0 => 0 | 51 => 88 | 53 => 90 | 4 => 4 | 183 => 80 | 182 => 79 | 131 => 85 | 5 => 5 | 9 => 9 | 218 => 95 | 222 => 99 | 228 => 103 | 229 => 104 | n => n, fun | n => n⟩
theorem laysSort : Lays.n189 Try.prog laysSort_ren := {
  mixed := by kernel_rfl
  f125 := Try.func60.trans (congrArg some (by kernel_rfl))
  f128 := Try.func73.trans (congrArg some (by kernel_rfl))
  f129 := Try.func74.trans (congrArg some (by kernel_rfl))
  f189 := Try.func47.trans (congrArg some (by kernel_rfl))
  f215 := Try.func50.trans (congrArg some (by kernel_rfl))
  f216 := Try.func70.trans (congrArg some (by kernel_rfl))
  f257 := Try.func59.trans (congrArg some (by kernel_rfl))
  f294 := Try.func64.trans (congrArg some (by kernel_rfl))
  f295 := Try.func65.trans (congrArg some (by kernel_rfl))
  f296 := Try.func66.trans (congrArg some (by kernel_rfl))
  f297 := Try.func67.trans (congrArg some (by kernel_rfl))
  f298 := Try.func68.trans (congrArg some (by kernel_rfl))
  f299 := Try.func69.trans (congrArg some (by kernel_rfl))
  f300 := Try.func71.trans (congrArg some (by kernel_rfl))
  f301 := Try.func72.trans (congrArg some (by kernel_rfl))
  f328 := Try.func83.trans (congrArg some (by kernel_rfl))
  f329 := Try.func84.trans (congrArg some (by kernel_rfl))
  f330 := Try.func85.trans (congrArg some (by kernel_rfl))
  f331 := Try.func86.trans (congrArg some (by kernel_rfl))
  f332 := Try.func87.trans (congrArg some (by kernel_rfl))
  f343 := Try.func92.trans (congrArg some (by kernel_rfl))
  t0 := Try.underlying0
  a0 := Try.isAgg0
  z0 := Try.sizeOf0
  v0 := Try.zeroValue0
  t3 := Try.underlying3
  a3 := Try.isAgg3
  z3 := Try.sizeOf3
  v3 := Try.zeroValue3
  t4 := Try.underlying4
  a4 := Try.isAgg4
  z4 := Try.sizeOf4
  v4 := Try.zeroValue4
  t5 := Try.underlying5
  a5 := Try.isAgg5
  z5 := Try.sizeOf5
  v5 := Try.zeroValue5
  t9 := Try.underlying9
  a9 := Try.isAgg9
  z9 := Try.sizeOf9
  v9 := Try.zeroValue9
  t28 := Try.underlying24
  a28 := Try.isAgg24
  z28 := Try.sizeOf24
  v28 := Try.zeroValue24
  t46 := Try.underlying75
  a46 := Try.isAgg75
  z46 := Try.sizeOf75
  v46 := Try.zeroValue75
  t51 := Try.underlying88
  a51 := Try.isAgg88
  z51 := Try.sizeOf88
  v51 := Try.zeroValue88
  t53 := Try.underlying90
  a53 := Try.isAgg90
  z53 := Try.sizeOf90
  v53 := Try.zeroValue90
  t131 := Try.underlying85
  a131 := Try.isAgg85
  z131 := Try.sizeOf85
  v131 := Try.zeroValue85
  t182 := Try.underlying79
  a182 := Try.isAgg79
  z182 := Try.sizeOf79
  v182 := Try.zeroValue79
  t183 := Try.underlying80
  a183 := Try.isAgg80
  z183 := Try.sizeOf80
  v183 := Try.zeroValue80
  t218 := Try.underlying95
  a218 := Try.isAgg95
  z218 := Try.sizeOf95
  v218 := Try.zeroValue95
  t222 := Try.underlying99
  a222 := Try.isAgg99
  z222 := Try.sizeOf99
  v222 := Try.zeroValue99
  t228 := Try.underlying103
  a228 := Try.isAgg103
  z228 := Try.sizeOf103
  v228 := Try.zeroValue103
  t229 := Try.underlying104
  a229 := Try.isAgg104
  z229 := Try.sizeOf104
  v229 := Try.zeroValue104 }
/-- the keys that a map has -/
def present (n : Nat) (f : Nat → Option Nat) : List Int := ((List.range n).filter fun k => (f k).isSome).map fun k => ((k : Nat) : Int)
theorem mem_present {n : Nat} {f : Nat → Option Nat} {x : Int} : x ∈ present n f ↔ ∃ k : Nat, x = k ∧ k < n ∧ (f k).isSome = true := by
  unfold present
  simp only [List.mem_map, List.mem_filter, List.mem_range]
  constructor
  · rintro ⟨k, ⟨h1, h2⟩, rfl⟩
    exact ⟨k, rfl, h1, h2⟩
  · rintro ⟨k, rfl, h1, h2⟩
    exact ⟨k, ⟨h1, h2⟩, rfl⟩
theorem present_lt {n : Nat} {f : Nat → Option Nat} : (present n f).Pairwise (· < ·) := by
  unfold present
  rw [List.pairwise_map]
  refine List.Pairwise.filter _ ?_
  exact List.pairwise_lt_range.imp (fun h => by omega)
theorem present_nodup {n : Nat} {f : Nat → Option Nat} : (present n f).Nodup := present_lt.imp (fun h => by omega)
theorem present_length {n : Nat} {f : Nat → Option Nat} : (present n f).length ≤ n := by
  unfold present
  rw [List.length_map]
  exact Nat.le_trans (List.length_filter_le _ _) (by simp)
section
variable {w : World} {b q n : Nat} {f : Nat → Option Nat} {D : D0}
theorem keys_present (ho : w.ownsMap Try.prog 3 (plainElem Try.prog 3) b q D) (hr : MRel n f D) : (present n f).Perm (Go.intKeys D) := by
  obtain ⟨es, rfl, hp, _⟩ := ho.entries law3
  have hkk : ∀ p ∈ es, ∃ k : Nat, p.1 = key k := by
    intro p hpm
    obtain ⟨k, _, h⟩ := hr.only p.1 (List.any_eq_true.2 ⟨p, hpm, WideAt.sameKey_self (by
      obtain ⟨es', e', _, h2⟩ := ho.entries law3
      injection e' with e'
      subst e'
      exact h2 p hpm)⟩)
    exact ⟨k, h⟩
  refine Go.perm_intKeys hp (fun p hpm => ?_) present_nodup fun x => ?_
  · obtain ⟨k, h⟩ := hkk p hpm
    exact ⟨_, h⟩
  · rw [mem_present]
    constructor
    · rintro ⟨k, rfl, h1, h2⟩
      have := hr.has k
      unfold key at this
      rw [this]
      simp [h1, h2]
    · intro h
      obtain ⟨k, h1, h2⟩ := hr.only _ h
      unfold key at h2
      have e : x = k := (Lit.int.inj h2).2
      subst e
      have h3 := hr.has k
      unfold key at h3
      rw [h] at h3
      refine ⟨k, rfl, h1, ?_⟩
      have := h3.symm
      rw [Bool.and_eq_true] at this
      exact this.2
theorem sorted_present (ho : w.ownsMap Try.prog 3 (plainElem Try.prog 3) b q D) (hr : MRel n f D) {ss : List Int} (hs : ss.Perm (Go.intKeys D)) : (ss.mergeSort fun x y => decide (x ≤ y)) = present n f := by
  have tr : ∀ a b c : Int, decide (a ≤ b) = true → decide (b ≤ c) = true → decide (a ≤ c) = true := fun a b c h1 h2 => by simp only [decide_eq_true_eq] at *; omega
  have tot : ∀ a b : Int, (decide (a ≤ b) || decide (b ≤ a)) = true := fun a b => by simp only [Bool.or_eq_true, decide_eq_true_eq]; omega
  refine List.Perm.eq_of_pairwise (le := fun a b => decide (a ≤ b) = true) (fun a b _ _ h1 h2 => ?_) (List.pairwise_mergeSort tr tot ss) (present_lt.imp (fun h => by simp only [decide_eq_true_eq]; omega)) ((List.mergeSort_perm ss _).trans (hs.trans (keys_present ho hr).symm))
  simp only [decide_eq_true_eq] at h1 h2
  omega
theorem sorts_in (m : Nat) : AnyZI.SortsIn Try.prog laysS_ren Fence.wide m :=
  ⟨fun blk off cap ss W hH hblk hsz => callsIn_wide.2 (Any.slices_Sort_int laysSort blk off cap ss W hH hblk hsz),
   fun p cap W => callsIn_wide.2 (Any.slices_Sort_int_none laysSort p cap W)⟩
theorem keys_any (b : Nat) (w : World) : Calls Try.prog 29 #[.map (some b)] w fun e w' => e = .returned (.func (.func 48) #[] #[.pointer (some ⟨w.heap.size, 0, none⟩)]) ∧ w' = w.alloc (.cells #[.map (some b)] 45) :=
  callsIn_wide.1 (AnyZI.keys_in (P := Try.prog) (ρ := laysK_ren) laysK Fence.wide 5 trivial rfl (some b) w)
theorem sorted_any (ho : w.ownsMap Try.prog 3 (plainElem Try.prog 3) b q D) (hr : MRel n f D) (hn : n ≤ 100000000) :
    Calls Try.prog 28 #[.func (.func 48) #[] #[.pointer (some ⟨w.heap.size, 0, none⟩)]] (w.alloc (.cells #[.map (some b)] 45)) fun e w' => ∃ v : Value, e = .returned v ∧
      Kd.R (Kd.int .i64) 3 w' (w.alloc (.cells #[.map (some b)] 45)).heap.size (fun _ => True) v (present n f) ∧ Below (w.alloc (.cells #[.map (some b)] 45)).heap.size (w.alloc (.cells #[.map (some b)] 45)) w' := by
  have hbl := ho.lt
  have hsz : Maps.size D ≤ 100000000 := by
    have h1 := (keys_present ho hr).length_eq
    have h2 := present_length (n := n) (f := f)
    obtain ⟨es, rfl, _, _⟩ := ho.entries law3
    unfold Go.intKeys at h1
    simp only [List.length_map] at h1
    show es.length ≤ _
    omega
  have hseq : SeqGives Fence.wide 2 Try.prog 48 #[.pointer (some ⟨w.heap.size, 0, none⟩)] encZ (fun ss => ss.Perm (Go.intKeys D)) (Maps.size D) (w.alloc (.cells #[.map (some b)] 45)) :=
    AnyZI.keys_gives (P := Try.prog) (ρ := laysK_ren) { laysK with } Fence.wide _ trivial rfl (by omega) w.heap.size b q D _ (by simp) (by simp) (by
      obtain ⟨es, clock, hb, Ft, hs, hD⟩ := ho
      exact ⟨es, clock, (Below.heap_alloc _ _ b hbl).trans hb, Ft, hs, hD⟩)
  have cS := AnyZI.sorted_in (P := Try.prog) (ρ := laysS_ren) laysS Fence.wide 5 trivial trivial trivial trivial rfl (by omega) (sorts_in _) (enters_of Try.func47 (by kernel_rfl) rfl) 48 #[.pointer (some ⟨w.heap.size, 0, none⟩)] trivial (enters_of Try.func48 (by kernel_rfl) rfl) _ (Maps.size D) (by unfold maxLen; omega) (by omega) _ hseq
  refine (callsIn_wide.1 cS).mono ?_
  rintro e w' ⟨v, ss, rfl, hS, hrow, hnil, hb⟩
  refine ⟨v, rfl, ?_, hb⟩
  have hl : ss.length = (present n f).length := (hS.trans (keys_present ho hr).symm).length_eq
  rw [sorted_present ho hr hS, hl] at hrow
  exact Kd.R_of_own (enc := Value.int .i64) hrow (fun _ _ => trivial)
end
end Go.Proofs.Ytdkiembkigadkaa.Map
