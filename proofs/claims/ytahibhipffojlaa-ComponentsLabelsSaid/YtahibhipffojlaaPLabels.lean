/- Label returns what is specified. -/
import Derived.Test.YtahibhipffojlaaPRd
import Derived.Test.YtahibhipffojlaaMx12
set_option linter.unusedSimpArgs false
set_option linter.unusedVariables false
namespace Go.Proofs.Ytahibhipffojlaa.P
open Go.RowKit Go.Proofs.YtahibhipffojlaaW.PrintWords Go.Proofs.YtahibhipffojlaaW.PrintMore Go.Proofs.Ytahibhipffojlaa.M Go.Proofs.Ytahibhipffojlaa.Topo

theorem Vd.nat {W H : Int} {l : List Bool} (v : Vd W H l) : ∃ w h : Nat, W = (w : Int) ∧ H = (h : Int) ∧ 0 < w ∧ w ≤ 4096 ∧ 0 < h ∧ h ≤ 4096 ∧ l.length = w * h := by
  have v1 := v.w1; have v2 := v.w2; have v3 := v.h1; have v4 := v.h2; have v5 := v.len
  obtain ⟨w, rfl⟩ := Int.eq_ofNat_of_zero_le (show 0 ≤ W by omega)
  obtain ⟨h, rfl⟩ := Int.eq_ofNat_of_zero_le (show 0 ≤ H by omega)
  refine ⟨w, h, rfl, rfl, by omega, by omega, by omega, by omega, ?_⟩
  exact Int.ofNat.inj (by rw [← Int.natCast_mul] at v5; exact v5)
theorem label_same (W H : Int) (l : List Bool) (e : Bool) (hl : l.length ≤ 1500) (K : Nat) (hK : 30000 ≤ K) :
    ∃ L B c, components_Label.f W H l e = some (L, B, c) ∧ barscanref38_Label.f K W H l e = some (L, B, c) ∧ L.length ≤ 1500 ∧ B.length ≤ 65536 := by
  unfold components_Label.f barscanref38_Label.f
  by_cases v : Vd W H l
  · rw [check1 v, rcheck1 v, Option.bind_some, Option.bind_some, if_pos rfl, if_pos rfl]
    obtain ⟨w, h, rfl, rfl, hw, hw2, hh, hh2, hwh⟩ := v.nat
    obtain ⟨L, B, h1, h2, h3⟩ := label_parts (w := w) (e := e) h l hw hw2 hh hh2 hwh K (by omega)
    rw [h1, h2, Option.bind_some]
    dsimp only
    by_cases hB : (B.length : Int) > 65536
    · rw [if_pos hB]
      exact ⟨_, _, _, rfl, rfl, by simp, by simp⟩
    · rw [if_neg hB]
      exact ⟨_, _, _, rfl, rfl, by rw [h3.len]; exact hl, by omega⟩
  · rw [check0 v, rcheck0 v, Option.bind_some, Option.bind_some, if_neg (by omega), if_neg (by omega)]
    exact ⟨_, _, _, rfl, rfl, by simp, by simp⟩
theorem same_l0 (L : List Int) (hl : L.length ≤ 1000000) : ∀ (m i K : Nat), i + m = L.length → m < K → barscanlaw38_same.l0 K L L (i : Int) = some true := by
  intro m
  induction m with
  | zero =>
    intro i K hi hK
    obtain ⟨K, rfl⟩ : ∃ K', K = K' + 1 := ⟨K - 1, by omega⟩
    rw [barscanlaw38_same.l0, if_neg (by omega)]
  | succ m ih =>
    intro i K hi hK
    obtain ⟨K, rfl⟩ : ∃ K', K = K' + 1 := ⟨K - 1, by omega⟩
    rw [barscanlaw38_same.l0, if_pos (by omega), if_pos (by omega), if_pos (by omega), if_pos rfl, wrap_next (show i < 1000000000 by omega)]
    exact ih (i + 1) K (by omega) (by omega)
theorem same_self (L : List Int) (hl : L.length ≤ 1000000) (K : Nat) (hK : L.length < K) : barscanlaw38_same.f K L L = some true := by
  unfold barscanlaw38_same.f
  rw [if_pos rfl]
  have := same_l0 L hl L.length 0 K (by omega) hK
  rw [show ((0 : Nat) : Int) = 0 from rfl] at this
  exact this
theorem blobs_l0 (B : List S38) (hl : B.length ≤ 1000000) : ∀ (m i K : Nat), i + m = B.length → m < K → barscanlaw38_ComponentsLabels.l0 K B B (i : Int) = some true := by
  intro m
  induction m with
  | zero =>
    intro i K hi hK
    obtain ⟨K, rfl⟩ : ∃ K', K = K' + 1 := ⟨K - 1, by omega⟩
    rw [barscanlaw38_ComponentsLabels.l0, if_neg (by omega)]
    rfl
  | succ m ih =>
    intro i K hi hK
    obtain ⟨K, rfl⟩ : ∃ K', K = K' + 1 := ⟨K - 1, by omega⟩
    rw [barscanlaw38_ComponentsLabels.l0, if_pos (by omega), if_pos (by omega), if_pos (by omega), if_neg (by simp), wrap_next (show i < 1000000000 by omega)]
    exact ih (i + 1) K (by omega) (by omega)
theorem labels_true (W H : Int) (l : List Bool) (e : Bool) (K : Nat) (hK : 100000 ≤ K) : barscanlaw38_ComponentsLabels.f K W H l e = some true := by
  unfold barscanlaw38_ComponentsLabels.f barscanlaw38_few.f
  rw [Option.bind_some]
  by_cases hl : (l.length : Int) ≤ 1500
  · rw [decide_eq_true hl, if_pos rfl]
    obtain ⟨L, B, c, h1, h2, h3, h4⟩ := label_same W H l e (by omega) K (by omega)
    rw [h1, h2, Option.bind_some, Option.bind_some]
    dsimp only
    rw [if_pos rfl, same_self L (by omega) K (by omega), Option.bind_some, if_pos rfl]
    obtain ⟨K, rfl⟩ : ∃ K', K = K' + 1 := ⟨K - 1, by omega⟩
    rw [barscanlaw38_ComponentsLabels.j0, if_neg (by simp)]
    have := blobs_l0 B (by omega) B.length 0 K (by omega) (by omega)
    rw [show ((0 : Nat) : Int) = 0 from rfl] at this
    exact this
  · rw [decide_eq_false hl, if_neg (by simp)]
    rfl
end Go.Proofs.Ytahibhipffojlaa.P
