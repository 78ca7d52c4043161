/- The law of Euler's number. -/
import Derived.Test.YtahibhipffojlaaPEuler
import Derived.Test.YtahibhipffojlaaPHolR
import Derived.Test.YtahibhipffojlaaMx15b
set_option linter.unusedSimpArgs false
set_option linter.unusedVariables false
namespace Go.Proofs.Ytahibhipffojlaa.P
open Go.RowKit Go.Proofs.YtahibhipffojlaaW.PrintWords Go.Proofs.YtahibhipffojlaaW.PrintMore Go.Proofs.Ytahibhipffojlaa.M Go.Proofs.Ytahibhipffojlaa.Topo

theorem euler_r (N : Int) (w h : Nat) (l : List Bool) (B : List S38) (hw : w ≤ 4096) (hh : h ≤ 4096) (hN : 0 ≤ N ∧ N ≤ 100000000) (hB : B.length ≤ 100000000)
    (hb : ∀ c, c < B.length → 0 ≤ (B.getD c z38).f0.f0 ∧ (B.getD c z38).f0.f0 + (B.getD c z38).f0.f2 ≤ w ∧ 0 ≤ (B.getD c z38).f0.f1 ∧ (B.getD c z38).f0.f1 + (B.getD c z38).f0.f3 ≤ h ∧ 1 ≤ (B.getD c z38).f0.f2 ∧ 1 ≤ (B.getD c z38).f0.f3) : ∀ (m t K : Nat), t + m = B.length → m < K →
    barscanref38_Euler.l0 K B (N - cnt (holeP w h B) t) (t : Int) w h l = some (N - cnt (holeP w h B) B.length, 0) := by
  intro m
  induction m with
  | zero =>
    intro t K ht hK
    obtain ⟨K, rfl⟩ : ∃ K', K = K' + 1 := ⟨K - 1, by omega⟩
    obtain rfl : t = B.length := by omega
    rw [barscanref38_Euler.l0, if_neg (by omega)]
  | succ m ih =>
    intro t K ht hK
    obtain ⟨K, rfl⟩ : ∃ K', K = K' + 1 := ⟨K - 1, by omega⟩
    have nx := ih (t + 1) K (by omega) (by omega)
    have hc := cnt_le (holeP w h B) t
    rw [barscanref38_Euler.l0, if_pos (by omega), if_pos (by omega), rdT, hole_f (w : Int) (h : Int) l (B.getD t z38) (hb t (by omega)) (by omega) (by omega), Option.bind_some, wrap_next (show t < 1000000000 by omega)]
    simp only [cnt] at nx
    by_cases c : holeP w h B t = true
    · rw [if_pos c] at nx
      rw [if_pos (show holeB w h (B.getD t z38) = true from c)]
      rw [w64 (by omega), show N - (cnt (holeP w h B) t : Int) - 1 = N - ((cnt (holeP w h B) t + 1 : Nat) : Int) from by omega]
      exact nx
    · rw [if_neg c] at nx
      rw [if_neg (show ¬ holeB w h (B.getD t z38) = true from c)]
      exact nx
theorem euler_same (W H : Int) (l : List Bool) (hl : l.length ≤ 1500) (K : Nat) (hK : 40000 ≤ K) : ∃ r, components_Euler.f K W H l = some r ∧ barscanref38_Euler.f K W H l = some r := by
  by_cases v : Vd W H l
  · have vwh := v.wh
    have v' := v
    obtain ⟨w, h, rfl, rfl, hw, hw2, hh, hh2, hwh⟩ := v.nat'
    obtain ⟨L, B, L', B', h1, h3, h5, h6⟩ := euler_prog w h l hw hw2 hh hh2 hwh K (by omega) vwh
    refine ⟨_, h6, ?_⟩
    have hB := h3.few
    have hB' := h5.few
    rw [if_pos (by omega)]
    unfold barscanref38_Euler.f barscanref38_Label.f
    rw [rcheck1 v', Option.bind_some, if_pos rfl, dark_ref w h l true hw hw2 hh2 hwh h3 K (by omega), Option.bind_some]
    dsimp only
    rw [if_neg (by omega), Option.bind_some]
    dsimp only
    rw [if_pos rfl, light_ref w h l hw hw2 hh2 hwh h5 K (by omega), Option.bind_some]
    dsimp only
    have hb := fun c hc => (h5.blob c hc).box (n := l.length) (fun j hj => hj.1.1) hw hwh
    have := euler_r (B.length : Int) w h l B' hw2 hh2 (by omega) (by omega) hb B'.length 0 K (by omega) (by omega)
    rw [show ((0 : Nat) : Int) = 0 from rfl] at this
    simp only [cnt, Int.natCast_zero, Int.sub_zero] at this
    exact this
  · refine ⟨(0, 1), ?_, ?_⟩
    · unfold components_Euler.f components_Label.f
      rw [check0 v, Option.bind_some, if_neg (by omega), Option.bind_some]
      dsimp only
      rw [if_neg (by decide)]
    · unfold barscanref38_Euler.f barscanref38_Label.f
      rw [rcheck0 v, Option.bind_some, if_neg (by omega), Option.bind_some]
      dsimp only
      rw [if_neg (by decide)]
theorem euler_true (W H : Int) (l : List Bool) (K : Nat) (hK : 100000 ≤ K) : barscanlaw38_ComponentsEuler.f K W H l = some true := by
  unfold barscanlaw38_ComponentsEuler.f barscanlaw38_few.f
  rw [Option.bind_some]
  by_cases hl : (l.length : Int) ≤ 1500
  · rw [decide_eq_true hl, if_pos rfl]
    obtain ⟨r, h1, h2⟩ := euler_same W H l (by omega) K (by omega)
    rw [h1, h2, Option.bind_some, Option.bind_some, if_pos rfl, if_pos rfl]
    rfl
  · rw [decide_eq_false hl, if_neg (by simp)]
    rfl
end Go.Proofs.Ytahibhipffojlaa.P
