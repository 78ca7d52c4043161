/- Euler returns what is specified: the number of dark parts less the number of holes. -/
import Derived.Test.YtahibhipffojlaaPHol
import Derived.Test.YtahibhipffojlaaMx6
set_option linter.unusedSimpArgs false
set_option linter.unusedVariables false
namespace Go.Proofs.Ytahibhipffojlaa.P
open Go.RowKit Go.Proofs.YtahibhipffojlaaW.PrintWords Go.Proofs.YtahibhipffojlaaW.PrintMore Go.Proofs.Ytahibhipffojlaa.M Go.Proofs.Ytahibhipffojlaa.Topo

/-- how many below n -/
def cnt (p : Nat → Bool) : Nat → Nat
  | 0 => 0
  | n + 1 => cnt p n + (if p n = true then 1 else 0)
theorem cnt_le (p : Nat → Bool) (n : Nat) : cnt p n ≤ n := by
  induction n with
  | zero => exact Nat.le_refl _
  | succ n ih => simp only [cnt]; split <;> omega
def holeP (W H : Int) (B : List S38) (c : Nat) : Bool := holeB W H (B.getD c z38)
theorem euler_c (N : Int) (W H : Int) (B : List S38) (hN : 0 ≤ N ∧ N ≤ 100000000) (hB : B.length ≤ 100000000) : ∀ (m t K : Nat), t + m = B.length → m < K →
    components_Euler.l0 K (N - cnt (holeP W H B) t) (hz W H B) (B.length : Int) (t : Int) = some (N - cnt (holeP W H B) B.length, 0) := by
  intro m
  induction m with
  | zero =>
    intro t K ht hK
    obtain ⟨K, rfl⟩ : ∃ K', K = K' + 1 := ⟨K - 1, by omega⟩
    obtain rfl : t = B.length := by omega
    rw [components_Euler.l0, if_neg (by omega)]
  | succ m ih =>
    intro t K ht hK
    obtain ⟨K, rfl⟩ : ∃ K', K = K' + 1 := ⟨K - 1, by omega⟩
    have nx := ih (t + 1) K (by omega) (by omega)
    have hc := cnt_le (holeP W H B) t
    have e : Dk (hz W H B) t = holeP W H B t := by unfold Dk; exact hz_get W H B t (by omega)
    rw [components_Euler.l0, if_pos (by omega), if_pos (by omega), hz_len, if_pos (by omega), rdB, e, wrap_next (show t < 1000000000 by omega)]
    simp only [cnt] at nx
    by_cases c : holeP W H B t = true
    · rw [if_pos c] at nx ⊢
      rw [w64 (by omega), show N - (cnt (holeP W H B) t : Int) - 1 = N - ((cnt (holeP W H B) t + 1 : Nat) : Int) from by omega]
      exact nx
    · rw [if_neg c] at nx ⊢
      exact nx
/-- the program's number -/
theorem euler_prog (w h : Nat) (l : List Bool) (hw : 0 < w) (hw2 : w ≤ 4096) (hh : 0 < h) (hh2 : h ≤ 4096) (hwh : l.length = w * h) (K : Nat) (hK : l.length * 2 + 10 ≤ K) (hs : (w : Int) * h ≤ 4194304) :
    ∃ L B L' B', label.f l (w : Int) true = some (L, B) ∧ Spec w true l.length (Dk l) L B ∧ Spec w false l.length (fun j => !Dk l j) L' B' ∧
      components_Euler.f K (w : Int) (h : Int) l = some (if B.length ≤ 65536 then ((B.length : Int) - cnt (holeP w h B') B'.length, 0) else (0, 4)) := by
  have hb : l.length ≤ 4194304 := by rw [← Int.natCast_mul] at hs; omega
  have v : Vd (w : Int) (h : Int) l := ⟨by omega, by omega, by omega, by omega, hs, by rw [hwh]; exact Int.natCast_mul w h⟩
  obtain ⟨L, B, h1, h3⟩ := label_spec w h l true hw hw2 hh hh2 hwh
  obtain ⟨L', B', g1, g3, g4⟩ := holes_f w h l hw hw2 hh hh2 hwh K (by omega) (by omega)
  have hB := h3.few
  refine ⟨L, B, L', B', h1, h3, g3, ?_⟩
  unfold components_Euler.f components_Label.f
  rw [check1 v, Option.bind_some, if_pos rfl, h1, Option.bind_some]
  dsimp only
  by_cases q : B.length ≤ 65536
  · rw [if_neg (by omega), if_pos q, Option.bind_some]
    dsimp only
    rw [if_pos rfl, g1, Option.bind_some]
    dsimp only
    rw [hz_len]
    have := euler_c (B.length : Int) w h B' (by omega) (by omega) B'.length 0 K (by omega) (by omega)
    rw [show ((0 : Nat) : Int) = 0 from rfl] at this
    simp only [cnt, Int.natCast_zero, Int.sub_zero] at this
    exact this
  · rw [if_pos (by omega), if_neg q, Option.bind_some]
    dsimp only
    rw [if_neg (by decide)]
end Go.Proofs.Ytahibhipffojlaa.P
