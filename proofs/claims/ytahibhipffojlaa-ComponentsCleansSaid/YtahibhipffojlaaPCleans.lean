/- Despeckle and Fill return what is specified. -/
import Derived.Test.YtahibhipffojlaaPHolR
import Derived.Test.YtahibhipffojlaaMx13
import Derived.Test.YtahibhipffojlaaMx14
import Derived.Test.YtahibhipffojlaaMx15
set_option linter.unusedSimpArgs false
set_option linter.unusedVariables false
namespace Go.Proofs.Ytahibhipffojlaa.P
open Go.RowKit Go.Proofs.YtahibhipffojlaaW.PrintWords Go.Proofs.YtahibhipffojlaaW.PrintMore Go.Proofs.Ytahibhipffojlaa.M Go.Proofs.Ytahibhipffojlaa.Topo Go.Proofs.Ytahibhipffojlaa.Uf

theorem dsp_r (a : Int) (L : List Int) (B : List S38) (W H : Int) (l : List Bool) (W' H' : Int) (hn : L.length = l.length) (hbig : l.length ≤ 100000000)
    (hD : ∀ j, j < l.length → Dk l j = true → 0 ≤ L.getD j 0 ∧ L.getD j 0 < (B.length : Int)) (hD0 : ∀ j, j < l.length → Dk l j = false → L.getD j 0 = -1) :
    ∀ (m t K : Nat), t + m = l.length → m < K →
      barscanref38_Despeckle.l0 K a L B (t : Int) W H l W' H' ((List.range t).map (dspF L B a)) = some (W', H', (List.range l.length).map (dspF L B a), 0) := by
  intro m
  induction m with
  | zero =>
    intro t K ht hK
    obtain ⟨K, rfl⟩ : ∃ K', K = K' + 1 := ⟨K - 1, by omega⟩
    obtain rfl : t = l.length := by omega
    rw [barscanref38_Despeckle.l0, if_neg (by omega)]
  | succ m ih =>
    intro t K ht hK
    obtain ⟨K, rfl⟩ : ∃ K', K = K' + 1 := ⟨K - 1, by omega⟩
    have nx := ih (t + 1) K (by omega) (by omega)
    have go : ∀ b : Bool, b = dspF L B a t → barscanref38_Despeckle.l0 K a L B ((t + 1 : Nat) : Int) W H l W' H' ((List.range t).map (dspF L B a) ++ [b]) = some (W', H', (List.range l.length).map (dspF L B a), 0) := by
      intro b hb
      rw [hb, snoc]
      exact nx
    rw [barscanref38_Despeckle.l0, if_pos (by omega), if_pos (by omega), rdB, rdN, wrap_next (show t < 1000000000 by omega), List.length_map, List.length_range]
    by_cases c : Dk l t = true
    · have d := hD t (by omega) c
      rw [if_pos c, if_pos (by omega), if_pos d.1, if_pos d.2, if_pos (by omega)]
      exact go _ (by unfold dspF; rw [if_pos d.1]; rfl)
    · have d := hD0 t (by omega) (by simpa using c)
      rw [if_neg c, if_pos (by omega)]
      exact go _ (by unfold dspF; rw [if_neg (by omega)])
theorem fill_r (w h : Nat) (L : List Int) (B : List S38) (l : List Bool) (W' H' : Int) (hw : w ≤ 4096) (hh : h ≤ 4096) (hn : L.length = l.length) (hbig : l.length ≤ 100000000)
    (hb : ∀ c, c < B.length → 0 ≤ (B.getD c z38).f0.f0 ∧ (B.getD c z38).f0.f0 + (B.getD c z38).f0.f2 ≤ w ∧ 0 ≤ (B.getD c z38).f0.f1 ∧ (B.getD c z38).f0.f1 + (B.getD c z38).f0.f3 ≤ h ∧ 1 ≤ (B.getD c z38).f0.f2 ∧ 1 ≤ (B.getD c z38).f0.f3)
    (hD : ∀ j, j < l.length → Dk l j = false → 0 ≤ L.getD j 0 ∧ L.getD j 0 < (B.length : Int)) :
    ∀ (m t K : Nat), t + m = l.length → m < K →
      barscanref38_Fill.l0 K L B (t : Int) w h l W' H' ((List.range t).map (fillF l L (hz w h B))) = some (W', H', (List.range l.length).map (fillF l L (hz w h B)), 0) := by
  intro m
  induction m with
  | zero =>
    intro t K ht hK
    obtain ⟨K, rfl⟩ : ∃ K', K = K' + 1 := ⟨K - 1, by omega⟩
    obtain rfl : t = l.length := by omega
    rw [barscanref38_Fill.l0, if_neg (by omega)]
  | succ m ih =>
    intro t K ht hK
    obtain ⟨K, rfl⟩ : ∃ K', K = K' + 1 := ⟨K - 1, by omega⟩
    have nx := ih (t + 1) K (by omega) (by omega)
    have go : ∀ b : Bool, b = fillF l L (hz w h B) t → barscanref38_Fill.l0 K L B ((t + 1 : Nat) : Int) w h l W' H' ((List.range t).map (fillF l L (hz w h B)) ++ [b]) = some (W', H', (List.range l.length).map (fillF l L (hz w h B)), 0) := by
      intro b hb
      rw [hb, snoc]
      exact nx
    rw [barscanref38_Fill.l0, if_pos (by omega), if_pos (by omega), rdB, rdN, wrap_next (show t < 1000000000 by omega), List.length_map, List.length_range]
    by_cases c : Dk l t = true
    · rw [if_pos c, if_pos (by omega)]
      exact go _ (by unfold fillF; rw [if_pos c])
    · have d := hD t (by omega) (by simpa using c)
      obtain ⟨c0, hc0⟩ := Int.eq_ofNat_of_zero_le d.1
      have hcB : c0 < B.length := by omega
      rw [if_neg c, if_pos (by omega), if_pos d.1, if_pos d.2, hc0, rdT, hole_f (w : Int) (h : Int) l (B.getD c0 z38) (hb c0 hcB) (by omega) (by omega), Option.bind_some, if_pos (by omega)]
      exact go _ (by unfold fillF; rw [if_neg c, hc0, if_pos (by omega), Int.toNat_natCast, hz_get _ _ _ _ hcB])

theorem despeckle_same (W H : Int) (l : List Bool) (a : Int) (hl : l.length ≤ 1500) (K : Nat) (hK : 30000 ≤ K) :
    ∃ r1 r2 r3 c, components_Despeckle.f K W H l a = some (r1, r2, r3, c) ∧ barscanref38_Despeckle.f K W H l a = some (r1, r2, r3, c) ∧ r3.length ≤ 1500 := by
  by_cases v : Vd W H l
  · have v' := v
    by_cases ha : a < 0
    · unfold components_Despeckle.f barscanref38_Despeckle.f
      rw [check1 v, rcheck1 v, Option.bind_some, Option.bind_some, if_pos rfl, if_pos rfl, if_pos ha, if_pos ha]
      exact ⟨_, _, _, _, rfl, rfl, by simp⟩
    · have hs := v.wh
      obtain ⟨w, h, rfl, rfl, hw, hw2, hh, hh2, hwh⟩ := v.nat'
      obtain ⟨L, B, h3, h4⟩ := desp_prog w h l hw hw2 hh hh2 hwh hs a (by omega) K (by omega)
      have hB := h3.few
      rw [if_pos (by omega)] at h4
      refine ⟨_, _, _, _, h4, ?_, by simpa using hl⟩
      unfold barscanref38_Despeckle.f barscanref38_Label.f
      rw [rcheck1 v', Option.bind_some, if_pos rfl, if_neg ha, Option.bind_some, if_pos rfl, dark_ref w h l true hw hw2 hh2 hwh h3 K (by omega), Option.bind_some]
      dsimp only
      rw [if_neg (by omega), Option.bind_some]
      dsimp only
      rw [if_pos rfl]
      have c2 := dsp_r a L B (w : Int) (h : Int) l (w : Int) (h : Int) h3.len (by omega) (fun j hj hk => h3.dark j ⟨hj, hk⟩) h3.light l.length 0 K (by omega) (by omega)
      rw [show ((0 : Nat) : Int) = 0 from rfl, List.range_zero, List.map_nil] at c2
      exact c2
  · unfold components_Despeckle.f barscanref38_Despeckle.f
    rw [check0 v, rcheck0 v, Option.bind_some, Option.bind_some, if_neg (by omega), if_neg (by omega)]
    exact ⟨_, _, _, _, rfl, rfl, by simp⟩
theorem fill_same (W H : Int) (l : List Bool) (hl : l.length ≤ 1500) (K : Nat) (hK : 30000 ≤ K) :
    ∃ r1 r2 r3 c, components_Fill.f K W H l = some (r1, r2, r3, c) ∧ barscanref38_Fill.f K W H l = some (r1, r2, r3, c) ∧ r3.length ≤ 1500 := by
  by_cases v : Vd W H l
  · have v' := v
    have hs := v.wh
    obtain ⟨w, h, rfl, rfl, hw, hw2, hh, hh2, hwh⟩ := v.nat'
    obtain ⟨L, B, h3, h4⟩ := fill_prog w h l hw hw2 hh hh2 hwh hs K (by omega)
    refine ⟨_, _, _, _, h4, ?_, by simpa using hl⟩
    unfold barscanref38_Fill.f
    rw [rcheck1 v', Option.bind_some, if_pos rfl, light_ref w h l hw hw2 hh2 hwh h3 K (by omega), Option.bind_some]
    have hb := fun c hc => (h3.blob c hc).box (n := l.length) (fun j hj => hj.1.1) hw hwh
    have c2 := fill_r w h L B l (w : Int) (h : Int) hw2 hh2 h3.len (by omega) hb (fun j hj hk => h3.dark j ⟨hj, by simp [hk]⟩) l.length 0 K (by omega) (by omega)
    rw [show ((0 : Nat) : Int) = 0 from rfl, List.range_zero, List.map_nil] at c2
    exact c2
  · unfold components_Fill.f barscanref38_Fill.f
    rw [check0 v, rcheck0 v, Option.bind_some, Option.bind_some, if_neg (by omega), if_neg (by omega)]
    exact ⟨_, _, _, _, rfl, rfl, by simp⟩
theorem cleans_true (W H : Int) (l : List Bool) (a : Int) (K : Nat) (hK : 100000 ≤ K) : barscanlaw38_ComponentsCleans.f K W H l a = some true := by
  unfold barscanlaw38_ComponentsCleans.f barscanlaw38_few.f
  rw [Option.bind_some]
  by_cases hl : (l.length : Int) ≤ 1500
  · rw [decide_eq_true hl, if_pos rfl]
    obtain ⟨a1, a2, a3, a4, h1, h2, h3⟩ := despeckle_same W H l a (by omega) K (by omega)
    obtain ⟨b1, b2, b3, b4, g1, g2, g3⟩ := fill_same W H l (by omega) K (by omega)
    rw [h1, h2, g1, g2, Option.bind_some, Option.bind_some, Option.bind_some, Option.bind_some]
    dsimp only
    rw [if_pos rfl, equal_self _ _ _ (by omega) K (by omega), Option.bind_some, if_pos rfl, if_pos rfl, equal_self _ _ _ (by omega) K (by omega), Option.bind_some, if_pos rfl]
    rfl
  · rw [decide_eq_false hl, if_neg (by simp)]
    rfl
end Go.Proofs.Ytahibhipffojlaa.P
