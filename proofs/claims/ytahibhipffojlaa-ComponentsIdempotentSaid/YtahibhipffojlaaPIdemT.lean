/- The law of things done twice. -/
import Derived.Test.YtahibhipffojlaaPIdem
import Derived.Test.YtahibhipffojlaaMx19
import Derived.Test.YtahibhipffojlaaMx20
set_option linter.unusedSimpArgs false
set_option linter.unusedVariables false
namespace Go.Proofs.Ytahibhipffojlaa.P
open Go.RowKit Go.Proofs.YtahibhipffojlaaW.PrintWords Go.Proofs.YtahibhipffojlaaW.PrintMore Go.Proofs.Ytahibhipffojlaa.M Go.Proofs.Ytahibhipffojlaa.Topo

theorem inside_l0 (W H W' H' : Int) (x y : List Bool) (hl : x.length = y.length) (hb : x.length ≤ 1000000) (hd : ∀ j, j < x.length → Dk x j = true → Dk y j = true) : ∀ (m t K : Nat), t + m = x.length → m < K → barscanlaw38_inside.l0 K (t : Int) W H x W' H' y = some true := by
  intro m
  induction m with
  | zero =>
    intro t K ht hK
    obtain ⟨K, rfl⟩ : ∃ K', K = K' + 1 := ⟨K - 1, by omega⟩
    rw [barscanlaw38_inside.l0, if_neg (by omega)]
  | succ m ih =>
    intro t K ht hK
    obtain ⟨K, rfl⟩ : ∃ K', K = K' + 1 := ⟨K - 1, by omega⟩
    have nx := ih (t + 1) K (by omega) (by omega)
    rw [barscanlaw38_inside.l0, if_pos (by omega), if_pos (by omega), rdB, rdB, wrap_next (show t < 1000000000 by omega)]
    by_cases c : Dk x t = true
    · rw [if_pos c, if_pos (by omega), if_pos (hd t (by omega) c)]
      exact nx
    · rw [if_neg c]
      exact nx
theorem inside_f (W H : Int) (x y : List Bool) (hl : x.length = y.length) (hb : x.length ≤ 1000000) (hd : ∀ j, j < x.length → Dk x j = true → Dk y j = true) (K : Nat) (hK : x.length + 1 < K) : barscanlaw38_inside.f K W H x W H y = some true := by
  unfold barscanlaw38_inside.f
  obtain ⟨K, rfl⟩ : ∃ K', K = K' + 1 := ⟨K - 1, by omega⟩
  rw [if_pos rfl, if_pos rfl, barscanlaw38_inside.j0, if_neg (by simp [hl])]
  exact inside_l0 W H W H x y hl hb hd x.length 0 K (by omega) (by omega)
theorem idem_true (W H : Int) (l : List Bool) (a : Int) (K : Nat) (hK : 80000000 ≤ K) : barscanlaw38_ComponentsIdempotent.f K W H l a = some true := by
  unfold barscanlaw38_ComponentsIdempotent.f barscanlaw38_few.f
  rw [Option.bind_some]
  have j0t : barscanlaw38_ComponentsIdempotent.j0 K a true W H l = some true := by
    obtain ⟨K, rfl⟩ : ∃ K', K = K' + 1 := ⟨K - 1, by omega⟩
    rw [barscanlaw38_ComponentsIdempotent.j0, if_pos rfl]
    rfl
  by_cases hl : (l.length : Int) ≤ 1500
  · rw [decide_eq_true hl, if_pos rfl]
    by_cases v : Vd W H l
    · rw [rcheck1 v, Option.bind_some, if_pos rfl]
      by_cases ha : a < 0
      · rw [decide_eq_true ha]; exact j0t
      · rw [decide_eq_false ha]
        obtain ⟨K, rfl⟩ : ∃ K', K = K' + 1 := ⟨K - 1, by omega⟩
        have hs := v.wh
        obtain ⟨w, h, rfl, rfl, hw, hw2, hh, hh2, hwh⟩ := v.nat'
        obtain ⟨L1, B1, s1, f1⟩ := fill_prog w h l hw hw2 hh hh2 hwh hs K (by omega)
        generalize e1 : (List.range l.length).map (fillF l L1 (hz w h B1)) = l1 at f1
        have n1 : l1.length = l.length := by rw [← e1]; simp
        have hwh1 : l1.length = w * h := by rw [n1, hwh]
        obtain ⟨L2, B2, s2, f2⟩ := fill_prog w h l1 hw hw2 hh hh2 hwh1 hs K (by omega)
        rw [(fill_again s1 l1 e1.symm s2).2] at f2
        obtain ⟨L3, B3, s3, f3⟩ := desp_prog w h l hw hw2 hh hh2 hwh hs a (by omega) K (by omega)
        have b3 := s3.few
        rw [if_pos (by omega)] at f3
        generalize e3 : (List.range l.length).map (dspF L3 B3 a) = l3 at f3
        have n3 : l3.length = l.length := by rw [← e3]; simp
        have hwh3 : l3.length = w * h := by rw [n3, hwh]
        obtain ⟨L4, B4, s4, f4⟩ := desp_prog w h l3 hw hw2 hh hh2 hwh3 hs a (by omega) K (by omega)
        have b4 := s4.few
        rw [if_pos (by omega), desp_again a s3 l3 e3.symm s4] at f4
        obtain ⟨L5, B5, L6, B6, g1, s5, s6, f5⟩ := euler_prog w h l1 hw hw2 hh hh2 hwh1 K (by omega) hs
        have b5 := s5.few
        rw [if_pos (by omega), cnt_none _ _ (fill_again s1 l1 e1.symm s6).1] at f5
        have v1 : Vd (w : Int) (h : Int) l1 := ⟨by omega, by omega, by omega, by omega, hs, by rw [hwh1]; exact Int.natCast_mul w h⟩
        have f6 : components_Label.f (w : Int) (h : Int) l1 true = some (L5, B5, 0) := by
          unfold components_Label.f
          rw [check1 v1, Option.bind_some, if_pos rfl, g1, Option.bind_some]
          dsimp only
          rw [if_neg (by omega)]
        rw [barscanlaw38_ComponentsIdempotent.j0, if_neg (by decide), f1, Option.bind_some]
        dsimp only
        rw [f2, Option.bind_some, f3, Option.bind_some]
        dsimp only
        rw [f4, Option.bind_some, f5, Option.bind_some, f6, Option.bind_some]
        dsimp only
        rw [if_pos rfl, if_pos rfl, if_pos rfl, if_pos rfl, if_pos rfl]
        obtain ⟨K, rfl⟩ : ∃ K', K = K' + 1 := ⟨K - 1, by omega⟩
        have i1 : barscanlaw38_inside.f K (w : Int) (h : Int) l (w : Int) (h : Int) l1 = some true := inside_f _ _ _ _ (by omega) (by omega) (fun j hj hk => by
          rw [← e1, Dk_map _ _ j hj]
          unfold fillF
          rw [if_pos hk]) K (by omega)
        have i2 : barscanlaw38_inside.f K (w : Int) (h : Int) l3 (w : Int) (h : Int) l = some true := inside_f _ _ _ _ (by omega) (by omega) (fun j hj hk => by
          rw [← e3, Dk_map _ _ j (by omega)] at hk
          unfold dspF at hk
          cases q : Dk l j with
          | true => rfl
          | false =>
            rw [s3.light j (by omega) q] at hk
            simp at hk) K (by omega)
        rw [barscanlaw38_ComponentsIdempotent.j1, if_neg (by decide), equal_self _ _ _ (by omega) K (by omega), Option.bind_some, if_pos rfl, equal_self _ _ _ (by omega) K (by omega), Option.bind_some, if_pos rfl, i1, Option.bind_some, if_pos rfl, i2, Option.bind_some, if_pos rfl, if_pos (by omega)]
        rfl
    · rw [rcheck0 v, Option.bind_some, if_neg (by omega)]
      exact j0t
  · rw [decide_eq_false hl, if_neg (by simp)]
    exact j0t
end Go.Proofs.Ytahibhipffojlaa.P
