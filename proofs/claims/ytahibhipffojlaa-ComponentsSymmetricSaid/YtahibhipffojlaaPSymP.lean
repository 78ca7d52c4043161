/- Pictures turned, mirrored and enlarged: what stays. -/
import Derived.Test.YtahibhipffojlaaPSym
set_option linter.unusedSimpArgs false
set_option linter.unusedVariables false
namespace Go.Proofs.Ytahibhipffojlaa.P
open Go.RowKit Go.Proofs.YtahibhipffojlaaW.PrintWords Go.Proofs.YtahibhipffojlaaW.PrintMore Go.Proofs.Ytahibhipffojlaa.M Go.Proofs.Ytahibhipffojlaa.Topo

/-- a picture with these areas and this number of fours -/
structure Pic (SA : List Int) (q : Int) (w h : Nat) (l : List Bool) : Prop where
  hw : 0 < w
  hw2 : w ≤ 400
  hh : 0 < h
  hh2 : h ≤ 400
  len : l.length = w * h
  small : w * h ≤ 400
  quads : quads (w : Int) (h : Int) (D2 w h l) = q
  areas : ∀ L B, Spec w true (w * h) (Dk l) L B → (B.map fun b => b.f1).Perm SA
def turnI (w h i : Nat) : Nat := w * (h - 1 - i % h) + i / h
def turnL (w h : Nat) (l : List Bool) : List Bool := (List.range (w * h)).map fun i => Dk l (turnI w h i)
def mirI (w i : Nat) : Nat := w * (i / w) + (w - 1 - i % w)
def mirL (w h : Nat) (l : List Bool) : List Bool := (List.range (w * h)).map fun i => Dk l (mirI w i)
def bigI (w k : Nat) : Nat := w * (k / (2 * w) / 2) + k % (2 * w) / 2
def bigL (w h : Nat) (l : List Bool) : List Bool := (List.range (2 * w * (2 * h))).map fun i => Dk l (bigI w i)
theorem sub3 {a b : Nat} (h : a < b) : b - 1 - (b - 1 - a) = a := by omega
theorem sub2 {a b : Nat} (h : a < b) : b - 1 - a < b := by omega
theorem xy_of {w h j : Nat} (hw : 0 < w) (hj : j < w * h) : j % w < w ∧ j / w < h ∧ w * (j / w) + j % w = j :=
  ⟨Nat.mod_lt _ hw, (Nat.div_lt_iff_lt_mul hw).2 (by rw [Nat.mul_comm]; exact hj), Nat.div_add_mod j w⟩
theorem turnI_at {w h i : Nat} (hh : 0 < h) (hi : i < h * w) : turnI w h i < w * h ∧ turnI w h i % w = i / h ∧ turnI w h i / w = h - 1 - i % h := by
  obtain ⟨a, b, _⟩ := xy_of hh hi
  exact place (x := i / h) (y := h - 1 - i % h) b (sub2 a)
theorem mirI_at {w h i : Nat} (hw : 0 < w) (hi : i < w * h) : mirI w i < w * h ∧ mirI w i % w = w - 1 - i % w ∧ mirI w i / w = i / w := by
  obtain ⟨a, b, _⟩ := xy_of hw hi
  exact place (x := w - 1 - i % w) (y := i / w) (sub2 a) b
section
variable {SA : List Int} {q : Int} {w h : Nat} {l : List Bool}
theorem Pic.turn (P : Pic SA q w h l) : Pic SA q h w (turnL w h l) := by
  have hw := P.hw; have hh := P.hh
  have len : (turnL w h l).length = h * w := by unfold turnL; rw [List.length_map, List.length_range, Nat.mul_comm]
  have dk : ∀ i, i < h * w → Dk (turnL w h l) i = Dk l (turnI w h i) := fun i hi => Dk_map _ _ i (by rw [Nat.mul_comm]; exact hi)
  refine ⟨hh, P.hh2, hw, P.hw2, len, by rw [Nat.mul_comm]; exact P.small, ?_, fun L' B' Sp' => ?_⟩
  · rw [← P.quads]
    have e : ∀ x y : Int, D2 h w (turnL w h l) (x, y) = D2 w h l (y, (h : Int) - 1 - x) := by
      intro x y
      by_cases i : In h w (x, y)
      · have i' : In w h (y, (h : Int) - 1 - x) := by unfold In at i ⊢; dsimp only at i ⊢; omega
        rw [D2_in _ i, D2_in _ i', dk _ (ix_lt _ i)]
        congr 1
        obtain ⟨m1, m2⟩ := ix_mod (w := h) (h := w) (x, y) i
        unfold turnI
        rw [m1, m2]
        unfold ix
        unfold In at i
        dsimp only at i ⊢
        rw [show ((h : Int) - 1 - x).toNat = h - 1 - x.toNat from by omega]
      · have i' : ¬ In w h (y, (h : Int) - 1 - x) := by unfold In at i ⊢; dsimp only at i ⊢; omega
        rw [D2_out _ i, D2_out _ i']
    have qe : ∀ x y : Int, quad (D2 h w (turnL w h l)) x y = quad (D2 w h l) y ((h : Int) - 2 - x) := by
      intro x y
      unfold quad
      rw [e, e, e, e, show (h : Int) - 1 - (x + 1) = (h : Int) - 2 - x from by omega, show (h : Int) - 2 - x + 1 = (h : Int) - 1 - x from by omega]
      exact qd_turn _ _ _ _
    unfold Topo.quads
    rw [show ((w : Int) + 1).toNat = w + 1 from by omega, show ((h : Int) + 1).toNat = h + 1 from by omega]
    rw [S_swap (w + 1) (h + 1), ← S_rev (h + 1)]
    refine S_congr _ _ _ fun j hj => ?_
    refine S_congr _ _ _ fun i hi => ?_
    rw [qe]
    congr 1
    omega
  · obtain ⟨L, B, _, Sp⟩ := label_spec w h l true hw (by have := P.hw2; omega) hh (by have := P.hh2; omega) P.len
    rw [P.len] at Sp
    refine (areas_iso Sp Sp' (turnI w h) (fun j => h * (j % w) + (h - 1 - j / w)) (fun k hk => ?_) (fun j hj => ?_) dk (fun j k hj hk => ?_)).trans (P.areas L B Sp)
    · obtain ⟨t1, t2, t3⟩ := turnI_at hh hk
      obtain ⟨a, b, c⟩ := xy_of hh hk
      refine ⟨t1, ?_⟩
      rw [t2, t3, sub3 a]
      exact c
    · obtain ⟨a, b, c⟩ := xy_of hw hj
      obtain ⟨p1, p2, p3⟩ := place (w := h) (h := w) (x := h - 1 - j / w) (y := j % w) (sub2 b) a
      refine ⟨p1, ?_⟩
      unfold turnI
      rw [p2, p3, sub3 b]
      exact c
    · obtain ⟨_, t2, t3⟩ := turnI_at hh hj
      obtain ⟨_, u2, u3⟩ := turnI_at hh hk
      obtain ⟨a, b, _⟩ := xy_of hh hj
      obtain ⟨c, d, _⟩ := xy_of hh hk
      unfold Adj
      rw [t2, t3, u2, u3]
      constructor
      · rintro ⟨r1, r2, r3, r4, _⟩
        exact ⟨by omega, by omega, by omega, by omega, .inl rfl⟩
      · rintro ⟨r1, r2, r3, r4, _⟩
        exact ⟨by omega, by omega, by omega, by omega, .inl rfl⟩
theorem Pic.mirror (P : Pic SA q w h l) : Pic SA q w h (mirL w h l) := by
  have hw := P.hw; have hh := P.hh
  have len : (mirL w h l).length = w * h := by unfold mirL; rw [List.length_map, List.length_range]
  have dk : ∀ i, i < w * h → Dk (mirL w h l) i = Dk l (mirI w i) := fun i hi => Dk_map _ _ i hi
  refine ⟨hw, P.hw2, hh, P.hh2, len, P.small, ?_, fun L' B' Sp' => ?_⟩
  · rw [← P.quads]
    have e : ∀ x y : Int, D2 w h (mirL w h l) (x, y) = D2 w h l ((w : Int) - 1 - x, y) := by
      intro x y
      by_cases i : In w h (x, y)
      · have i' : In w h ((w : Int) - 1 - x, y) := by unfold In at i ⊢; dsimp only at i ⊢; omega
        rw [D2_in _ i, D2_in _ i', dk _ (ix_lt _ i)]
        congr 1
        obtain ⟨m1, m2⟩ := ix_mod (w := w) (h := h) (x, y) i
        unfold mirI
        rw [m1, m2]
        unfold ix
        unfold In at i
        dsimp only at i ⊢
        rw [show ((w : Int) - 1 - x).toNat = w - 1 - x.toNat from by omega]
      · have i' : ¬ In w h ((w : Int) - 1 - x, y) := by unfold In at i ⊢; dsimp only at i ⊢; omega
        rw [D2_out _ i, D2_out _ i']
    have qe : ∀ x y : Int, quad (D2 w h (mirL w h l)) x y = quad (D2 w h l) ((w : Int) - 2 - x) y := by
      intro x y
      unfold quad
      rw [e, e, e, e, show (w : Int) - 1 - (x + 1) = (w : Int) - 2 - x from by omega, show (w : Int) - 2 - x + 1 = (w : Int) - 1 - x from by omega]
      exact qd_mirror _ _ _ _
    unfold Topo.quads
    refine S_congr _ _ _ fun j hj => ?_
    rw [show ((w : Int) + 1).toNat = w + 1 from by omega, ← S_rev (w + 1)]
    refine S_congr _ _ _ fun i hi => ?_
    rw [qe]
    congr 1
    omega
  · obtain ⟨L, B, _, Sp⟩ := label_spec w h l true hw (by have := P.hw2; omega) hh (by have := P.hh2; omega) P.len
    rw [P.len] at Sp
    have tw : ∀ k, k < w * h → mirI w k < w * h ∧ mirI w (mirI w k) = k := by
      intro k hk
      obtain ⟨t1, t2, t3⟩ := mirI_at hw hk
      obtain ⟨a, b, c⟩ := xy_of hw hk
      refine ⟨t1, ?_⟩
      unfold mirI at t2 t3 ⊢
      rw [t2, t3, sub3 a]
      exact c
    refine (areas_iso Sp Sp' (mirI w) (mirI w) tw tw dk (fun j k hj hk => ?_)).trans (P.areas L B Sp)
    obtain ⟨_, t2, t3⟩ := mirI_at hw hj
    obtain ⟨_, u2, u3⟩ := mirI_at hw hk
    obtain ⟨a, b, _⟩ := xy_of hw hj
    obtain ⟨c, d, _⟩ := xy_of hw hk
    unfold Adj
    rw [t2, t3, u2, u3]
    constructor
    · rintro ⟨r1, r2, r3, r4, _⟩
      exact ⟨by omega, by omega, by omega, by omega, .inl rfl⟩
    · rintro ⟨r1, r2, r3, r4, _⟩
      exact ⟨by omega, by omega, by omega, by omega, .inl rfl⟩
theorem Pic.big (P : Pic SA q w h l) {L B} (Sp' : Spec (2 * w) true (2 * w * (2 * h)) (Dk (bigL w h l)) L B) : (B.map fun b => b.f1).Perm (SA.map fun a => 4 * a) := by
  obtain ⟨L0, B0, _, Sp⟩ := label_spec w h l true P.hw (by have := P.hw2; omega) P.hh (by have := P.hh2; omega) P.len
  rw [P.len] at Sp
  have r := areas_big P.hw Sp Sp' (fun k hk => Dk_map _ _ k hk)
  have m := (P.areas L0 B0 Sp).map fun a => 4 * a
  rw [List.map_map] at m
  exact r.trans m
end
end Go.Proofs.Ytahibhipffojlaa.P
