/- A picture of dots that lie apart: each is a part by itself, and no light part is a hole. -/
import Derived.Test.YtahibhipffojlaaPIdem
import Derived.Test.YtahibhipffojlaaMx16
set_option linter.unusedSimpArgs false
set_option linter.unusedVariables false
namespace Go.Proofs.Ytahibhipffojlaa.P
open Go.RowKit Go.Proofs.YtahibhipffojlaaW.PrintWords Go.Proofs.YtahibhipffojlaaW.PrintMore Go.Proofs.Ytahibhipffojlaa.M Go.Proofs.Ytahibhipffojlaa.Topo

def dots (n : Nat) (j : Nat) : Bool := decide (j % 512 % 2 = 0 ∧ j / 512 % 2 = 0 ∧ j / 512 / 2 * 256 + j % 512 / 2 < n)
theorem lim_l1 (a0 : Int) (a1 : Bool) (n y : Nat) (hy : y < 515) : ∀ (m x K : Nat), x + m = 512 →
    barscanlaw38_ComponentsLimits.l1 (K + m + 1) a0 a1 (n : Int) (y : Int) (x : Int) 512 515 ((List.range (512 * y + x)).map (dots n)) = barscanlaw38_ComponentsLimits.l0 K a0 a1 (n : Int) ((y + 1 : Nat) : Int) 512 515 ((List.range (512 * (y + 1))).map (dots n)) := by
  intro m
  induction m with
  | zero =>
    intro x K hx
    obtain rfl : x = 512 := by omega
    rw [show K + 0 + 1 = K + 1 from rfl, barscanlaw38_ComponentsLimits.l1, if_neg (by omega), wrap_next (show y < 1000000000 by omega), Nat.mul_succ]
  | succ m ih =>
    intro x K hx
    have nx := ih (x + 1) K (by omega)
    have go : ∀ b : Bool, b = dots n (512 * y + x) → barscanlaw38_ComponentsLimits.l1 (K + m + 1) a0 a1 (n : Int) (y : Int) ((x + 1 : Nat) : Int) 512 515 ((List.range (512 * y + x)).map (dots n) ++ [b]) = barscanlaw38_ComponentsLimits.l0 K a0 a1 (n : Int) ((y + 1 : Nat) : Int) 512 515 ((List.range (512 * (y + 1))).map (dots n)) := by
      intro b hb
      rw [hb, snoc]
      exact nx
    have hlen : ((List.range (512 * y + x)).map (dots n)).length < 140737488355328 := by
      rw [List.length_map, List.length_range]; omega
    have e1 : Int.tmod (x : Int) 2 = ((x % 2 : Nat) : Int) := by rw [Int.tmod_eq_emod_of_nonneg (by omega)]; omega
    have e2 : Int.tmod (y : Int) 2 = ((y % 2 : Nat) : Int) := by rw [Int.tmod_eq_emod_of_nonneg (by omega)]; omega
    have e3 : Int.tdiv (x : Int) 2 = ((x / 2 : Nat) : Int) := by rw [Int.tdiv_eq_ediv_of_nonneg (by omega)]; omega
    have e4 : Int.tdiv (y : Int) 2 = ((y / 2 : Nat) : Int) := by rw [Int.tdiv_eq_ediv_of_nonneg (by omega)]; omega
    rw [show K + (m + 1) + 1 = (K + m + 1) + 1 from by omega, barscanlaw38_ComponentsLimits.l1, if_pos (by omega), e1, e2, e3, e4, wrap_next (show x < 1000000000 by omega)]
    rw [w64 (show -4611686018427387904 ≤ ((y / 2 : Nat) : Int) ∧ ((y / 2 : Nat) : Int) ≤ 4611686018427387904 from by omega), w64 (show -4611686018427387904 ≤ ((x / 2 : Nat) : Int) ∧ ((x / 2 : Nat) : Int) ≤ 4611686018427387904 from by omega), w64 (show -4611686018427387904 ≤ ((y / 2 : Nat) : Int) * 256 ∧ ((y / 2 : Nat) : Int) * 256 ≤ 4611686018427387904 from by omega),
      w64 (show -4611686018427387904 ≤ ((y / 2 : Nat) : Int) * 256 + ((x / 2 : Nat) : Int) ∧ ((y / 2 : Nat) : Int) * 256 + ((x / 2 : Nat) : Int) ≤ 4611686018427387904 from by omega)]
    have m1 : (512 * y + x) % 512 = x := by omega
    have m2 : (512 * y + x) / 512 = y := by omega
    by_cases c1 : ((x % 2 : Nat) : Int) = 0
    · by_cases c2 : ((y % 2 : Nat) : Int) = 0
      · rw [if_pos c1, if_pos c2, if_pos hlen]
        refine go _ ?_
        unfold dots
        rw [m1, m2, decide_eq_decide]
        omega
      · rw [if_pos c1, if_neg c2, if_pos hlen]
        refine go _ ?_
        unfold dots
        rw [m1, m2, decide_eq_false (by omega)]
    · rw [if_neg c1, if_pos hlen]
      refine go _ ?_
      unfold dots
      rw [m1, m2, decide_eq_false (by omega)]
theorem lim_l0 (a0 : Int) (a1 : Bool) (n : Nat) : ∀ (m y K : Nat), y + m = 515 →
    barscanlaw38_ComponentsLimits.l0 (K + m * 514 + 1) a0 a1 (n : Int) (y : Int) 512 515 ((List.range (512 * y)).map (dots n)) = barscanlaw38_ComponentsLimits.l0 (K + 1) a0 a1 (n : Int) 515 512 515 ((List.range 263680).map (dots n)) := by
  intro m
  induction m with
  | zero =>
    intro y K hy
    obtain rfl : y = 515 := by omega
    rfl
  | succ m ih =>
    intro y K hy
    have nx := ih (y + 1) K (by omega)
    have r := lim_l1 a0 a1 n y (by omega) 512 0 (K + m * 514 + 1) (by omega)
    rw [show K + (m + 1) * 514 + 1 = (K + m * 514 + 1 + 512 + 1) + 1 from by omega, barscanlaw38_ComponentsLimits.l0, if_pos (by omega)]
    rw [show 512 * y + 0 = 512 * y from rfl, show ((0 : Nat) : Int) = 0 from rfl] at r
    rw [r]
    exact nx

/-- the labelling counts the parts -/
theorem Spec.count {w n : Nat} {e : Bool} {D : Nat → Bool} {L : List Int} {B : List S38} (h : Spec w e n D L B) : IsCount (Vs D n) (Conn (Vs D n) (Adj w e)) B.length := by
  refine ⟨fun j => (L.getD j 0).toNat, fun j hj => ?_, fun c hc => ?_, fun j k hj hk => ?_⟩
  · have := h.dark j hj
    dsimp only; omega
  · obtain ⟨f, f1, _⟩ := (h.blob c hc).first
    refine ⟨f, f1.1, ?_⟩
    dsimp only; rw [f1.2, Int.toNat_natCast]
  · rw [← h.conn j k hj hk]
    have := h.dark j hj
    have := h.dark k hk
    dsimp only
    omega
section
variable {n : Nat}
theorem dots_vs (j : Nat) : Vs (Dk ((List.range 263680).map (dots n))) 263680 j ↔ (j < 263680 ∧ j % 512 % 2 = 0 ∧ j / 512 % 2 = 0 ∧ j / 512 / 2 * 256 + j % 512 / 2 < n) := by
  constructor
  · rintro ⟨h1, h2⟩
    rw [Dk_map _ _ j h1] at h2
    unfold dots at h2
    rw [decide_eq_true_eq] at h2
    exact ⟨h1, h2⟩
  · rintro ⟨h1, h2⟩
    refine ⟨h1, ?_⟩
    rw [Dk_map _ _ j h1]
    unfold dots
    rw [decide_eq_true_eq]
    exact h2
theorem dots_alone (e : Bool) (j k : Nat) (h : Conn (Vs (Dk ((List.range 263680).map (dots n))) 263680) (Adj 512 e) j k) : k = j := by
  refine h.closed (S := fun x => x = j) ?_ rfl
  rintro x y rfl hx hy ⟨r1, r2, r3, r4, _⟩
  have hx := (dots_vs x).1 hx
  have hy := (dots_vs y).1 hy
  omega
theorem dots_count (e : Bool) (hn : n ≤ 65538) : IsCount (Vs (Dk ((List.range 263680).map (dots n))) 263680) (Conn (Vs (Dk ((List.range 263680).map (dots n))) 263680) (Adj 512 e)) n := by
  refine ⟨fun j => j / 512 / 2 * 256 + j % 512 / 2, fun j hj => ((dots_vs j).1 hj).2.2.2, fun c hc => ⟨(c / 256 * 2) * 512 + c % 256 * 2, (dots_vs _).2 ?_, ?_⟩, fun j k hj hk => ?_⟩
  · omega
  · dsimp only; omega
  · have hj' := (dots_vs j).1 hj
    have hk' := (dots_vs k).1 hk
    dsimp only
    constructor
    · intro e0
      obtain rfl : j = k := by omega
      exact .refl hj
    · intro c
      rw [dots_alone e j k c]
theorem dots_blobs {e : Bool} {L : List Int} {B : List S38} (hn : n ≤ 65538) (Sp : Spec 512 e 263680 (Dk ((List.range 263680).map (dots n))) L B) : B.length = n ∧ ∀ c, c < n → (B.getD c z38).f1 = 1 := by
  have hB := Sp.count.unique (dots_count e hn)
  refine ⟨hB, fun c hc => ?_⟩
  have b := Sp.blob c (by omega)
  obtain ⟨f, f1, _⟩ := b.first
  obtain ⟨ps, p1, p2, p3⟩ := b.area
  have one : ∀ x ∈ ps, x = f := by
    intro x hx
    have k := (p2 x).1 hx
    exact dots_alone e f x ((Sp.conn f x f1.1 k.1).1 (by rw [f1.2, k.2]))
  have hf := (p2 f).2 f1
  rw [p3]
  match ps, p1, one, hf with
  | [], _, _, h => cases h
  | [x], _, _, _ => rfl
  | x :: y :: t, nd, o, _ =>
    have hx := o x (by simp)
    have hy := o y (by simp)
    rw [hx, hy] at nd
    simp at nd
/-- each light pixel is joined to one at the border -/
theorem dots_edge (j : Nat) (hj : Vs (fun j => !Dk ((List.range 263680).map (dots n)) j) 263680 j) : ∃ k, (k % 512 = 0 ∨ k / 512 = 0) ∧ Conn (Vs (fun j => !Dk ((List.range 263680).map (dots n)) j) 263680) (Adj 512 false) j k := by
  have lt : ∀ k, k < 263680 → (k % 512 % 2 = 1 ∨ k / 512 % 2 = 1) → Vs (fun j => !Dk ((List.range 263680).map (dots n)) j) 263680 k := by
    intro k hk ho
    refine ⟨hk, ?_⟩
    show (!Dk ((List.range 263680).map (dots n)) k) = true
    rw [Dk_map _ _ k hk]
    unfold dots
    rw [decide_eq_false (by omega)]
    rfl
  -- along an odd row to its begin
  have row : ∀ (x y : Nat), x < 512 → y < 515 → y % 2 = 1 → Conn (Vs (fun j => !Dk ((List.range 263680).map (dots n)) j) 263680) (Adj 512 false) (512 * y) (512 * y + x) := by
    intro x
    induction x with
    | zero => intro y _ hy ho; exact .refl (lt _ (by omega) (by omega))
    | succ x ih =>
      intro y hx hy ho
      refine .step _ _ (ih y (by omega) hy ho) ?_ (lt _ (by omega) (by omega))
      unfold Adj
      refine ⟨by omega, by omega, by omega, by omega, .inr (.inr (by omega))⟩
  have col : ∀ (y x : Nat), x < 512 → y < 515 → x % 2 = 1 → Conn (Vs (fun j => !Dk ((List.range 263680).map (dots n)) j) 263680) (Adj 512 false) x (512 * y + x) := by
    intro y
    induction y with
    | zero => intro x hx _ ho; rw [Nat.mul_zero, Nat.zero_add]; exact .refl (lt _ (by omega) (by omega))
    | succ y ih =>
      intro x hx hy ho
      refine .step _ _ (ih x hx (by omega) ho) ?_ (lt _ (by omega) (by omega))
      unfold Adj
      refine ⟨by omega, by omega, by omega, by omega, .inr (.inl (by omega))⟩
  have hjl := hj.1
  have e : 512 * (j / 512) + j % 512 = j := by omega
  by_cases c1 : j / 512 % 2 = 1
  · have := row (j % 512) (j / 512) (by omega) (by omega) c1
    rw [e] at this
    exact ⟨512 * (j / 512), .inl (by omega), this.symm (Adj.symm_ 512 false)⟩
  · by_cases c2 : j % 512 % 2 = 1
    · have := col (j / 512) (j % 512) (by omega) (by omega) c2
      rw [e] at this
      exact ⟨j % 512, .inr (by omega), this.symm (Adj.symm_ 512 false)⟩
    · have := col (j / 512) (j % 512 + 1) (by omega) (by omega) (by omega)
      have s : Conn (Vs (fun j => !Dk ((List.range 263680).map (dots n)) j) 263680) (Adj 512 false) j (512 * (j / 512) + (j % 512 + 1)) := by
        refine Conn.one hj ?_ (lt _ (by omega) (by omega))
        unfold Adj
        refine ⟨by omega, by omega, by omega, by omega, .inr (.inr (by omega))⟩
      exact ⟨j % 512 + 1, .inr (by omega), s.trans (this.symm (Adj.symm_ 512 false))⟩
theorem dots_noholes {L : List Int} {B : List S38} (Sp : Spec 512 false 263680 (fun j => !Dk ((List.range 263680).map (dots n)) j) L B) : cnt (holeP ((512 : Nat) : Int) ((515 : Nat) : Int) B) B.length = 0 := by
  refine cnt_none _ _ fun c hc => ?_
  have b := Sp.blob c hc
  obtain ⟨f, f1, _⟩ := b.first
  obtain ⟨k, k1, k2⟩ := dots_edge f f1.1
  have e := (Sp.conn f k f1.1 k2.right).2 k2
  have sk : Vs (fun j => !Dk ((List.range 263680).map (dots n)) j) 263680 k ∧ L.getD k 0 = (c : Int) := ⟨k2.right, by rw [← e, f1.2]⟩
  have x0 := b.x0 k sk
  have y0 := b.y0 k sk
  unfold holeP holeB
  rw [decide_eq_false_iff_not]
  rintro ⟨h1, h2, _⟩
  rcases k1 with k1 | k1
  · rw [k1] at x0; omega
  · rw [k1] at y0; omega
end
theorem limits_true (a0 : Int) (a1 : Bool) (ha : 0 ≤ a0 ∧ a0 ≤ 255) (K : Nat) (hK : 80000000 ≤ K) : barscanlaw38_ComponentsLimits.f K a0 a1 = some true := by
  unfold barscanlaw38_ComponentsLimits.f
  obtain ⟨n, hn, hn1, hn2⟩ : ∃ n : Nat, wrap64 (65535 + wrap64 (Int.tmod a0 4)) = (n : Int) ∧ 65535 ≤ n ∧ n ≤ 65538 := by
    have e : Int.tmod a0 4 = a0 % 4 := Int.tmod_eq_emod_of_nonneg (by omega)
    rw [e, w64 (n := a0 % 4) (by omega), w64 (n := 65535 + a0 % 4) (by omega)]
    exact ⟨(65535 + a0 % 4).toNat, by omega, by omega, by omega⟩
  rw [hn]
  obtain ⟨K, rfl⟩ : ∃ K', K = K' + 515 * 514 + 1 := ⟨K - 264711, by omega⟩
  have r := lim_l0 a0 a1 n 515 0 K (by omega)
  rw [Nat.mul_zero, show ((0 : Nat) : Int) = 0 from rfl, List.range_zero, List.map_nil] at r
  rw [r]
  have hl : ((List.range 263680).map (dots n)).length = 512 * 515 := by rw [List.length_map, List.length_range]
  have hl' : ((List.range 263680).map (dots n)).length = 263680 := by rw [List.length_map, List.length_range]
  have v : Vd ((512 : Nat) : Int) ((515 : Nat) : Int) ((List.range 263680).map (dots n)) := ⟨by omega, by omega, by omega, by omega, by omega, by rw [hl']; rfl⟩
  rw [barscanlaw38_ComponentsLimits.l0, if_neg (by omega)]
  by_cases c0 : (Int.tdiv a0 4 % 256) % 3 = 0
  · rw [if_pos c0]
    obtain ⟨L, B, h1, h3⟩ := label_spec 512 515 _ a1 (by omega) (by omega) (by omega) (by omega) hl
    rw [hl'] at h3
    obtain ⟨b1, b2⟩ := dots_blobs hn2 h3
    unfold components_Label.f
    have ck := check1 v
    rw [show ((512 : Nat) : Int) = 512 from rfl, show ((515 : Nat) : Int) = 515 from rfl] at ck
    rw [show ((512 : Nat) : Int) = 512 from rfl] at h1
    rw [ck, Option.bind_some, if_pos rfl, h1, Option.bind_some]
    dsimp only
    rw [b1]
    by_cases c : (n : Int) > 65536
    · rw [if_pos c, Option.bind_some]
      dsimp only
      rw [if_pos c, if_pos rfl]
      rfl
    · rw [if_neg c, Option.bind_some]
      dsimp only
      have e : wrap64 ((n : Int) - 1) = ((n - 1 : Nat) : Int) := by rw [w64 (by omega)]; omega
      rw [if_neg c, if_pos rfl, b1, if_pos rfl, e, if_pos (by omega), if_pos (by omega), rdT, b2 (n - 1) (by omega), if_pos rfl]
      rfl
  · rw [if_neg c0]
    by_cases c1 : (Int.tdiv a0 4 % 256) % 3 = 1
    · rw [if_pos c1]
      obtain ⟨L, B, L', B', h1, h3, h5, h6⟩ := euler_prog 512 515 ((List.range 263680).map (dots n)) (by omega) (by omega) (by omega) (by omega) hl K (by omega) (by omega)
      rw [hl'] at h3 h5
      obtain ⟨b1, b2⟩ := dots_blobs hn2 h3
      rw [dots_noholes h5, b1, show ((512 : Nat) : Int) = 512 from rfl, show ((515 : Nat) : Int) = 515 from rfl] at h6
      rw [h6, Option.bind_some]
      by_cases c : (n : Int) > 65536
      · rw [if_neg (show ¬ n ≤ 65536 by omega), if_pos c]
        dsimp only
        rw [if_pos rfl, if_pos rfl]
        rfl
      · rw [if_pos (show n ≤ 65536 by omega), if_neg c]
        dsimp only
        rw [if_pos rfl, if_pos (by omega)]
        rfl
    · rw [if_neg c1]
      obtain ⟨L, B, h3, h6⟩ := desp_prog 512 515 ((List.range 263680).map (dots n)) (by omega) (by omega) (by omega) (by omega) hl (by omega) 2 (by omega) K (by omega)
      rw [hl'] at h3
      obtain ⟨b1, b2⟩ := dots_blobs hn2 h3
      rw [b1, show ((512 : Nat) : Int) = 512 from rfl, show ((515 : Nat) : Int) = 515 from rfl] at h6
      rw [h6, Option.bind_some]
      by_cases c : (n : Int) > 65536
      · rw [if_neg (show ¬ n ≤ 65536 by omega), if_pos c]
        dsimp only
        rw [if_pos rfl]
        rfl
      · rw [if_pos (show n ≤ 65536 by omega), if_neg c]
        dsimp only
        rw [if_pos rfl, if_pos rfl]
        rfl
end Go.Proofs.Ytahibhipffojlaa.P
