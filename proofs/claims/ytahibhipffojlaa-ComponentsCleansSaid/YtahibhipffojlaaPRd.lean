/- The specification's neighbours of a pixel. -/
import Derived.Test.YtahibhipffojlaaP0
import Derived.Test.YtahibhipffojlaaPLd
import Derived.Test.YtahibhipffojlaaMx9
import Derived.Test.YtahibhipffojlaaMx10
import Derived.Test.YtahibhipffojlaaMx11
set_option linter.unusedSimpArgs false
set_option linter.unusedVariables false
namespace Go.Proofs.Ytahibhipffojlaa.P
open Go.RowKit Go.Proofs.YtahibhipffojlaaW.PrintWords Go.Proofs.YtahibhipffojlaaW.PrintMore Go.Proofs.Ytahibhipffojlaa.M Go.Proofs.Ytahibhipffojlaa.Topo

/-- what one place adds -/
def addN (e : Bool) (x y w h dy dx : Int) : List Int :=
  if (dx = 0 ∧ dy = 0) ∨ (e = false ∧ dx ≠ 0 ∧ dy ≠ 0) then [] else if 0 ≤ x + dx ∧ x + dx < w ∧ 0 ≤ y + dy ∧ y + dy < h then [(y + dy) * w + x + dx] else []

section
variable {e : Bool} {x y w h : Int} {l : List Bool}
theorem near_j2 (K : Nat) (acc : List Int) (dy dx : Int) (b : Bool) (hb : b = decide ((dx = 0 ∧ dy = 0) ∨ (e = false ∧ dx ≠ 0 ∧ dy ≠ 0))) (hx : 0 ≤ x ∧ x < w) (hy : 0 ≤ y ∧ y < h) (hw : w ≤ 4096) (hh : h ≤ 4096) (h1 : -1 ≤ dy ∧ dy ≤ 1) (h2 : -1 ≤ dx ∧ dx ≤ 1) (hl : acc.length ≤ 1000) :
    barscanref38_near.j2 (K + 1) e acc x y dy dx b w h l = barscanref38_near.l1 K e (acc ++ addN e x y w h dy dx) x y dy (dx + 1) w h l := by
  have p : 0 ≤ (y + dy) → y + dy < h → 0 ≤ (y + dy) * w ∧ (y + dy) * w ≤ 16777216 := by
    intro a b
    refine ⟨Int.mul_nonneg a (by omega), ?_⟩
    have : (y + dy) * w ≤ 4096 * w := Int.mul_le_mul_of_nonneg_right (by omega) (by omega)
    omega
  have q1 : wrap64 (x + dx) = x + dx := w64 (by omega)
  have q2 : wrap64 (y + dy) = y + dy := w64 (by omega)
  have q3 : wrap64 (dx + 1) = dx + 1 := w64 (by omega)
  unfold addN
  rw [barscanref38_near.j2]
  by_cases c : (dx = 0 ∧ dy = 0) ∨ (e = false ∧ dx ≠ 0 ∧ dy ≠ 0)
  · rw [hb, decide_eq_true c, if_pos rfl, if_pos c, List.append_nil, q3]
  · rw [hb, decide_eq_false c, if_neg (by simp), if_neg c, q1, q2, q3]
    by_cases c1 : x + dx ≥ 0
    · by_cases c2 : x + dx < w
      · by_cases c3 : y + dy ≥ 0
        · by_cases c4 : y + dy < h
          · have := p c3 c4
            have q4 : wrap64 ((y + dy) * w) = (y + dy) * w := w64 (by omega)
            have q5 : wrap64 ((y + dy) * w + x) = (y + dy) * w + x := w64 (by omega)
            have q6 : wrap64 ((y + dy) * w + x + dx) = (y + dy) * w + x + dx := w64 (by omega)
            rw [if_pos c1, if_pos c2, if_pos c3, if_pos c4, if_pos (by omega), if_pos ⟨c1, c2, c3, c4⟩, q4, q5, q6]
          · rw [if_pos c1, if_pos c2, if_pos c3, if_neg c4, if_neg (fun k => c4 k.2.2.2), List.append_nil]
        · rw [if_pos c1, if_pos c2, if_neg c3, if_neg (fun k => c3 k.2.2.1), List.append_nil]
      · rw [if_pos c1, if_neg c2, if_neg (fun k => c2 k.2.1), List.append_nil]
    · rw [if_neg c1, if_neg (fun k => c1 k.1), List.append_nil]
theorem near_l1 (K : Nat) (acc : List Int) (dy dx : Int) (hx : 0 ≤ x ∧ x < w) (hy : 0 ≤ y ∧ y < h) (hw : w ≤ 4096) (hh : h ≤ 4096) (h1 : -1 ≤ dy ∧ dy ≤ 1) (h2 : -1 ≤ dx ∧ dx ≤ 1) (hl : acc.length ≤ 1000) :
    barscanref38_near.l1 (K + 2) e acc x y dy dx w h l = barscanref38_near.l1 K e (acc ++ addN e x y w h dy dx) x y dy (dx + 1) w h l := by
  rw [show K + 2 = (K + 1) + 1 from rfl, barscanref38_near.l1, if_pos h2.2]
  have j := fun b hb => near_j2 (e := e) (l := l) K acc dy dx b hb hx hy hw hh h1 h2 hl
  by_cases c : dx = 0
  · rw [if_pos c]
    by_cases d : dy = 0
    · rw [if_pos d]; exact j true (by rw [decide_eq_true (.inl ⟨c, d⟩)])
    · rw [if_neg d]
      have : false = decide ((dx = 0 ∧ dy = 0) ∨ (e = false ∧ dx ≠ 0 ∧ dy ≠ 0)) := by
        rw [decide_eq_false]; rintro (⟨_, k⟩ | ⟨_, k, _⟩)
        · exact d k
        · exact k c
      split <;> exact j false this
  · rw [if_neg c]
    cases e with
    | true =>
      rw [if_pos rfl]
      exact j false (by rw [decide_eq_false]; rintro (⟨k, _⟩ | ⟨k, _⟩); exact c k; cases k)
    | false =>
      rw [if_neg (by simp)]
      refine j _ ?_
      by_cases d : dy = 0
      · rw [decide_eq_false]
        · simp [d]
        · rintro (⟨k, _⟩ | ⟨_, _, k⟩)
          · exact c k
          · exact k d
      · rw [decide_eq_true (.inr ⟨rfl, c, d⟩)]
        simp [d]
theorem addN_len (dy dx : Int) : (addN e x y w h dy dx).length ≤ 1 := by
  unfold addN; split
  · simp
  · split <;> simp
theorem near_row (K : Nat) (acc : List Int) (dy : Int) (hx : 0 ≤ x ∧ x < w) (hy : 0 ≤ y ∧ y < h) (hw : w ≤ 4096) (hh : h ≤ 4096) (h1 : -1 ≤ dy ∧ dy ≤ 1) (hl : acc.length ≤ 900) :
    barscanref38_near.l0 (K + 8) e acc x y dy w h l = barscanref38_near.l0 K e (acc ++ (addN e x y w h dy (-1) ++ addN e x y w h dy 0 ++ addN e x y w h dy 1)) x y (dy + 1) w h l := by
  have a1 := addN_len (e := e) (x := x) (y := y) (w := w) (h := h) dy (-1)
  have a2 := addN_len (e := e) (x := x) (y := y) (w := w) (h := h) dy 0
  have s1 := near_l1 (e := e) (l := l) (K + 5) acc dy (-1) hx hy hw hh h1 (by omega) (by omega)
  have s2 := near_l1 (e := e) (l := l) (K + 3) (acc ++ addN e x y w h dy (-1)) dy 0 hx hy hw hh h1 (by omega) (by rw [List.length_append]; omega)
  have s3 := near_l1 (e := e) (l := l) (K + 1) (acc ++ addN e x y w h dy (-1) ++ addN e x y w h dy 0) dy 1 hx hy hw hh h1 (by omega) (by rw [List.length_append, List.length_append]; omega)
  rw [show K + 8 = (K + 7) + 1 from rfl, barscanref38_near.l0, if_pos h1.2]
  rw [show K + 7 = K + 5 + 2 from rfl, s1, show (-1 : Int) + 1 = 0 from rfl, show K + 5 = K + 3 + 2 from rfl, s2, show (0 : Int) + 1 = 1 from rfl, show K + 3 = K + 1 + 2 from rfl, s3, show (1 : Int) + 1 = 2 from rfl]
  rw [barscanref38_near.l1, if_neg (by omega), w64 (by omega)]
  simp only [List.append_assoc]
end

def nearF (e : Bool) (x y w h : Int) : List Int := (addN e x y w h (-1) (-1) ++ addN e x y w h (-1) 0 ++ addN e x y w h (-1) 1) ++ ((addN e x y w h 0 (-1) ++ addN e x y w h 0 0 ++ addN e x y w h 0 1) ++ (addN e x y w h 1 (-1) ++ addN e x y w h 1 0 ++ addN e x y w h 1 1))
theorem mem_addN {e : Bool} {x y w h dy dx a : Int} : a ∈ addN e x y w h dy dx ↔ ((¬ (dx = 0 ∧ dy = 0) ∧ (e = true ∨ dx = 0 ∨ dy = 0)) ∧ (0 ≤ x + dx ∧ x + dx < w ∧ 0 ≤ y + dy ∧ y + dy < h) ∧ a = (y + dy) * w + x + dx) := by
  unfold addN
  cases e <;> grind
theorem mem_nearF {e : Bool} {x y w h a : Int} : a ∈ nearF e x y w h ↔ ∃ dy dx : Int, (-1 ≤ dy ∧ dy ≤ 1) ∧ (-1 ≤ dx ∧ dx ≤ 1) ∧ a ∈ addN e x y w h dy dx := by
  unfold nearF
  simp only [List.mem_append]
  constructor
  · rintro (((h1 | h1) | h1) | (((h1 | h1) | h1) | ((h1 | h1) | h1)))
    all_goals exact ⟨_, _, by omega, by omega, h1⟩
  · rintro ⟨dy, dx, h1, h2, h3⟩
    have c1 : dy = -1 ∨ dy = 0 ∨ dy = 1 := by omega
    have c2 : dx = -1 ∨ dx = 0 ∨ dx = 1 := by omega
    rcases c1 with rfl | rfl | rfl <;> rcases c2 with rfl | rfl | rfl <;> simp only [h3, true_or, or_true]
theorem near_f (w h : Nat) (l : List Bool) (e : Bool) (hw : 0 < w) (hw2 : w ≤ 4096) (hh2 : h ≤ 4096) (hl : l.length = w * h) (p : Nat) (hp : p < l.length) (K : Nat) (hK : 100 ≤ K) :
    ∃ ns, barscanref38_near.f K (w : Int) (h : Int) l (p : Int) e = some ns ∧ ns.length ≤ 9 ∧ ∀ a : Int, a ∈ ns ↔ ∃ j : Nat, a = (j : Int) ∧ j < l.length ∧ j ≠ p ∧ Adj w e p j := by
  have hy : p / w < h := (Nat.div_lt_iff_lt_mul hw).2 (by rw [Nat.mul_comm, ← hl]; exact hp)
  have hx : p % w < w := Nat.mod_lt _ hw
  refine ⟨nearF e ((p % w : Nat) : Int) ((p / w : Nat) : Int) (w : Int) (h : Int), ?_, ?_, ?_⟩
  · unfold barscanref38_near.f
    rw [if_neg (by omega)]
    have e1 : Int.tmod (p : Int) (w : Int) = ((p % w : Nat) : Int) := by rw [Int.tmod_eq_emod_of_nonneg (by omega)]; omega
    have e2 : Int.tdiv (p : Int) (w : Int) = ((p / w : Nat) : Int) := by rw [Int.tdiv_eq_ediv_of_nonneg (by omega)]; omega
    have n1 := Int.natCast_nonneg (p % w)
    have n2 := Int.natCast_nonneg (p / w)
    have e3 : wrap64 ((p / w : Nat) : Int) = ((p / w : Nat) : Int) := w64 (by generalize p / w = z at *; omega)
    rw [e1, e2, e3]
    generalize p % w = u at *
    generalize p / w = v at *
    obtain ⟨K, rfl⟩ : ∃ K', K = K' + 1 + 8 + 8 + 8 := ⟨K - 25, by omega⟩
    have b1 := fun dy dx => addN_len (e := e) (x := (u : Int)) (y := (v : Int)) (w := w) (h := h) dy dx
    have hr : ∀ dy, (addN e (u : Int) (v : Int) w h dy (-1) ++ addN e (u : Int) (v : Int) w h dy 0 ++ addN e (u : Int) (v : Int) w h dy 1).length ≤ 3 := by
      intro dy
      have := b1 dy (-1); have := b1 dy 0; have := b1 dy 1
      simp only [List.length_append]; omega
    have r1 := hr (-1); have r2 := hr 0
    rw [near_row _ _ _ (by omega) (by omega) (by omega) (by omega) (by omega) (by simp), show (-1 : Int) + 1 = 0 from rfl, near_row _ _ _ (by omega) (by omega) (by omega) (by omega) (by omega) (by simp only [List.length_append, List.length_nil] at r1 ⊢; omega), show (0 : Int) + 1 = 1 from rfl,
      near_row _ _ _ (by omega) (by omega) (by omega) (by omega) (by omega) (by simp only [List.length_append, List.length_nil] at r1 r2 ⊢; omega), barscanref38_near.l0, if_neg (by omega)]
    unfold nearF
    simp only [List.nil_append, List.append_assoc]
  · have b1 := fun dy dx => addN_len (e := e) (x := ((p % w : Nat) : Int)) (y := ((p / w : Nat) : Int)) (w := w) (h := h) dy dx
    have := b1 (-1) (-1); have := b1 (-1) 0; have := b1 (-1) 1; have := b1 0 (-1); have := b1 0 0; have := b1 0 1; have := b1 1 (-1); have := b1 1 0; have := b1 1 1
    unfold nearF
    simp only [List.length_append]
    omega
  · intro a
    rw [mem_nearF]
    obtain ⟨x, hxe⟩ : ∃ x, p % w = x := ⟨_, rfl⟩
    obtain ⟨y, hye⟩ : ∃ y, p / w = y := ⟨_, rfl⟩
    rw [hxe, hye]
    rw [hxe] at hx
    rw [hye] at hy
    have hpe := of_xy hw hxe hye
    constructor
    · rintro ⟨dy, dx, h1, h2, hm⟩
      obtain ⟨⟨g1, g2⟩, ⟨k1, k2, k3, k4⟩, rfl⟩ := mem_addN.1 hm
      obtain ⟨u, hu⟩ := Int.eq_ofNat_of_zero_le k1
      obtain ⟨v, hv⟩ := Int.eq_ofNat_of_zero_le k3
      have hul : u < w := by omega
      have hvl : v < h := by omega
      obtain ⟨j1, j2⟩ := at_xy (w := w) (x := u) (y := v) hul
      have hlt : w * v + u < l.length := by
        rw [hl]
        have : w * (v + 1) ≤ w * h := Nat.mul_le_mul_left w hvl
        rw [Nat.mul_succ] at this
        omega
      refine ⟨w * v + u, ?_, hlt, ?_, ?_⟩
      · rw [hv, Int.add_assoc, hu]
        push_cast
        rw [Int.mul_comm]
      · intro e0
        have e1 : u = x := by rw [← j1, e0, hxe]
        have e2 : v = y := by rw [← j2, e0, hye]
        exact g1 ⟨by omega, by omega⟩
      · unfold Adj
        rw [hxe, hye, j1, j2]
        refine ⟨by omega, by omega, by omega, by omega, ?_⟩
        rcases g2 with g2 | g2 | g2
        · exact .inl g2
        · exact .inr (.inl (by omega))
        · exact .inr (.inr (by omega))
    · rintro ⟨j, rfl, hj, hne, ha⟩
      obtain ⟨u, hu⟩ : ∃ u, j % w = u := ⟨_, rfl⟩
      obtain ⟨v, hv⟩ : ∃ v, j / w = v := ⟨_, rfl⟩
      have hje := of_xy hw hu hv
      have hul : u < w := hu ▸ Nat.mod_lt _ hw
      have hvl : v < h := hv ▸ (Nat.div_lt_iff_lt_mul hw).2 (by rw [Nat.mul_comm, ← hl]; exact hj)
      unfold Adj at ha
      rw [hxe, hye, hu, hv] at ha
      obtain ⟨a1, a2, a3, a4, a5⟩ := ha
      refine ⟨(v : Int) - y, (u : Int) - x, by omega, by omega, mem_addN.2 ⟨⟨?_, ?_⟩, by omega, ?_⟩⟩
      · rintro ⟨b1, b2⟩
        have e1 : u = x := by omega
        have e2 : v = y := by omega
        exact hne (by rw [hje, hpe, e1, e2])
      · rcases a5 with b | b | b
        · exact .inl b
        · exact .inr (.inl (by omega))
        · exact .inr (.inr (by omega))
      · rw [show (y : Int) + ((v : Int) - y) = v by omega, Int.add_assoc, show (x : Int) + ((u : Int) - x) = u by omega, hje]
        push_cast
        rw [Int.mul_comm]
end Go.Proofs.Ytahibhipffojlaa.P
/- The specification's spreading: it finds the whole component of a pixel. -/
set_option linter.unusedSimpArgs false
set_option linter.unusedVariables false
namespace Go.Proofs.Ytahibhipffojlaa.P
open Go.RowKit Go.Proofs.YtahibhipffojlaaW.PrintWords Go.Proofs.YtahibhipffojlaaW.PrintMore Go.Proofs.Ytahibhipffojlaa.M Go.Proofs.Ytahibhipffojlaa.Topo Go.Proofs.Ytahibhipffojlaa.Uf

structure SI (n w : Nat) (e : Bool) (C : Nat → Bool) (L0 : List Int) (c : Int) (f : Nat) (x1 found : List Int) : Prop where
  len : x1.length = n
  val : ∀ j, j < n → x1.getD j 0 = if (j : Int) ∈ found then c else L0.getD j 0
  nd : found.Nodup
  mem : ∀ a ∈ found, ∃ j : Nat, a = (j : Int) ∧ j < n ∧ C j = true ∧ L0.getD j 0 < 0 ∧ Conn (Vs C n) (Adj w e) f j
  hd : found.head? = some (f : Int)

section
variable {n w : Nat} {e : Bool} {C : Nat → Bool} {L0 : List Int} {c : Int} {f : Nat} {x1 found : List Int}
theorem SI.small (I : SI n w e C L0 c f x1 found) : found.length ≤ n := by
  have h : (found.map Int.toNat).Nodup := by
    rw [List.Nodup, List.pairwise_map]
    refine I.nd.imp_of_mem fun {a b} ha hb hne h => hne ?_
    obtain ⟨j, rfl, _⟩ := I.mem a ha
    obtain ⟨k, rfl, _⟩ := I.mem b hb
    omega
  have := h.length_le_of_subset (l₂ := List.range n) (fun x hx => by
    obtain ⟨a, ha, rfl⟩ := List.mem_map.1 hx
    obtain ⟨j, rfl, hj, _⟩ := I.mem a ha
    exact List.mem_range.2 (by omega))
  simpa using this
theorem SI.add (I : SI n w e C L0 c f x1 found) (hc : 0 ≤ c) (p j : Nat) (hp : (p : Int) ∈ found) (hj : j < n) (hC : C j = true) (ha : Adj w e p j) (hneg : x1.getD j 0 < 0) : SI n w e C L0 c f (x1.set j c) (found ++ [(j : Int)]) := by
  have hnot : (j : Int) ∉ found := by
    intro h
    rw [I.val j hj, if_pos h] at hneg
    omega
  refine ⟨by rw [List.length_set]; exact I.len, fun k hk => ?_, ?_, fun a ha' => ?_, ?_⟩
  · rw [getD_set]
    by_cases h : j = k
    · subst h
      rw [if_pos ⟨rfl, by rw [I.len]; exact hj⟩, if_pos (by simp)]
    · rw [if_neg (fun q => h q.1), I.val k hk]
      have : (k : Int) ∈ found ++ [(j : Int)] ↔ (k : Int) ∈ found := by
        rw [List.mem_append, List.mem_singleton]
        constructor
        · rintro (q | q)
          · exact q
          · omega
        · exact Or.inl
      by_cases q : (k : Int) ∈ found
      · rw [if_pos q, if_pos (this.2 q)]
      · rw [if_neg q, if_neg (fun z => q (this.1 z))]
  · exact List.nodup_append.2 ⟨I.nd, by simp, fun a ha b hb q => by simp at hb; subst hb; subst q; exact hnot ha⟩
  · rcases List.mem_append.1 ha' with h | h
    · exact I.mem a h
    · simp at h
      subst h
      obtain ⟨p', e0, p1, p2, p3, p4⟩ := I.mem p hp
      obtain rfl : p' = p := by omega
      refine ⟨j, rfl, hj, hC, ?_, p4.trans (Conn.one ⟨p1, p2⟩ ha ⟨hj, hC⟩)⟩
      rw [I.val j hj, if_neg hnot] at hneg
      exact hneg
  · have := I.hd
    cases found with
    | nil => simp at this
    | cons a t => simpa using this
theorem SI.le (I : SI n w e C L0 c f x1 found) {x1' found' : List Int} (I' : SI n w e C L0 c f x1' found') (hc : 0 ≤ c) (hp : found <+: found') (j : Nat) (hj : j < n) (h : 0 ≤ x1.getD j 0) : 0 ≤ x1'.getD j 0 := by
  rw [I.val j hj] at h
  rw [I'.val j hj]
  by_cases q : (j : Int) ∈ found
  · rw [if_pos (hp.subset q)]; exact hc
  · rw [if_neg q] at h
    split
    · exact hc
    · exact h

theorem sp_l1 (h : Nat) (l : List Bool) (dark : Bool) (hn : n ≤ 100000000) (hl : l.length = n) (hCd : ∀ j, j < n → (C j = true ↔ (l.getD j false == dark) = true)) (hc : 0 ≤ c) (i : Int) (p : Nat) (ns : List Int) (hns : ns.length ≤ 9)
    (hN : ∀ a ∈ ns, ∃ j : Nat, a = (j : Int) ∧ j < n ∧ Adj w e p j) :
    ∀ (m t K : Nat) (x1 found : List Int), SI n w e C L0 c f x1 found → (p : Int) ∈ found → t + m = ns.length → m < K → (∀ s, s < t → C (rd ns (s : Int)).toNat = true → 0 ≤ x1.getD (rd ns (s : Int)).toNat 0) →
      ∃ x1' found', barscanref38_spread.l1 K x1 c e dark found i ns (t : Int) (w : Int) (h : Int) l = barscanref38_spread.l0 (K - m - 1) x1' c e dark found' (wrap64 (i + 1)) (w : Int) (h : Int) l ∧
        SI n w e C L0 c f x1' found' ∧ found <+: found' ∧ ∀ a ∈ ns, C a.toNat = true → 0 ≤ x1'.getD a.toNat 0 := by
  intro m
  induction m with
  | zero =>
    intro t K x1 found I hp ht hK hdone
    obtain ⟨K, rfl⟩ : ∃ K', K = K' + 1 := ⟨K - 1, by omega⟩
    refine ⟨x1, found, ?_, I, List.prefix_refl _, fun a ha hCa => ?_⟩
    · rw [barscanref38_spread.l1, if_neg (by omega), show K + 1 - 0 - 1 = K from by omega]
    · obtain ⟨s, hs, rfl⟩ := List.mem_iff_getElem.1 ha
      have := hdone s (by omega)
      have e0 : rd ns (s : Int) = ns[s] := by unfold rd; rw [Int.toNat_natCast, List.getD_eq_getElem?_getD, List.getElem?_eq_getElem hs]; rfl
      rw [e0] at this
      exact this hCa
  | succ m ih =>
    intro t K x1 found I hp ht hK hdone
    obtain ⟨K, rfl⟩ : ∃ K', K = K' + 1 := ⟨K - 1, by omega⟩
    have hts : t < ns.length := by omega
    have e0 : rd ns (t : Int) = ns[t] := by unfold rd; rw [Int.toNat_natCast, List.getD_eq_getElem?_getD, List.getElem?_eq_getElem hts]; rfl
    obtain ⟨j, ej, hj, haj⟩ := hN ns[t] (List.getElem_mem hts)
    have e1 : rd ns (t : Int) = (j : Int) := e0.trans ej
    have e2 : rdOf false l (j : Int) = l.getD j false := by unfold rdOf; rw [Int.toNat_natCast]
    have e3 : rd x1 (j : Int) = x1.getD j 0 := by unfold rd; rw [Int.toNat_natCast]
    have E4 := Lib.hid (wrap_next (show t < 1000000000 by omega))
    have hlen := I.len
    have hsm := I.small
    have ext : ∀ {x1' : List Int}, (∀ s, s < t → C (rd ns (s : Int)).toNat = true → 0 ≤ x1'.getD (rd ns (s : Int)).toNat 0) → (C j = true → 0 ≤ x1'.getD j 0) → ∀ s, s < t + 1 → C (rd ns (s : Int)).toNat = true → 0 ≤ x1'.getD (rd ns (s : Int)).toNat 0 := by
      intro x1' h1 h2 s hs hCs
      by_cases q : s = t
      · subst q
        rw [e1, Int.toNat_natCast] at hCs ⊢
        exact h2 hCs
      · exact h1 s (by omega) hCs
    rw [barscanref38_spread.l1, if_pos (by omega), if_pos (by omega), e1, if_pos (by omega), if_pos (by omega), e2]
    rw [show K + 1 - (m + 1) - 1 = K - m - 1 by omega]
    by_cases hCj : C j = true
    · rw [if_pos ((hCd j hj).1 hCj), if_pos (by omega), e3]
      by_cases hneg : x1.getD j 0 < 0
      · rw [if_pos hneg, if_pos (by omega), Int.toNat_natCast, E4.out]
        have I' := I.add hc p j hp hj hCj haj hneg
        obtain ⟨y1, g1, r1, r2, r3, r4⟩ := ih (t + 1) K _ _ I' (by simp [hp]) (by omega) (by omega) (ext (fun s hs hCs => I.le I' hc (List.prefix_append _ _) _ (by
            obtain ⟨j', ej', hj', _⟩ := hN (rd ns (s : Int)) (by
              have hs' : s < ns.length := by omega
              have : rd ns (s : Int) = ns[s] := by unfold rd; rw [Int.toNat_natCast, List.getD_eq_getElem?_getD, List.getElem?_eq_getElem hs']; rfl
              rw [this]; exact List.getElem_mem hs')
            rw [ej', Int.toNat_natCast]; exact hj') (hdone s hs hCs)) (fun _ => by rw [getD_set_eq (by omega)]; exact hc))
        exact ⟨y1, g1, r1, r2, (List.prefix_append _ _).trans r3, r4⟩
      · rw [if_neg hneg, E4.out]
        exact ih (t + 1) K x1 found I hp (by omega) (by omega) (ext hdone (fun _ => by omega))
    · rw [if_neg (fun q => hCj ((hCd j hj).2 q)), E4.out]
      exact ih (t + 1) K x1 found I hp (by omega) (by omega) (ext hdone (fun q => absurd q hCj))

theorem sp_l0 (h : Nat) (l : List Bool) (dark : Bool) (hw : 0 < w) (hw2 : w ≤ 4096) (hh2 : h ≤ 4096) (hwh : l.length = w * h) (hl : l.length = n) (hCd : ∀ j, j < n → (C j = true ↔ (l.getD j false == dark) = true)) (hc : 0 ≤ c) :
    ∀ (m i K : Nat) (x1 found : List Int), SI n w e C L0 c f x1 found → (∀ s, s < i → ∀ j, j < n → C j = true → Adj w e (rd found (s : Int)).toNat j → 0 ≤ x1.getD j 0) → i ≤ found.length → n - i ≤ m → m * 12 + 200 ≤ K →
      ∃ x1' found', barscanref38_spread.l0 K x1 c e dark found (i : Int) (w : Int) (h : Int) l = some (x1', found') ∧ SI n w e C L0 c f x1' found' ∧ ∀ a ∈ found', ∀ j, j < n → C j = true → Adj w e a.toNat j → 0 ≤ x1'.getD j 0 := by
  have hn : n ≤ 100000000 := by
    have : w * h ≤ 4096 * 4096 := Nat.mul_le_mul hw2 hh2
    omega
  intro m
  induction m with
  | zero =>
    intro i K x1 found I hdone hif hm hK
    have hsm := I.small
    obtain ⟨K, rfl⟩ : ∃ K', K = K' + 1 := ⟨K - 1, by omega⟩
    refine ⟨x1, found, ?_, I, fun a ha j hj hCj haj => ?_⟩
    · rw [barscanref38_spread.l0, if_neg (by omega)]
    · obtain ⟨s, hs, rfl⟩ := List.mem_iff_getElem.1 ha
      have e0 : rd found (s : Int) = found[s] := by unfold rd; rw [Int.toNat_natCast, List.getD_eq_getElem?_getD, List.getElem?_eq_getElem hs]; rfl
      exact hdone s (by omega) j hj hCj (by rw [e0]; exact haj)
  | succ m ih =>
    intro i K x1 found I hdone hif hm hK
    have hsm := I.small
    obtain ⟨K, rfl⟩ : ∃ K', K = K' + 1 := ⟨K - 1, by omega⟩
    by_cases hlt : i < found.length
    · have e0 : rd found (i : Int) = found[i] := by unfold rd; rw [Int.toNat_natCast, List.getD_eq_getElem?_getD, List.getElem?_eq_getElem hlt]; rfl
      obtain ⟨p, ep, hp, _, _, _⟩ := I.mem found[i] (List.getElem_mem hlt)
      have e1 : rd found (i : Int) = (p : Int) := e0.trans ep
      obtain ⟨ns, n1, n2, n3⟩ := near_f w h l e hw hw2 hh2 hwh p (by omega) K (by omega)
      have hpf : (p : Int) ∈ found := by rw [← ep]; exact List.getElem_mem hlt
      obtain ⟨y1, g1, r1, r2, r3, r4⟩ := sp_l1 (f := f) (L0 := L0) h l dark hn hl hCd hc (i : Int) p ns n2 (fun a ha => by
          obtain ⟨j, j1, j2, _, j4⟩ := (n3 a).1 ha
          exact ⟨j, j1, by omega, j4⟩) ns.length 0 K x1 found I hpf (by omega) (by omega) (fun s hs => by omega)
      rw [barscanref38_spread.l0, if_pos (by omega), if_pos (by omega), e1, n1, Option.bind_some]
      rw [wrap_next (show i < 1000000000 by omega)] at r1
      rw [show ((0 : Nat) : Int) = 0 from rfl] at r1
      rw [r1]
      obtain ⟨t, ht⟩ := r3
      have hrd : ∀ s, s < found.length → rd g1 (s : Int) = rd found (s : Int) := by
        intro s hs
        unfold rd
        rw [Int.toNat_natCast, ← ht, List.getD_eq_getElem?_getD, List.getD_eq_getElem?_getD, List.getElem?_append_left hs]
      have hgl : found.length ≤ g1.length := by rw [← ht, List.length_append]; omega
      refine ih (i + 1) _ y1 g1 r2 (fun s hs j hj hCj haj => ?_) (by omega) (by omega) (by omega)
      by_cases q : s = i
      · subst q
        rw [hrd s hlt, e1, Int.toNat_natCast] at haj
        by_cases qj : j = p
        · subst qj
          rw [r2.val j hj, if_pos (by rw [← ht]; simp [hpf])]
          exact hc
        · have := r4 (j : Int) ((n3 _).2 ⟨j, rfl, by omega, qj, haj⟩)
          rw [Int.toNat_natCast] at this
          exact this hCj
      · rw [hrd s (by omega)] at haj
        exact I.le r2 hc ⟨t, ht⟩ j hj (hdone s (by omega) j hj hCj haj)
    · refine ⟨x1, found, ?_, I, fun a ha j hj hCj haj => ?_⟩
      · rw [barscanref38_spread.l0, if_neg (by omega)]
      · obtain ⟨s, hs, rfl⟩ := List.mem_iff_getElem.1 ha
        have e0 : rd found (s : Int) = found[s] := by unfold rd; rw [Int.toNat_natCast, List.getD_eq_getElem?_getD, List.getElem?_eq_getElem hs]; rfl
        exact hdone s (by omega) j hj hCj (by rw [e0]; exact haj)

/-- the whole component -/
theorem spread_f (h : Nat) (l : List Bool) (dark : Bool) (hw : 0 < w) (hw2 : w ≤ 4096) (hh2 : h ≤ 4096) (hwh : l.length = w * h) (hl : l.length = n) (hCd : ∀ j, j < n → (C j = true ↔ (l.getD j false == dark) = true)) (hc : 0 ≤ c)
    (hL : L0.length = n) (hf : f < n) (hCf : C f = true) (hneg : L0.getD f 0 < 0) (hcl : ∀ j k, Vs C n j → Vs C n k → Adj w e j k → 0 ≤ L0.getD j 0 → 0 ≤ L0.getD k 0) (K : Nat) (hK : n * 12 + 200 ≤ K) :
    ∃ x1 found, barscanref38_spread.f K (w : Int) (h : Int) l L0 (f : Int) c e = some (x1, found) ∧ x1.length = n ∧ found.head? = some (f : Int) ∧ found.Nodup ∧
      (∀ a, a ∈ found ↔ ∃ j : Nat, a = (j : Int) ∧ Conn (Vs C n) (Adj w e) f j) ∧ (∀ j, j < n → x1.getD j 0 = if (j : Int) ∈ found then c else L0.getD j 0) := by
  have I0 : SI n w e C L0 c f (L0.set f c) [(f : Int)] := by
    refine ⟨by rw [List.length_set]; exact hL, fun j hj => ?_, by simp, fun a ha => ?_, rfl⟩
    · rw [getD_set]
      by_cases q : f = j
      · subst q; rw [if_pos ⟨rfl, by omega⟩, if_pos (by simp)]
      · rw [if_neg (fun z => q z.1), if_neg (by simp; omega)]
    · simp at ha
      exact ⟨f, ha, hf, hCf, hneg, .refl ⟨hf, hCf⟩⟩
  have hd : rdOf false l (f : Int) = dark := by
    have := (hCd f hf).1 hCf
    unfold rdOf
    rw [Int.toNat_natCast]
    simpa using this
  obtain ⟨x1, found, s1, s2, s3⟩ := sp_l0 h l dark hw hw2 hh2 hwh hl hCd hc n 0 K _ _ I0 (fun s hs => by omega) (by simp) (by omega) hK
  rw [show ((0 : Nat) : Int) = 0 from rfl] at s1
  refine ⟨x1, found, ?_, s2.len, s2.hd, s2.nd, fun a => ⟨fun ha => ?_, ?_⟩, s2.val⟩
  · unfold barscanref38_spread.f
    rw [if_pos (by omega), if_pos (by omega), if_pos (by omega), hd, Int.toNat_natCast]
    exact s1
  · obtain ⟨j, j1, j2, j3, j4, j5⟩ := s2.mem a ha
    exact ⟨j, j1, j5⟩
  · rintro ⟨j, rfl, hcn⟩
    refine hcn.closed (fun (j : Nat) => (j : Int) ∈ found) (fun x y hx hvx hvy hxy => ?_) ?_
    · have h0 := s3 _ hx y hvy.1 hvy.2 (by rw [Int.toNat_natCast]; exact hxy)
      obtain ⟨x', ex, _, _, nx, _⟩ := s2.mem _ hx
      obtain rfl : x = x' := by omega
      rw [s2.val y hvy.1] at h0
      by_cases q : (y : Int) ∈ found
      · exact q
      · rw [if_neg q] at h0
        have := hcl y x hvy hvx (Adj.symm_ _ _ _ _ hxy) h0
        omega
    · have := s2.hd
      exact List.mem_of_mem_head? (by rw [this]; rfl)
end
end Go.Proofs.Ytahibhipffojlaa.P
/- The specification's blob of a component's pixels. -/
set_option linter.unusedSimpArgs false
set_option linter.unusedVariables false
namespace Go.Proofs.Ytahibhipffojlaa.P
open Go.RowKit Go.Proofs.YtahibhipffojlaaW.PrintWords Go.Proofs.YtahibhipffojlaaW.PrintMore Go.Proofs.Ytahibhipffojlaa.M Go.Proofs.Ytahibhipffojlaa.Topo Go.Proofs.Ytahibhipffojlaa.Uf

/-- the bounds of the first t pixels, of values v -/
structure MB (v : Nat → Nat) (top : Int) (t : Nat) (a c : Int) : Prop where
  lo : ∀ s, s < t → a ≤ (v s : Int)
  lo' : (t = 0 ∧ a = top) ∨ ∃ s, s < t ∧ a = (v s : Int)
  hi : ∀ s, s < t → (v s : Int) ≤ c
  hi' : (t = 0 ∧ c = -1) ∨ ∃ s, s < t ∧ c = (v s : Int)
theorem MB.step {v : Nat → Nat} {top a c : Int} {t : Nat} (h : MB v top t a c) (ht : (v t : Int) < top) : MB v top (t + 1) (mn a (v t)) (mx c (v t)) := by
  have m1 := mn_or a (v t)
  have m2 := mx_or c (v t)
  refine ⟨fun s hs => ?_, .inr ?_, fun s hs => ?_, .inr ?_⟩
  · by_cases q : s = t
    · subst q; omega
    · have := h.lo s (by omega); omega
  · rcases h.lo' with ⟨h0, h1⟩ | ⟨s, h0, h1⟩
    · exact ⟨t, by omega, by omega⟩
    · rcases m1 with m1 | m1
      · exact ⟨s, by omega, by omega⟩
      · exact ⟨t, by omega, by omega⟩
  · by_cases q : s = t
    · subst q; omega
    · have := h.hi s (by omega); omega
  · rcases h.hi' with ⟨h0, h1⟩ | ⟨s, h0, h1⟩
    · exact ⟨t, by omega, by omega⟩
    · rcases m2 with m2 | m2
      · exact ⟨s, by omega, by omega⟩
      · exact ⟨t, by omega, by omega⟩

theorem bl_l0 (w h : Nat) (l : List Bool) (hw : 0 < w) (hw2 : w ≤ 4096) (hh2 : h ≤ 4096) (ps : List Nat) (hps : 0 < ps.length) (hlen : ps.length ≤ 100000000) (hin : ∀ s, s < ps.length → ps.getD s 0 / w < h) :
    ∀ (m t K : Nat) (a b c d : Int), t + m = ps.length → m < K → MB (fun s => ps.getD s 0 % w) w t a c → MB (fun s => ps.getD s 0 / w) h t b d →
      ∃ a' b' c' d', barscanref38_blob.l0 K (ps.map fun (x : Nat) => (x : Int)) a b c d (t : Int) (w : Int) (h : Int) l = some (a', b', c' - a' + 1, d' - b' + 1, (ps.length : Int), ((ps.getD 0 0 % w : Nat) : Int), ((ps.getD 0 0 / w : Nat) : Int)) ∧
        MB (fun s => ps.getD s 0 % w) w ps.length a' c' ∧ MB (fun s => ps.getD s 0 / w) h ps.length b' d' := by
  have rdp : ∀ s, s < ps.length → rd (ps.map fun (x : Nat) => (x : Int)) (s : Int) = (ps.getD s 0 : Int) := by
    intro s hs
    unfold rd
    rw [Int.toNat_natCast, List.getD_eq_getElem?_getD, List.getElem?_map, List.getElem?_eq_getElem hs, List.getD_eq_getElem?_getD, List.getElem?_eq_getElem hs]
    rfl
  have tm : ∀ s, Int.tmod ((ps.getD s 0 : Nat) : Int) (w : Int) = ((ps.getD s 0 % w : Nat) : Int) := by
    intro s; rw [Int.tmod_eq_emod_of_nonneg (by omega)]; omega
  have td : ∀ s, Int.tdiv ((ps.getD s 0 : Nat) : Int) (w : Int) = ((ps.getD s 0 / w : Nat) : Int) := by
    intro s; rw [Int.tdiv_eq_ediv_of_nonneg (by omega)]; omega
  have wd : ∀ s, s < ps.length → wrap64 ((ps.getD s 0 / w : Nat) : Int) = ((ps.getD s 0 / w : Nat) : Int) := by
    intro s hs
    have := hin s hs
    generalize ps.getD s 0 / w = z at *
    exact w64 (by omega)
  intro m
  induction m with
  | zero =>
    intro t K a b c d ht hK A B
    obtain ⟨K, rfl⟩ : ∃ K', K = K' + 1 := ⟨K - 1, by omega⟩
    obtain rfl : t = ps.length := by omega
    refine ⟨a, b, c, d, ?_, A, B⟩
    have bx : -4096 ≤ a ∧ a ≤ 4096 ∧ -1 ≤ c ∧ c ≤ 4096 := by
      obtain ⟨s1, p1, q1⟩ : ∃ s, s < ps.length ∧ a = ((ps.getD s 0 % w : Nat) : Int) := by
        rcases A.lo' with ⟨h0, _⟩ | h0
        · omega
        · exact h0
      obtain ⟨s2, p2, q2⟩ : ∃ s, s < ps.length ∧ c = ((ps.getD s 0 % w : Nat) : Int) := by
        rcases A.hi' with ⟨h0, _⟩ | h0
        · omega
        · exact h0
      have l1 := Nat.mod_lt (ps.getD s1 0) hw
      have l2 := Nat.mod_lt (ps.getD s2 0) hw
      generalize ps.getD s1 0 % w = z1 at *
      generalize ps.getD s2 0 % w = z2 at *
      omega
    have by_ : -4096 ≤ b ∧ b ≤ 4096 ∧ -1 ≤ d ∧ d ≤ 4096 := by
      obtain ⟨s1, p1, q1⟩ : ∃ s, s < ps.length ∧ b = ((ps.getD s 0 / w : Nat) : Int) := by
        rcases B.lo' with ⟨h0, _⟩ | h0
        · omega
        · exact h0
      obtain ⟨s2, p2, q2⟩ : ∃ s, s < ps.length ∧ d = ((ps.getD s 0 / w : Nat) : Int) := by
        rcases B.hi' with ⟨h0, _⟩ | h0
        · omega
        · exact h0
      have l1 := hin s1 p1
      have l2 := hin s2 p2
      generalize ps.getD s1 0 / w = z1 at *
      generalize ps.getD s2 0 / w = z2 at *
      omega
    have e1 := rdp 0 hps
    rw [show ((0 : Nat) : Int) = 0 from rfl] at e1
    rw [barscanref38_blob.l0, List.length_map, if_neg (by omega), if_pos (by omega), if_neg (by omega), e1, tm 0, td 0, wd 0 hps]
    have w1 : wrap64 (c - a) = c - a := w64 (by omega)
    have w2 : wrap64 (d - b) = d - b := w64 (by omega)
    rw [w1, w2]
    have w3 : wrap64 (c - a + 1) = c - a + 1 := w64 (by clear w1 w2; omega)
    have w4 : wrap64 (d - b + 1) = d - b + 1 := w64 (by clear w1 w2 w3; omega)
    rw [w3, w4]
  | succ m ih =>
    intro t K a b c d ht hK A B
    obtain ⟨K, rfl⟩ : ∃ K', K = K' + 1 := ⟨K - 1, by omega⟩
    have hts : t < ps.length := by omega
    rw [barscanref38_blob.l0, List.length_map, if_pos (by omega), if_pos (by omega), if_neg (by omega), rdp t hts, tm t, td t, wd t hts, wrap_next (show t < 1000000000 by omega)]
    have l1 := Nat.mod_lt (ps.getD t 0) hw
    have l2 := hin t hts
    exact ih (t + 1) K _ _ _ _ (by omega) (by omega) (A.step (by generalize ps.getD t 0 % w = z at *; omega)) (B.step (by generalize ps.getD t 0 / w = z at *; omega))

theorem blob_f (w h : Nat) (l : List Bool) (hw : 0 < w) (hw2 : w ≤ 4096) (hh2 : h ≤ 4096) (hwh : l.length = w * h) (S : Nat → Prop) (hS : ∀ j, S j → j < l.length) (found : List Int) (f : Nat) (hf : found.head? = some (f : Int)) (hnd : found.Nodup) (hm : ∀ a, a ∈ found ↔ ∃ j : Nat, a = (j : Int) ∧ S j) (hfirst : ∀ j, S j → f ≤ j) (K : Nat) (hK : l.length + 10 ≤ K) :
    ∃ b : S38, barscanref38_blob.f K (w : Int) (h : Int) l found = some (b.f0.f0, b.f0.f1, b.f0.f2, b.f0.f3, b.f1, b.f2.f0, b.f2.f1) ∧ Blob w S b := by
  have hbig : l.length ≤ 100000000 := by
    have : w * h ≤ 4096 * 4096 := Nat.mul_le_mul hw2 hh2
    omega
  have hmap : (found.map Int.toNat).map (fun (x : Nat) => (x : Int)) = found := by
    rw [List.map_map]
    conv => rhs; rw [← List.map_id found]
    refine List.map_congr_left fun a ha => ?_
    obtain ⟨j, rfl, _⟩ := (hm a).1 ha
    simp
  obtain ⟨ps, hps⟩ : ∃ ps, found.map Int.toNat = ps := ⟨_, rfl⟩
  rw [hps] at hmap
  have hmem : ∀ j, j ∈ ps ↔ S j := by
    intro j
    rw [← hps, List.mem_map]
    constructor
    · rintro ⟨a, ha, rfl⟩
      obtain ⟨j, rfl, hj⟩ := (hm a).1 ha
      simpa using hj
    · intro hj
      exact ⟨(j : Int), (hm _).2 ⟨j, rfl, hj⟩, by simp⟩
  have hnd' : ps.Nodup := by
    rw [← hps, List.Nodup, List.pairwise_map]
    refine hnd.imp_of_mem fun {a b} ha hb hne h => hne ?_
    obtain ⟨j, rfl, _⟩ := (hm a).1 ha
    obtain ⟨k, rfl, _⟩ := (hm b).1 hb
    omega
  have hhd : ps.getD 0 0 = f ∧ 0 < ps.length := by
    cases found with
    | nil => simp at hf
    | cons a t =>
      simp at hf
      subst hf
      rw [← hps]
      simp
  have hSf : S f := (hm _).1 (List.mem_of_mem_head? (by rw [hf]; rfl)) |>.elim fun j hj => by
    have : f = j := by omega
    rw [this]; exact hj.2
  have get : ∀ s, s < ps.length → S (ps.getD s 0) := by
    intro s hs
    rw [List.getD_eq_getElem?_getD, List.getElem?_eq_getElem hs]
    exact (hmem _).1 (List.getElem_mem hs)
  have geti : ∀ j, S j → ∃ s, s < ps.length ∧ ps.getD s 0 = j := by
    intro j hj
    obtain ⟨s, hs, e⟩ := List.mem_iff_getElem.1 ((hmem j).2 hj)
    exact ⟨s, hs, by rw [List.getD_eq_getElem?_getD, List.getElem?_eq_getElem hs]; exact e⟩
  have hsm : ps.length ≤ l.length := by
    have := hnd'.length_le_of_subset (l₂ := List.range l.length) (fun x hx => List.mem_range.2 (hS x ((hmem x).1 hx)))
    simpa using this
  have hin : ∀ s, s < ps.length → ps.getD s 0 / w < h := by
    intro s hs
    have := hS _ (get s hs)
    exact (Nat.div_lt_iff_lt_mul hw).2 (by rw [Nat.mul_comm, ← hwh]; exact this)
  obtain ⟨a, b, c, d, r1, A, B⟩ := bl_l0 w h l hw hw2 hh2 ps hhd.2 (by omega) hin ps.length 0 K (w : Int) (h : Int) (-1) (-1) (by omega) (by omega) ⟨fun s hs => by omega, .inl ⟨rfl, rfl⟩, fun s hs => by omega, .inl ⟨rfl, rfl⟩⟩ ⟨fun s hs => by omega, .inl ⟨rfl, rfl⟩, fun s hs => by omega, .inl ⟨rfl, rfl⟩⟩
  rw [show ((0 : Nat) : Int) = 0 from rfl, hmap, hhd.1] at r1
  have hp := hhd.2
  refine ⟨⟨⟨a, b, c - a + 1, d - b + 1⟩, ps.length, ⟨((f % w : Nat) : Int), ((f / w : Nat) : Int)⟩⟩, r1, ?_⟩
  refine ⟨⟨f, hSf, hfirst, rfl, rfl⟩, fun j hj => ?_, ?_, fun j hj => ?_, ?_, fun j hj => ?_, ?_, fun j hj => ?_, ?_, ⟨ps, hnd', hmem, rfl⟩⟩
  · obtain ⟨s, hs, rfl⟩ := geti j hj; exact A.lo s hs
  · rcases A.lo' with ⟨h0, _⟩ | ⟨s, hs, e⟩
    · omega
    · exact ⟨_, get s hs, e⟩
  · obtain ⟨s, hs, rfl⟩ := geti j hj; have := A.hi s hs; dsimp only at this ⊢; omega
  · rcases A.hi' with ⟨h0, _⟩ | ⟨s, hs, e⟩
    · omega
    · exact ⟨_, get s hs, by dsimp only at e ⊢; omega⟩
  · obtain ⟨s, hs, rfl⟩ := geti j hj; exact B.lo s hs
  · rcases B.lo' with ⟨h0, _⟩ | ⟨s, hs, e⟩
    · omega
    · exact ⟨_, get s hs, e⟩
  · obtain ⟨s, hs, rfl⟩ := geti j hj; have := B.hi s hs; dsimp only at this ⊢; omega
  · rcases B.hi' with ⟨h0, _⟩ | ⟨s, hs, e⟩
    · omega
    · exact ⟨_, get s hs, by dsimp only at e ⊢; omega⟩
end Go.Proofs.Ytahibhipffojlaa.P
/- The specification's labels and blobs meet what tells them whole. -/
set_option linter.unusedSimpArgs false
set_option linter.unusedVariables false
namespace Go.Proofs.Ytahibhipffojlaa.P
open Go.RowKit Go.Proofs.YtahibhipffojlaaW.PrintWords Go.Proofs.YtahibhipffojlaaW.PrintMore Go.Proofs.Ytahibhipffojlaa.M Go.Proofs.Ytahibhipffojlaa.Topo Go.Proofs.Ytahibhipffojlaa.Uf Go.Proofs.Ytahibhipffojlaa.Map

structure PI (n w : Nat) (e : Bool) (C : Nat → Bool) (i : Nat) (x : List Int) (B : List S38) : Prop where
  len : x.length = n
  light : ∀ j, j < n → C j = false → x.getD j 0 = -1
  done : ∀ j, j < i → Vs C n j → 0 ≤ x.getD j 0
  lt : ∀ j, Vs C n j → x.getD j 0 < (B.length : Int)
  conn : ∀ j k, Vs C n j → Vs C n k → 0 ≤ x.getD j 0 → (x.getD j 0 = x.getD k 0 ↔ Conn (Vs C n) (Adj w e) j k)
  blob : ∀ c, c < B.length → Blob w (fun j => Vs C n j ∧ x.getD j 0 = (c : Int)) (B.getD c z38)
  order : ∀ j, Vs C n j → ∀ c : Nat, (c : Int) < x.getD j 0 → ∃ k, k < j ∧ Vs C n k ∧ x.getD k 0 = (c : Int)
  early : ∀ c, c < B.length → ∃ k, k < i ∧ Vs C n k ∧ x.getD k 0 = (c : Int)
  bl : B.length ≤ i

section
variable {n w : Nat} {e : Bool} {C : Nat → Bool} {i : Nat} {x : List Int} {B : List S38}
theorem PI.start : PI n w e C 0 (List.replicate n (-1)) [] := by
  have g : ∀ j, j < n → (List.replicate n (-1 : Int)).getD j 0 = -1 := by
    intro j hj
    rw [List.getD_eq_getElem?_getD, List.getElem?_replicate, if_pos hj]
    rfl
  refine ⟨List.length_replicate, fun j hj _ => g j hj, fun j hj => by omega, fun j hj => by rw [g j hj.1]; simp, fun j k hj hk h0 => by rw [g j hj.1] at h0; omega, fun c hc => by simp at hc, fun j hj c hc => by rw [g j hj.1] at hc; omega, fun c hc => by simp at hc, Nat.le_refl _⟩
theorem PI.skip (I : PI n w e C i x B) (h : C i = true → 0 ≤ x.getD i 0) : PI n w e C (i + 1) x B := by
  refine ⟨I.len, I.light, fun j hj hv => ?_, I.lt, I.conn, I.blob, I.order, fun c hc => ?_, by have := I.bl; omega⟩
  · by_cases q : j = i
    · subst q; exact h hv.2
    · exact I.done j (by omega) hv
  · obtain ⟨k, k1, k2⟩ := I.early c hc
    exact ⟨k, by omega, k2⟩
theorem PI.add (I : PI n w e C i x B) (hi : i < n) (hC : C i = true) (hneg : x.getD i 0 < 0) (x1 found : List Int) (b : S38) (hl : x1.length = n)
    (hf : ∀ a : Int, a ∈ found ↔ ∃ j : Nat, a = (j : Int) ∧ Conn (Vs C n) (Adj w e) i j) (hx : ∀ j, j < n → x1.getD j 0 = if (j : Int) ∈ found then (B.length : Int) else x.getD j 0)
    (hb : Blob w (fun j => Conn (Vs C n) (Adj w e) i j) b) : PI n w e C (i + 1) x1 (B ++ [b]) := by
  have hvi : Vs C n i := ⟨hi, hC⟩
  have mem : ∀ j : Nat, (j : Int) ∈ found ↔ Conn (Vs C n) (Adj w e) i j := by
    intro j
    rw [hf]
    constructor
    · rintro ⟨k, hk, h⟩
      obtain rfl : j = k := by omega
      exact h
    · intro h; exact ⟨j, rfl, h⟩
  have new : ∀ j, Conn (Vs C n) (Adj w e) i j → x1.getD j 0 = (B.length : Int) := fun j h => by rw [hx j h.right.1, if_pos ((mem j).2 h)]
  have old : ∀ j, j < n → ¬ Conn (Vs C n) (Adj w e) i j → x1.getD j 0 = x.getD j 0 := fun j hj h => by rw [hx j hj, if_neg (fun q => h ((mem j).1 q))]
  -- a labelled pixel is not joined to the new one
  have lab0 : ∀ j, Vs C n j → 0 ≤ x.getD j 0 → ¬ Conn (Vs C n) (Adj w e) i j := by
    intro j hj h0 hc
    have := (I.conn j i hj hvi h0).2 (hc.symm (Adj.symm_ w e))
    omega
  have first : ∀ j, Conn (Vs C n) (Adj w e) i j → i ≤ j := by
    intro j hc
    rcases Nat.lt_or_ge j i with h | h
    · exact absurd hc (lab0 j hc.right (I.done j h hc.right))
    · exact h
  have ltB : ∀ j, Vs C n j → ¬ Conn (Vs C n) (Adj w e) i j → x1.getD j 0 < (B.length : Int) := fun j hj h => by rw [old j hj.1 h]; exact I.lt j hj
  refine ⟨hl, fun j hj hd => ?_, fun j hj hv => ?_, fun j hv => ?_, fun j k hj hk h0 => ?_, fun c hc => ?_, fun j hv c hc => ?_, fun c hc => ?_, by rw [List.length_append, List.length_singleton]; have := I.bl; omega⟩
  · rw [old j hj (fun h => by have := h.right.2; rw [hd] at this; cases this)]
    exact I.light j hj hd
  · by_cases q : Conn (Vs C n) (Adj w e) i j
    · rw [new j q]; omega
    · rw [old j hv.1 q]
      by_cases qi : j = i
      · subst qi; exact absurd (.refl hvi) q
      · exact I.done j (by omega) hv
  · rw [List.length_append, List.length_singleton]
    by_cases q : Conn (Vs C n) (Adj w e) i j
    · rw [new j q]; omega
    · have := ltB j hv q; omega
  · by_cases q : Conn (Vs C n) (Adj w e) i j
    · by_cases r : Conn (Vs C n) (Adj w e) i k
      · rw [new j q, new k r]
        exact ⟨fun _ => (q.symm (Adj.symm_ w e)).trans r, fun _ => rfl⟩
      · have := ltB k hk r
        rw [new j q]
        exact ⟨fun h => by omega, fun h => absurd (q.trans h) r⟩
    · by_cases r : Conn (Vs C n) (Adj w e) i k
      · have := ltB j hj q
        rw [new k r]
        exact ⟨fun h => by omega, fun h => absurd (r.trans (h.symm (Adj.symm_ w e))) q⟩
      · rw [old j hj.1 q] at h0 ⊢
        rw [old k hk.1 r]
        exact I.conn j k hj hk h0
  · rw [List.length_append, List.length_singleton] at hc
    by_cases q : c = B.length
    · subst q
      rw [getD_snoc, if_pos rfl]
      refine hb.congr fun j => ?_
      constructor
      · intro h; exact ⟨h.right, new j h⟩
      · rintro ⟨h1, h2⟩
        by_cases r : Conn (Vs C n) (Adj w e) i j
        · exact r
        · have := ltB j h1 r; omega
    · rw [getD_snoc, if_neg q]
      refine (I.blob c (by omega)).congr fun j => ?_
      constructor
      · rintro ⟨h1, h2⟩
        exact ⟨h1, by rw [old j h1.1 (lab0 j h1 (by omega))]; exact h2⟩
      · rintro ⟨h1, h2⟩
        by_cases r : Conn (Vs C n) (Adj w e) i j
        · rw [new j r] at h2; omega
        · rw [old j h1.1 r] at h2; exact ⟨h1, h2⟩
  · by_cases q : Conn (Vs C n) (Adj w e) i j
    · rw [new j q] at hc
      obtain ⟨k, k1, k2, k3⟩ := I.early c (by omega)
      have := first j q
      exact ⟨k, by omega, k2, by rw [old k k2.1 (lab0 k k2 (by omega))]; exact k3⟩
    · rw [old j hv.1 q] at hc
      obtain ⟨k, k1, k2, k3⟩ := I.order j hv c hc
      exact ⟨k, k1, k2, by rw [old k k2.1 (lab0 k k2 (by omega))]; exact k3⟩
  · rw [List.length_append, List.length_singleton] at hc
    by_cases q : c = B.length
    · exact ⟨i, by omega, hvi, by rw [new i (.refl hvi), q]⟩
    · obtain ⟨k, k1, k2, k3⟩ := I.early c (by omega)
      exact ⟨k, by omega, k2, by rw [old k k2.1 (lab0 k k2 (by omega))]; exact k3⟩
theorem PI.spec (I : PI n w e C n x B) : Spec w e n C x B :=
  ⟨I.len, I.light, fun j hj => ⟨I.done j hj.1 hj, I.lt j hj⟩, fun j k hj hk => I.conn j k hj hk (I.done j hj.1 hj), I.blob, I.order⟩

theorem pt_l1 (h : Nat) (l : List Bool) (col : Bool) (hw : 0 < w) (hw2 : w ≤ 4096) (hh2 : h ≤ 4096) (hwh : l.length = w * h) (hl : l.length = n) :
    ∀ (m i K : Nat) (x : List Int) (B : List S38), PI n w e (fun j => Dk l j == col) i x B → i + m = n → m * 3 + n * 12 + 300 ≤ K →
      ∃ x' B', barscanref38_parts.l1 K col e x B (i : Int) (w : Int) (h : Int) l = some (x', B') ∧ PI n w e (fun j => Dk l j == col) n x' B' := by
  have hbig : n ≤ 100000000 := by
    have : w * h ≤ 4096 * 4096 := Nat.mul_le_mul hw2 hh2
    omega
  intro m
  induction m with
  | zero =>
    intro i K x B I hi hK
    obtain ⟨K, rfl⟩ : ∃ K', K = K' + 1 := ⟨K - 1, by omega⟩
    obtain rfl : i = n := by omega
    refine ⟨x, B, ?_, I⟩
    rw [barscanref38_parts.l1, if_neg (by omega)]
  | succ m ih =>
    intro i K x B I hi hK
    obtain ⟨K, rfl⟩ : ∃ K', K = K' + 2 := ⟨K - 2, by omega⟩
    have hin : i < n := by omega
    have e2 : rdOf false l (i : Int) = Dk l i := by unfold rdOf Dk; rw [Int.toNat_natCast]
    have e3 : rd x (i : Int) = x.getD i 0 := by unfold rd; rw [Int.toNat_natCast]
    have hxl := I.len
    have j2f : ∀ b : Bool, b = false → barscanref38_parts.j2 (K + 1) col e x B (i : Int) b (w : Int) (h : Int) l = barscanref38_parts.l1 K col e x B ((i + 1 : Nat) : Int) (w : Int) (h : Int) l := by
      intro b hb
      rw [barscanref38_parts.j2, hb, if_neg (by simp), wrap_next (show i < 1000000000 by omega)]
    rw [show K + 2 = (K + 1) + 1 from rfl, barscanref38_parts.l1, if_pos (by omega), if_pos (by omega), e2]
    by_cases hC : (Dk l i == col) = true
    · rw [if_pos hC, if_pos (by omega), e3]
      by_cases hneg : x.getD i 0 < 0
      · rw [decide_eq_true hneg, barscanref38_parts.j2, if_pos rfl]
        obtain ⟨x1, found, s1, s2, s3, s4, s5, s6⟩ := spread_f (C := fun j => Dk l j == col) (c := (B.length : Int)) (L0 := x) (f := i) (e := e) h l col hw hw2 hh2 hwh hl (fun j hj => Iff.rfl) (by omega) I.len hin hC hneg (fun j k hj hk ha h0 => by
          have := (I.conn j k hj hk h0).2 (Conn.one hj ha hk)
          omega) K (by omega)
        have hvi : Vs (fun j => Dk l j == col) n i := ⟨hin, hC⟩
        obtain ⟨b, b1, b2⟩ := blob_f w h l hw hw2 hh2 hwh (fun j => Conn (Vs (fun j => Dk l j == col) n) (Adj w e) i j) (fun j hj => by have := hj.right.1; omega) found i s3 s4 s5 (fun j hj => by
          rcases Nat.lt_or_ge j i with q | q
          · have h0 := I.done j q hj.right
            have := (I.conn j i hj.right hvi h0).2 (hj.symm (Adj.symm_ w e))
            omega
          · exact q) K (by omega)
        have hBl := I.bl
        rw [s1, Option.bind_some, b1, Option.bind_some, if_pos (by omega), wrap_next (show i < 1000000000 by omega)]
        exact ih (i + 1) K x1 (B ++ [b]) (I.add hin hC hneg x1 found b s2 s5 s6 b2) (by omega) (by omega)
      · rw [j2f _ (decide_eq_false hneg)]
        exact ih (i + 1) K x B (I.skip (fun _ => by omega)) (by omega) (by omega)
    · rw [if_neg hC, j2f _ rfl]
      exact ih (i + 1) K x B (I.skip (fun q => absurd q hC)) (by omega) (by omega)
theorem pt_l0 (h : Nat) (l : List Bool) (col : Bool) (hbig : l.length ≤ 100000000) : ∀ (m t K : Nat), t + m = l.length → m < K →
    barscanref38_parts.l0 K col e (List.replicate t (-1)) (t : Int) (w : Int) (h : Int) l = barscanref38_parts.l1 (K - m - 1) col e (List.replicate l.length (-1)) [] 0 (w : Int) (h : Int) l := by
  intro m
  induction m with
  | zero =>
    intro t K ht hK
    obtain ⟨K, rfl⟩ : ∃ K', K = K' + 1 := ⟨K - 1, by omega⟩
    obtain rfl : t = l.length := by omega
    rw [barscanref38_parts.l0, if_neg (by omega), show K + 1 - 0 - 1 = K from by omega]
  | succ m ih =>
    intro t K ht hK
    obtain ⟨K, rfl⟩ : ∃ K', K = K' + 1 := ⟨K - 1, by omega⟩
    rw [barscanref38_parts.l0, if_pos (by omega), List.length_replicate, if_pos (by omega), wrap_next (show t < 1000000000 by omega), show List.replicate t (-1 : Int) ++ [-1] = List.replicate (t + 1) (-1) from (List.replicate_succ').symm, ih (t + 1) K (by omega) (by omega), show K + 1 - (m + 1) - 1 = K - m - 1 from by omega]
theorem parts_spec (h : Nat) (l : List Bool) (col : Bool) (hw : 0 < w) (hw2 : w ≤ 4096) (hh2 : h ≤ 4096) (hwh : l.length = w * h) (K : Nat) (hK : l.length * 16 + 400 ≤ K) :
    ∃ L B, barscanref38_parts.f K (w : Int) (h : Int) l col e = some (L, B) ∧ Spec w e l.length (fun j => Dk l j == col) L B := by
  have hbig : l.length ≤ 100000000 := by
    have : w * h ≤ 4096 * 4096 := Nat.mul_le_mul hw2 hh2
    omega
  obtain ⟨L, B, h1, h2⟩ := pt_l1 (e := e) h l col hw hw2 hh2 hwh rfl l.length 0 (K - l.length - 1) _ _ PI.start (by omega) (by omega)
  rw [show ((0 : Nat) : Int) = 0 from rfl] at h1
  refine ⟨L, B, ?_, h2.spec⟩
  unfold barscanref38_parts.f
  have h0 := pt_l0 (w := w) (e := e) h l col hbig l.length 0 K (by omega) (by omega)
  rw [show ((0 : Nat) : Int) = 0 from rfl, List.replicate_zero] at h0
  rw [h0]
  exact h1
/-- the two labellings are one -/
theorem label_parts (h : Nat) (l : List Bool) (hw : 0 < w) (hw2 : w ≤ 4096) (hh : 0 < h) (hh2 : h ≤ 4096) (hwh : l.length = w * h) (K : Nat) (hK : l.length * 16 + 400 ≤ K) :
    ∃ L B, label.f l (w : Int) e = some (L, B) ∧ barscanref38_parts.f K (w : Int) (h : Int) l true e = some (L, B) ∧ Spec w e l.length (Dk l) L B := by
  obtain ⟨L, B, h1, h2⟩ := label_spec w h l e hw hw2 hh hh2 hwh
  obtain ⟨L', B', h3, h4⟩ := parts_spec (w := w) (e := e) h l true hw hw2 hh2 hwh K hK
  have hD : (fun j => Dk l j == true) = Dk l := funext fun j => by cases Dk l j <;> rfl
  rw [hD] at h4
  obtain ⟨rfl, rfl⟩ := h2.unique h4
  exact ⟨L, B, h1, h3, h2⟩
end
end Go.Proofs.Ytahibhipffojlaa.P
