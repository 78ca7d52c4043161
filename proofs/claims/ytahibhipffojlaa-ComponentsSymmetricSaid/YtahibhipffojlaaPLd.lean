/- Texts that belong together. -/
import Derived.Test.YtahibhipffojlaaLabel
namespace Go.Proofs.Ytahibhipffojlaa.Topo

/-- joined within V by steps of R -/
inductive Conn {α : Type} (V : α → Prop) (R : α → α → Prop) (a : α) : α → Prop where
  | refl (h : V a) : Conn V R a a
  | step (b c : α) (h : Conn V R a b) (hr : R b c) (hc : V c) : Conn V R a c

section
variable {α : Type} {V V' : α → Prop} {R : α → α → Prop} {a b c : α}

theorem Conn.left (h : Conn V R a b) : V a := by
  induction h with
  | refl h => exact h
  | step b c h hr hc ih => exact ih
theorem Conn.right (h : Conn V R a b) : V b := by
  cases h with
  | refl h => exact h
  | step b _ h hr hc => exact hc
theorem Conn.trans (h : Conn V R a b) (k : Conn V R b c) : Conn V R a c := by
  induction k with
  | refl _ => exact h
  | step b c _ hr hc ih => exact .step _ _ ih hr hc
theorem Conn.one (ha : V a) (hr : R a b) (hb : V b) : Conn V R a b := .step _ _ (.refl ha) hr hb
theorem Conn.symm (hR : ∀ x y, R x y → R y x) (h : Conn V R a b) : Conn V R b a := by
  induction h with
  | refl h => exact .refl h
  | step b c h hr hc ih => exact (Conn.one hc (hR _ _ hr) h.right).trans ih
theorem Conn.mono (hV : ∀ x, V x → V' x) (h : Conn V R a b) : Conn V' R a b := by
  induction h with
  | refl h => exact .refl (hV _ h)
  | step b c h hr hc ih => exact .step _ _ ih hr (hV _ hc)
/-- what is closed under steps holds all that is joined -/
theorem Conn.closed (S : α → Prop) (hS : ∀ x y, S x → V x → V y → R x y → S y) (h : Conn V R a b) (ha : S a) : S b := by
  induction h with
  | refl h => exact ha
  | step b c h hr hc ih => exact hS _ _ ih h.right hc hr
end

/-- E has just k classes on V -/
def IsCount {α : Type} (V : α → Prop) (E : α → α → Prop) (k : Nat) : Prop :=
  ∃ f : α → Nat, (∀ v, V v → f v < k) ∧ (∀ c, c < k → ∃ v, V v ∧ f v = c) ∧ (∀ u v, V u → V v → (f u = f v ↔ E u v))

theorem count_le {k k' : Nat} (g : Nat → Nat) (hg : ∀ c, c < k → g c < k') (hi : ∀ c d, c < k → d < k → g c = g d → c = d) : k ≤ k' := by
  have hn : ((List.range k).map g).Nodup := by
    rw [List.Nodup, List.pairwise_map]
    refine List.Pairwise.imp_of_mem ?_ (List.nodup_range (n := k))
    intro a b ha hb hne he
    exact hne (hi a b (List.mem_range.1 ha) (List.mem_range.1 hb) he)
  have hs : (List.range k).map g ⊆ List.range k' := by
    intro x hx
    obtain ⟨c, hc, rfl⟩ := List.mem_map.1 hx
    exact List.mem_range.2 (hg c (List.mem_range.1 hc))
  have := hn.length_le_of_subset hs
  simpa using this

open Classical in
theorem IsCount.le {α : Type} {V : α → Prop} {E : α → α → Prop} {k k' : Nat} (h : IsCount V E k) (h' : IsCount V E k') : k ≤ k' := by
  obtain ⟨f, h1, h2, h3⟩ := h
  obtain ⟨f', h1', h2', h3'⟩ := h'
  let g : Nat → Nat := fun c => if h : c < k then f' (Classical.choose (h2 c h)) else 0
  refine count_le g ?_ ?_
  · intro c hc
    simp only [g, dif_pos hc]
    exact h1' _ (Classical.choose_spec (h2 c hc)).1
  · intro c d hc hd he
    simp only [g, dif_pos hc, dif_pos hd] at he
    have := (h3' _ _ (Classical.choose_spec (h2 c hc)).1 (Classical.choose_spec (h2 d hd)).1).1 he
    have := (h3 _ _ (Classical.choose_spec (h2 c hc)).1 (Classical.choose_spec (h2 d hd)).1).2 this
    rw [(Classical.choose_spec (h2 c hc)).2, (Classical.choose_spec (h2 d hd)).2] at this
    exact this
theorem IsCount.unique {α : Type} {V : α → Prop} {E : α → α → Prop} {k k' : Nat} (h : IsCount V E k) (h' : IsCount V E k') : k = k' := Nat.le_antisymm (h.le h') (h'.le h)
theorem IsCount.congr {α : Type} {V V' : α → Prop} {E E' : α → α → Prop} {k : Nat} (h : IsCount V E k) (hV : ∀ v, V v ↔ V' v) (hE : ∀ u v, V u → V v → (E u v ↔ E' u v)) : IsCount V' E' k := by
  obtain ⟨f, h1, h2, h3⟩ := h
  refine ⟨f, fun v hv => h1 v ((hV v).2 hv), fun c hc => ?_, fun u v hu hv => ?_⟩
  · obtain ⟨v, hv, e⟩ := h2 c hc
    exact ⟨v, (hV v).1 hv, e⟩
  · rw [h3 u v ((hV u).2 hu) ((hV v).2 hv)]
    exact hE _ _ ((hV u).2 hu) ((hV v).2 hv)

open Classical in
/-- on finitely many places each equivalence has some number of classes -/
theorem IsCount.exists_ {α : Type} (l : List α) (V : α → Prop) (E : α → α → Prop) (hl : ∀ v, V v ↔ v ∈ l) (hr : ∀ v, V v → E v v) (hs : ∀ u v, E u v → E v u) (ht : ∀ u v w, E u v → E v w → E u w) : ∃ k, IsCount V E k := by
  induction l generalizing V with
  | nil => exact ⟨0, fun _ => 0, fun v hv => (by simp [hl] at hv), fun c hc => absurd hc (Nat.not_lt_zero _), fun u v hu => (by simp [hl] at hu)⟩
  | cons p l ih =>
    obtain ⟨k, f, h1, h2, h3⟩ := ih (fun v => v ∈ l) (fun v => Iff.rfl) (fun v hv => hr v ((hl v).2 (List.mem_cons_of_mem _ hv)))
    by_cases hp : ∃ q, q ∈ l ∧ E p q
    · obtain ⟨q, hq, hpq⟩ := hp
      let f' : α → Nat := fun v => if v ∈ l then f v else f q
      have hf : ∀ v, V v → ∃ v', v' ∈ l ∧ E v v' ∧ f' v = f v' := by
        intro v hv
        rcases List.mem_cons.1 ((hl v).1 hv) with rfl | hv'
        · by_cases hvl : v ∈ l
          · exact ⟨v, hvl, hr v hv, by simp [f', hvl]⟩
          · exact ⟨q, hq, hpq, by simp [f', hvl]⟩
        · exact ⟨v, hv', hr v hv, by simp [f', hv']⟩
      refine ⟨k, f', fun v hv => ?_, fun c hc => ?_, fun u v hu hv => ?_⟩
      · obtain ⟨v', h, _, e⟩ := hf v hv
        rw [e]; exact h1 v' h
      · obtain ⟨v, hv, e⟩ := h2 c hc
        exact ⟨v, (hl v).2 (List.mem_cons_of_mem _ hv), by simp [f', hv, e]⟩
      · obtain ⟨u', hu', hE, e⟩ := hf u hu
        obtain ⟨v', hv', hE', e'⟩ := hf v hv
        rw [e, e', h3 u' v' hu' hv']
        exact ⟨fun h => ht _ _ _ hE (ht _ _ _ h (hs _ _ hE')), fun h => ht _ _ _ (hs _ _ hE) (ht _ _ _ h hE')⟩
    · have hpl : p ∉ l := fun h => hp ⟨p, h, hr p ((hl p).2 (List.mem_cons_self ..))⟩
      let f' : α → Nat := fun v => if v ∈ l then f v else k
      refine ⟨k + 1, f', fun v hv => ?_, fun c hc => ?_, fun u v hu hv => ?_⟩
      · by_cases h : v ∈ l
        · simp only [f', if_pos h]; have := h1 v h; omega
        · simp only [f', if_neg h]; omega
      · by_cases h : c < k
        · obtain ⟨v, hv, e⟩ := h2 c h
          exact ⟨v, (hl v).2 (List.mem_cons_of_mem _ hv), by simp [f', hv, e]⟩
        · exact ⟨p, (hl p).2 (List.mem_cons_self ..), by simp only [f', if_neg hpl]; omega⟩
      · rcases List.mem_cons.1 ((hl u).1 hu) with rfl | hu' <;> rcases List.mem_cons.1 ((hl v).1 hv) with rfl | hv'
        · simp only [true_iff]; exact hr _ hu
        · simp only [f', if_neg hpl, if_pos hv']
          constructor
          · intro h; have := h1 v hv'; omega
          · intro h; exact absurd ⟨v, hv', h⟩ hp
        · simp only [f', if_neg hpl, if_pos hu']
          constructor
          · intro h; have := h1 u hu'; omega
          · intro h; exact absurd ⟨u, hu', hs _ _ h⟩ hp
        · simp only [f', if_pos hu', if_pos hv']
          exact h3 u v hu' hv'

/-! One place more -/
section
variable {α : Type} {V V' : α → Prop} {R : α → α → Prop} {p : α} {k : Nat}

/-- what joins in the greater set: within the lesser one, or by way of p -/
theorem conn_more (hV : ∀ v, V' v ↔ (V v ∨ v = p)) {u v : α} (h : Conn V' R u v) :
    Conn V R u v ∨ ((u = p ∨ ∃ a, V a ∧ R a p ∧ Conn V R u a) ∧ (v = p ∨ ∃ b, V b ∧ R p b ∧ Conn V R b v)) := by
  induction h with
  | refl h =>
    rcases (hV _).1 h with h | rfl
    · exact .inl (.refl h)
    · exact .inr ⟨.inl rfl, .inl rfl⟩
  | step b c h hr hc ih =>
    rcases (hV c).1 hc with hc' | rfl
    · rcases ih with ih | ⟨ih1, ih2⟩
      · exact .inl (.step _ _ ih hr hc')
      · refine .inr ⟨ih1, .inr ?_⟩
        rcases ih2 with rfl | ⟨d, hd, hpd, hdc⟩
        · exact ⟨c, hc', hr, .refl hc'⟩
        · exact ⟨d, hd, hpd, .step _ _ hdc hr hc'⟩
    · rcases ih with ih | ⟨ih1, ih2⟩
      · exact .inr ⟨.inr ⟨b, ih.right, hr, ih⟩, .inl rfl⟩
      · exact .inr ⟨ih1, .inl rfl⟩

/-- no neighbour: one class more -/
theorem count_alone (hR : ∀ x y, R x y → R y x) (hp : ¬ V p) (hV : ∀ v, V' v ↔ (V v ∨ v = p)) (hn : ∀ a, V a → ¬ R a p) (h : IsCount V (Conn V R) k) : IsCount V' (Conn V' R) (k + 1) := by
  classical
  obtain ⟨f, h1, h2, h3⟩ := h
  have hpV : V' p := (hV p).2 (.inr rfl)
  have hne : ∀ v, V v → v ≠ p := fun v hv e => hp (e ▸ hv)
  refine ⟨fun v => if v = p then k else f v, fun v hv => ?_, fun c hc => ?_, fun u v hu hv => ?_⟩
  · show (if v = p then k else f v) < k + 1
    by_cases e : v = p
    · rw [if_pos e]; omega
    · rw [if_neg e]; have := h1 v (((hV v).1 hv).resolve_right e); omega
  · by_cases hk : c < k
    · obtain ⟨v, hv, e⟩ := h2 c hk
      exact ⟨v, (hV v).2 (.inl hv), by simp [hne v hv, e]⟩
    · exact ⟨p, hpV, by simp; omega⟩
  · show (if u = p then k else f u) = (if v = p then k else f v) ↔ _
    by_cases eu : u = p <;> by_cases ev : v = p
    · subst eu; subst ev; simp only [if_pos, true_iff]; exact .refl hpV
    · have hv' := ((hV v).1 hv).resolve_right ev
      rw [if_pos eu, if_neg ev]
      subst eu
      constructor
      · intro h; have := h1 v hv'; omega
      · intro h
        rcases conn_more hV h with h | ⟨_, h⟩
        · exact absurd h.left hp
        · rcases h with h | ⟨b, hb, hr, _⟩
          · exact absurd h ev
          · exact absurd (hR _ _ hr) (hn b hb)
    · have hu' := ((hV u).1 hu).resolve_right eu
      rw [if_neg eu, if_pos ev]
      subst ev
      constructor
      · intro h; have := h1 u hu'; omega
      · intro h
        rcases conn_more hV h with h | ⟨h, _⟩
        · exact absurd h.right hp
        · rcases h with h | ⟨b, hb, hr, _⟩
          · exact absurd h eu
          · exact absurd hr (hn b hb)
    · have hu' := ((hV u).1 hu).resolve_right eu
      have hv' := ((hV v).1 hv).resolve_right ev
      rw [if_neg eu, if_neg ev, h3 u v hu' hv']
      constructor
      · exact fun h => h.mono fun x hx => (hV x).2 (.inl hx)
      · intro h
        rcases conn_more hV h with h | ⟨h, _⟩
        · exact h
        · rcases h with h | ⟨b, hb, hr, _⟩
          · exact absurd h eu
          · exact absurd hr (hn b hb)

/-- all neighbours are in one class: as many classes as before -/
theorem count_same (hR : ∀ x y, R x y → R y x) (hp : ¬ V p) (hV : ∀ v, V' v ↔ (V v ∨ v = p)) (q : α) (hq : V q) (hqp : R q p) (hn : ∀ a, V a → R a p → Conn V R a q) (h : IsCount V (Conn V R) k) : IsCount V' (Conn V' R) k := by
  classical
  obtain ⟨f, h1, h2, h3⟩ := h
  have hpV : V' p := (hV p).2 (.inr rfl)
  have hup : ∀ x, V x → V' x := fun x hx => (hV x).2 (.inl hx)
  have hne : ∀ v, V v → v ≠ p := fun v hv e => hp (e ▸ hv)
  -- each place has a twin in V
  have tw : ∀ v, V' v → ∃ v', V v' ∧ Conn V' R v v' ∧ (if v = p then f q else f v) = f v' := by
    intro v hv
    by_cases e : v = p
    · subst e; exact ⟨q, hq, .one hpV (hR _ _ hqp) (hup q hq), by simp⟩
    · exact ⟨v, ((hV v).1 hv).resolve_right e, .refl hv, by simp [e]⟩
  have hs : ∀ x y, Conn V' R x y → Conn V' R y x := fun x y => Conn.symm hR
  refine ⟨fun v => if v = p then f q else f v, fun v hv => ?_, fun c hc => ?_, fun u v hu hv => ?_⟩
  · obtain ⟨v', hv', _, e⟩ := tw v hv
    show (if v = p then f q else f v) < k
    rw [e]; exact h1 v' hv'
  · obtain ⟨v, hv, e⟩ := h2 c hc
    exact ⟨v, hup v hv, by simp [hne v hv, e]⟩
  · obtain ⟨u', hu', cu, eu⟩ := tw u hu
    obtain ⟨v', hv', cv, ev⟩ := tw v hv
    show (if u = p then f q else f u) = (if v = p then f q else f v) ↔ _
    rw [eu, ev, h3 u' v' hu' hv']
    constructor
    · exact fun h => cu.trans ((h.mono hup).trans (hs _ _ cv))
    · intro h
      have h' : Conn V' R u' v' := (hs _ _ cu).trans (h.trans cv)
      rcases conn_more hV h' with h | ⟨h, k⟩
      · exact h
      · rcases h with h | ⟨a, ha, hr, hua⟩
        · exact absurd h (hne _ hu')
        · rcases k with k | ⟨b, hb, hr', hbv⟩
          · exact absurd k (hne _ hv')
          · exact (hua.trans (hn a ha hr)).trans ((Conn.symm hR (hn b hb (hR _ _ hr'))).trans hbv)

/-- the neighbours are in two classes: one class less -/
theorem count_less (hR : ∀ x y, R x y → R y x) (hp : ¬ V p) (hV : ∀ v, V' v ↔ (V v ∨ v = p)) (q r : α) (hq : V q) (hqp : R q p) (hr : V r) (hrp : R r p) (hqr : ¬ Conn V R q r)
    (hn : ∀ a, V a → R a p → Conn V R a q ∨ Conn V R a r) (h : IsCount V (Conn V R) (k + 1)) : IsCount V' (Conn V' R) k := by
  classical
  obtain ⟨f, h1, h2, h3⟩ := h
  have hpV : V' p := (hV p).2 (.inr rfl)
  have hup : ∀ x, V x → V' x := fun x hx => (hV x).2 (.inl hx)
  have hne : ∀ v, V v → v ≠ p := fun v hv e => hp (e ▸ hv)
  have hs : ∀ x y, Conn V' R x y → Conn V' R y x := fun x y => Conn.symm hR
  have hfq : f q ≠ f r := fun e => hqr ((h3 q r hq hr).1 e)
  have cqr : Conn V' R q r := (Conn.one (hup q hq) hqp hpV).trans (Conn.one hpV (hR _ _ hrp) (hup r hr))
  -- the class of r becomes that of q; the last number takes r's place
  let g : Nat → Nat := fun c => if c = f r then (if f q = k then f r else f q) else if c = k then f r else c
  have hq1 := h1 q hq
  have hr1 := h1 r hr
  have hg1 : ∀ c, c < k + 1 → g c < k := by
    intro c hc
    simp only [g]
    split
    · split <;> omega
    · split <;> omega
  have hg2 : ∀ c d, c < k + 1 → d < k + 1 → (g c = g d ↔ (c = d ∨ (c = f q ∧ d = f r) ∨ (c = f r ∧ d = f q))) := by
    intro c d hc hd
    simp only [g]
    constructor
    · intro h; split at h <;> split at h <;> (try split at h) <;> (try split at h) <;> omega
    · intro h; rcases h with rfl | ⟨rfl, rfl⟩ | ⟨rfl, rfl⟩
      · rfl
      · rw [if_neg hfq, if_pos rfl]
      · rw [if_neg hfq, if_pos rfl]
  have tw : ∀ v, V' v → ∃ v', V v' ∧ Conn V' R v v' ∧ (if v = p then g (f q) else g (f v)) = g (f v') := by
    intro v hv
    by_cases e : v = p
    · subst e; exact ⟨q, hq, .one hpV (hR _ _ hqp) (hup q hq), by simp⟩
    · exact ⟨v, ((hV v).1 hv).resolve_right e, .refl hv, by simp [e]⟩
  refine ⟨fun v => if v = p then g (f q) else g (f v), fun v hv => ?_, fun c hc => ?_, fun u v hu hv => ?_⟩
  · obtain ⟨v', hv', _, e⟩ := tw v hv
    show (if v = p then g (f q) else g (f v)) < k
    rw [e]; exact hg1 _ (h1 v' hv')
  · by_cases hcr : c = f r
    · by_cases hqk : f q = k
      · exact ⟨r, hup r hr, by simp only [if_neg (hne r hr), g, if_pos rfl, if_pos hqk]; exact hcr.symm⟩
      · obtain ⟨v, hv, e⟩ := h2 k (by omega)
        refine ⟨v, hup v hv, ?_⟩
        simp only [if_neg (hne v hv), g, e, if_true]
        split
        · omega
        · omega
    · obtain ⟨v, hv, e⟩ := h2 c (by omega)
      refine ⟨v, hup v hv, ?_⟩
      simp only [if_neg (hne v hv), g, e, if_neg hcr]
      split <;> omega
  · obtain ⟨u', hu', cu, eu⟩ := tw u hu
    obtain ⟨v', hv', cv, ev⟩ := tw v hv
    show (if u = p then g (f q) else g (f u)) = (if v = p then g (f q) else g (f v)) ↔ _
    rw [eu, ev, hg2 _ _ (h1 u' hu') (h1 v' hv')]
    constructor
    · intro h
      have : Conn V' R u' v' := by
        rcases h with h | ⟨ha, hb⟩ | ⟨ha, hb⟩
        · exact ((h3 u' v' hu' hv').1 h).mono hup
        · exact (((h3 u' q hu' hq).1 ha).mono hup).trans (cqr.trans (hs _ _ (((h3 v' r hv' hr).1 hb).mono hup)))
        · exact (((h3 u' r hu' hr).1 ha).mono hup).trans ((hs _ _ cqr).trans (hs _ _ (((h3 v' q hv' hq).1 hb).mono hup)))
      exact cu.trans (this.trans (hs _ _ cv))
    · intro h
      have h' : Conn V' R u' v' := (hs _ _ cu).trans (h.trans cv)
      rcases conn_more hV h' with h | ⟨h, k⟩
      · exact .inl ((h3 _ _ hu' hv').2 h)
      · rcases h with h | ⟨a, ha, hra, hua⟩
        · exact absurd h (hne _ hu')
        · rcases k with k | ⟨b, hb, hrb, hbv⟩
          · exact absurd k (hne _ hv')
          · have e1 : f u' = f q ∨ f u' = f r := (hn a ha hra).imp (fun h => (h3 _ _ hu' hq).2 (hua.trans h)) (fun h => (h3 _ _ hu' hr).2 (hua.trans h))
            have e2 : f v' = f q ∨ f v' = f r := (hn b hb (hR _ _ hrb)).imp (fun h => (h3 _ _ hv' hq).2 ((Conn.symm hR hbv).trans h)) (fun h => (h3 _ _ hv' hr).2 ((Conn.symm hR hbv).trans h))
            omega
end


abbrev Pt : Type := Int × Int
def R8 (a b : Pt) : Prop := a.1 - b.1 ≤ 1 ∧ b.1 - a.1 ≤ 1 ∧ a.2 - b.2 ≤ 1 ∧ b.2 - a.2 ≤ 1
def R4 (a b : Pt) : Prop := (a.1 = b.1 ∧ a.2 - b.2 ≤ 1 ∧ b.2 - a.2 ≤ 1) ∨ (a.2 = b.2 ∧ a.1 - b.1 ≤ 1 ∧ b.1 - a.1 ≤ 1)
theorem R8.symm_ (a b : Pt) (h : R8 a b) : R8 b a := by unfold R8 at *; omega
theorem R4.symm_ (a b : Pt) (h : R4 a b) : R4 b a := by unfold R4 at *; omega

/-! ### sums of truths, modulo 2 -/
def X : Nat → (Nat → Bool) → Bool
  | 0, _ => false
  | n + 1, f => X n f ^^ f n
theorem X_congr (n : Nat) (f g : Nat → Bool) (h : ∀ i, i < n → f i = g i) : X n f = X n g := by
  induction n with
  | zero => rfl
  | succ n ih => simp only [X]; rw [ih (fun i hi => h i (by omega)), h n (by omega)]
theorem X_zero (n : Nat) (f : Nat → Bool) (h : ∀ i, i < n → f i = false) : X n f = false := by
  induction n with
  | zero => rfl
  | succ n ih => simp only [X]; rw [ih (fun i hi => h i (by omega)), h n (by omega)]; rfl
theorem X_xor (n : Nat) (f g : Nat → Bool) : X n (fun i => f i ^^ g i) = (X n f ^^ X n g) := by
  induction n with
  | zero => rfl
  | succ n ih => simp only [X]; rw [ih]; cases X n f <;> cases X n g <;> cases f n <;> cases g n <;> rfl
theorem X_tel (n : Nat) (f : Nat → Bool) : X n (fun i => f i ^^ f (i + 1)) = (f 0 ^^ f n) := by
  induction n with
  | zero => simp [X]
  | succ n ih => simp only [X]; rw [ih]; cases f 0 <;> cases f n <;> cases f (n + 1) <;> rfl
theorem X_swap (n m : Nat) (f : Nat → Nat → Bool) : X n (fun i => X m (fun j => f i j)) = X m (fun j => X n (fun i => f i j)) := by
  induction n with
  | zero => simp only [X]; exact (X_zero m _ (fun _ _ => rfl)).symm
  | succ n ih => simp only [X]; rw [ih, ← X_xor]
theorem X_one (n : Nat) (f : Nat → Bool) (i : Nat) (hi : i < n) (h1 : f i = true) (h0 : ∀ j, j < n → j ≠ i → f j = false) : X n f = true := by
  induction n with
  | zero => omega
  | succ n ih =>
    simp only [X]
    by_cases e : i = n
    · subst e; rw [X_zero i f (fun j hj => h0 j (by omega) (by omega)), h1]; rfl
    · rw [ih (by omega) (fun j hj hne => h0 j (by omega) hne), h0 n (by omega) (by omega)]; rfl

/-- Over a rectangle of squares the edges' marks cancel out, if the rim bears none. -/
theorem square_sum (n m : Nat) (hz : Nat → Nat → Bool) (vt : Nat → Nat → Bool) (h0 : ∀ i, i < n → hz i 0 = false) (h1 : ∀ i, i < n → hz i m = false) (v0 : ∀ j, j < m → vt 0 j = false) (v1 : ∀ j, j < m → vt n j = false) :
    X n (fun i => X m (fun j => (hz i j ^^ hz i (j + 1)) ^^ (vt i j ^^ vt (i + 1) j))) = false := by
  have e : ∀ i, X m (fun j => (hz i j ^^ hz i (j + 1)) ^^ (vt i j ^^ vt (i + 1) j)) = ((hz i 0 ^^ hz i m) ^^ X m (fun j => vt i j ^^ vt (i + 1) j)) := fun i => by
    rw [X_xor m (fun j => hz i j ^^ hz i (j + 1)) (fun j => vt i j ^^ vt (i + 1) j), X_tel m (fun j => hz i j)]
  rw [X_congr n _ (fun i => X m (fun j => vt i j ^^ vt (i + 1) j)) (fun i hi => by rw [e, h0 i hi, h1 i hi]; simp), X_swap]
  refine X_zero m _ (fun j hj => ?_)
  rw [X_tel n (fun i => vt i j), v0 j hj, v1 j hj]; rfl

/-! ### the crossings of a path -/
def cr (a u v : Pt) : Bool := decide (((u.2 = a.2 ∧ v.2 = a.2 + 1) ∨ (v.2 = a.2 ∧ u.2 = a.2 + 1)) ∧ u.1 + v.1 < 2 * a.1)
def inR (a u : Pt) : Bool := decide (u.2 = a.2 + 1 ∧ u.1 < a.1)
theorem xor_dec {p q r s : Prop} [Decidable p] [Decidable q] [Decidable r] [Decidable s] (h : (p ↔ q) ↔ (r ↔ s)) : (decide p ^^ decide q) = (decide r ^^ decide s) := by
  by_cases hp : p <;> by_cases hq : q <;> by_cases hr : r <;> by_cases hs : s <;> simp_all
theorem ne_pt {a b : Pt} : a ≠ b ↔ ¬ (a.1 = b.1 ∧ a.2 = b.2) := by
  constructor
  · intro h k; exact h (Prod.ext k.1 k.2)
  · intro h k; subst k; exact h ⟨rfl, rfl⟩
theorem cr_right (a u v : Pt) (h : R8 u v) (h1 : u ≠ a) (h2 : u ≠ (a.1 + 1, a.2)) (h3 : v ≠ a) (h4 : v ≠ (a.1 + 1, a.2)) : cr a u v = cr (a.1 + 1, a.2) u v := by
  rw [ne_pt] at *
  unfold cr R8 at *
  rw [decide_eq_decide]
  simp only at *
  omega
theorem cr_down (a u v : Pt) (h : R8 u v) (_h1 : u ≠ a) (h2 : u ≠ (a.1, a.2 + 1)) (_h3 : v ≠ a) (h4 : v ≠ (a.1, a.2 + 1)) : (cr a u v ^^ cr (a.1, a.2 + 1) u v) = (inR a u ^^ inR a v) := by
  rw [ne_pt] at *
  unfold cr R8 inR at *
  apply xor_dec
  simp only at *
  omega


/-- a picture in a grid of w by h whose last dark pixel is p -/
structure Last (w h : Int) (D : Pt → Bool) (p : Pt) : Prop where
  inside : ∀ a, D a = true → 0 ≤ a.1 ∧ a.1 < w ∧ 0 ≤ a.2 ∧ a.2 < h
  dark : D p = true
  last : ∀ a, D a = true → a.2 < p.2 ∨ (a.2 = p.2 ∧ a.1 ≤ p.1)

/-- the dark pixels but p -/
def VD (D : Pt → Bool) (p : Pt) (a : Pt) : Prop := D a = true ∧ a ≠ p
/-- the light pixels, with a frame -/
def VL (w h : Int) (D : Pt → Bool) (a : Pt) : Prop := -1 ≤ a.1 ∧ a.1 ≤ w ∧ -1 ≤ a.2 ∧ a.2 ≤ h ∧ D a = false

section
variable {w h : Int} {D : Pt → Bool} {p : Pt}

theorem Last.light (L : Last w h D p) (a : Pt) (ha : p.2 < a.2 ∨ (a.2 = p.2 ∧ p.1 < a.1)) : D a = false := by
  cases e : D a with
  | false => rfl
  | true => have := L.last a e; omega

theorem light_ne (a b : Pt) (ha : D a = false) (hb : D b = true) : b ≠ a := fun e => by rw [e, ha] at hb; cases hb

theorem dec_xor {p r s : Prop} [Decidable p] [Decidable r] [Decidable s] (h : p ↔ ¬ (r ↔ s)) : decide p = (decide r ^^ decide s) := by
  by_cases hp : p <;> by_cases hr : r <;> by_cases hs : s <;> simp_all

/-- a path of dark pixels has a count of crossings -/
theorem crossings (L : Last w h D p) (q u : Pt) (hN : D (p.1, p.2 - 1) = false) (c : Conn (VD D p) R8 q u) :
    ∃ F : Pt → Bool, (∀ a, D a = false → D (a.1 + 1, a.2) = false → F a = F (a.1 + 1, a.2)) ∧
      (∀ a, D a = false → D (a.1, a.2 + 1) = false → (F a ^^ F (a.1, a.2 + 1)) = (inR a q ^^ inR a u)) ∧
      F (p.1, p.2 - 1) = (decide (q.2 = p.2) ^^ decide (u.2 = p.2)) ∧ F (p.1, p.2 + 1) = false := by
  induction c with
  | refl _ => exact ⟨fun _ => false, fun _ _ _ => rfl, fun _ _ _ => by simp, by simp, rfl⟩
  | step b c hb hr hc ih =>
    obtain ⟨F, f1, f2, f3, f4⟩ := ih
    have db := hb.right
    refine ⟨fun a => F a ^^ cr a b c, fun a ha ha' => ?_, fun a ha ha' => ?_, ?_, ?_⟩
    · show (F a ^^ cr a b c) = (F (a.1 + 1, a.2) ^^ cr (a.1 + 1, a.2) b c)
      rw [f1 a ha ha', cr_right a b c hr (light_ne _ _ ha db.1) (light_ne _ _ ha' db.1) (light_ne _ _ ha hc.1) (light_ne _ _ ha' hc.1)]
    · have := cr_down a b c hr (light_ne _ _ ha db.1) (light_ne _ _ ha' db.1) (light_ne _ _ ha hc.1) (light_ne _ _ ha' hc.1)
      have k := f2 a ha ha'
      show ((F a ^^ cr a b c) ^^ (F (a.1, a.2 + 1) ^^ cr (a.1, a.2 + 1) b c)) = (inR a q ^^ inR a c)
      revert this k
      generalize F a = x1; generalize F (a.1, a.2 + 1) = x2; generalize cr a b c = x3; generalize cr (a.1, a.2 + 1) b c = x4; generalize inR a q = x5; generalize inR a b = x6; generalize inR a c = x7
      revert x1 x2 x3 x4 x5 x6 x7; decide
    · show (F (p.1, p.2 - 1) ^^ cr (p.1, p.2 - 1) b c) = _
      rw [f3]
      have hk : cr (p.1, p.2 - 1) b c = (decide (b.2 = p.2) ^^ decide (c.2 = p.2)) := by
        have nb := light_ne _ _ hN db.1
        have nc := light_ne _ _ hN hc.1
        have lb := L.last b db.1
        have lc := L.last c hc.1
        have pb := db.2
        have pc := hc.2
        rw [ne_pt] at nb nc pb pc
        unfold R8 at hr
        unfold cr
        apply dec_xor
        simp only at *
        by_cases e1 : b.2 = p.2 <;> by_cases e2 : c.2 = p.2
        · rw [iff_true_intro e1, iff_true_intro e2]; simp only [not_true_eq_false, iff_false]; omega
        · rw [iff_true_intro e1, iff_false_intro e2]; simp only [true_iff, not_false_eq_true, iff_true]; omega
        · rw [iff_false_intro e1, iff_true_intro e2]; simp only [iff_true, not_false_eq_true]; omega
        · rw [iff_false_intro e1, iff_false_intro e2]; simp only [iff_false, not_true_eq_false]; omega
      rw [hk]
      generalize decide (q.2 = p.2) = x1; generalize decide (b.2 = p.2) = x2; generalize decide (c.2 = p.2) = x3
      revert x1 x2 x3; decide
    · show (F (p.1, p.2 + 1) ^^ cr (p.1, p.2 + 1) b c) = false
      rw [f4]
      have lb := L.last b db.1
      have lc := L.last c hc.1
      have : cr (p.1, p.2 + 1) b c = false := by unfold cr; rw [decide_eq_false_iff_not]; simp only; omega
      rw [this]; rfl

/-- A dark path round p and a light one through it don't both exist. -/
theorem not_both (L : Last w h D p) (q : Pt) (hq : R8 q p) (hqx : q.1 < p.1) (hN : D (p.1, p.2 - 1) = false) (c : Conn (VD D p) R8 q (p.1 + 1, p.2 - 1)) (k : Conn (VL w h D) R4 (p.1, p.2 - 1) (p.1, p.2 + 1)) : False := by
  obtain ⟨F, f1, f2, f3, f4⟩ := crossings L q _ hN c
  have dq := c.left
  have de := c.right
  have hr1 : R8 (p.1 + 1, p.2 - 1) p := by unfold R8; simp only; omega
  have hr2 : R8 p q := R8.symm_ _ _ hq
  -- the closed path's count
  let G : Pt → Bool := fun a => (F a ^^ cr a (p.1 + 1, p.2 - 1) p) ^^ cr a p q
  have g1 : ∀ a, D a = false → D (a.1 + 1, a.2) = false → G a = G (a.1 + 1, a.2) := by
    intro a ha ha'
    simp only [G]
    rw [f1 a ha ha', cr_right a _ p hr1 (light_ne _ _ ha de.1) (light_ne _ _ ha' de.1) (light_ne _ _ ha L.dark) (light_ne _ _ ha' L.dark),
      cr_right a p q hr2 (light_ne _ _ ha L.dark) (light_ne _ _ ha' L.dark) (light_ne _ _ ha dq.1) (light_ne _ _ ha' dq.1)]
  have g2 : ∀ a, D a = false → D (a.1, a.2 + 1) = false → G a = G (a.1, a.2 + 1) := by
    intro a ha ha'
    have h1 := f2 a ha ha'
    have h2 := cr_down a _ p hr1 (light_ne _ _ ha de.1) (light_ne _ _ ha' de.1) (light_ne _ _ ha L.dark) (light_ne _ _ ha' L.dark)
    have h3 := cr_down a p q hr2 (light_ne _ _ ha L.dark) (light_ne _ _ ha' L.dark) (light_ne _ _ ha dq.1) (light_ne _ _ ha' dq.1)
    simp only [G]
    revert h1 h2 h3
    generalize F a = x1; generalize F (a.1, a.2 + 1) = x2; generalize cr a (p.1 + 1, p.2 - 1) p = x3; generalize cr (a.1, a.2 + 1) (p.1 + 1, p.2 - 1) p = x4
    generalize cr a p q = x5; generalize cr (a.1, a.2 + 1) p q = x6; generalize inR a q = x7; generalize inR a (p.1 + 1, p.2 - 1) = x8; generalize inR a p = x9
    revert x1 x2 x3 x4 x5 x6 x7 x8 x9; decide
  have g3 : G (p.1, p.2 - 1) = true := by
    simp only [G]
    rw [f3]
    have nq := light_ne _ _ hN dq.1
    have lq := L.last q dq.1
    have pq := dq.2
    rw [ne_pt] at nq pq
    have e1 : decide ((p.1 + 1, p.2 - 1).2 = p.2) = false := by rw [decide_eq_false_iff_not]; simp only; omega
    have e2 : cr (p.1, p.2 - 1) (p.1 + 1, p.2 - 1) p = false := by unfold cr; rw [decide_eq_false_iff_not]; simp only; omega
    have e3 : cr (p.1, p.2 - 1) p q = !decide (q.2 = p.2) := by
      unfold cr R8 at *
      simp only at *
      by_cases hy : q.2 = p.2
      · rw [decide_eq_true hy, decide_eq_false (by omega)]; rfl
      · rw [decide_eq_false hy, decide_eq_true (by omega)]; rfl
    rw [e1, e2, e3]
    cases decide (q.2 = p.2) <;> rfl
  have g4 : G (p.1, p.2 + 1) = false := by
    simp only [G]
    rw [f4]
    have lq := L.last q dq.1
    have e2 : cr (p.1, p.2 + 1) (p.1 + 1, p.2 - 1) p = false := by unfold cr; rw [decide_eq_false_iff_not]; simp only; omega
    have e3 : cr (p.1, p.2 + 1) p q = false := by unfold cr; rw [decide_eq_false_iff_not]; simp only; omega
    rw [e2, e3]; rfl
  have : G (p.1, p.2 + 1) = true := by
    refine Conn.closed (fun a => G a = true) ?_ k g3
    intro x y hx vx vy hr
    show G y = true
    have hx' : G x = true := hx
    have dx := vx.2.2.2.2
    have dy := vy.2.2.2.2
    unfold R4 at hr
    obtain ⟨x1, x2⟩ := x
    obtain ⟨y1, y2⟩ := y
    simp only at hr
    have hcases : (y1 = x1 ∧ y2 = x2) ∨ (y1 = x1 + 1 ∧ y2 = x2) ∨ (x1 = y1 + 1 ∧ y2 = x2) ∨ (y1 = x1 ∧ y2 = x2 + 1) ∨ (y1 = x1 ∧ x2 = y2 + 1) := by omega
    rcases hcases with ⟨rfl, rfl⟩ | ⟨rfl, rfl⟩ | ⟨rfl, rfl⟩ | ⟨rfl, rfl⟩ | ⟨rfl, rfl⟩
    · exact hx'
    · rw [← g1 (x1, y2) dx dy]; exact hx'
    · rw [g1 (y1, y2) dy dx]; exact hx'
    · rw [← g2 (y1, x2) dx dy]; exact hx'
    · rw [g2 (y1, y2) dy dx]; exact hx'
  rw [g4] at this
  cases this
end


def ku (k u k' u' : Bool) : Bool := (k && u') || (u && k')
theorem sq_plain : ∀ (dA kA uA dB kB uB dC kC uC dE kE uE : Bool), (kA → !dA) → (kB → !dB) → (kC → !dC) → (kE → !dE) → (uA → dA) → (uB → dB) → (uC → dC) → (uE → dE) →
    (uA → dB → uB) → (uA → dC → uC) → (uA → dE → uE) → (uB → dA → uA) → (uB → dC → uC) → (uB → dE → uE) → (uC → dA → uA) → (uC → dB → uB) → (uC → dE → uE) → (uE → dA → uA) → (uE → dB → uB) → (uE → dC → uC) →
    (kA → !dB → kB) → (kB → !dA → kA) → (kC → !dE → kE) → (kE → !dC → kC) → (kA → !dC → kC) → (kC → !dA → kA) → (kB → !dE → kE) → (kE → !dB → kB) →
    ((ku kA uA kB uB ^^ ku kC uC kE uE) ^^ (ku kA uA kC uC ^^ ku kB uB kE uE)) = false := by
  intros
  simp only [ku]
  grind

section
variable {w h : Int} {D : Pt → Bool} {p : Pt}

theorem Last.box (L : Last w h D p) : 0 ≤ p.1 ∧ p.1 < w ∧ 0 ≤ p.2 ∧ p.2 < h := L.inside p L.dark

open Classical in
/-- If no light path leads round p, a dark one does. -/
theorem at_least (L : Last w h D p) (hN : D (p.1, p.2 - 1) = false) (hNE : D (p.1 + 1, p.2 - 1) = true) (q : Pt) (hq1 : q.1 = p.1 - 1) (hq2 : q.2 = p.2 ∨ q.2 = p.2 - 1) (hq : D q = true)
    (hc : ¬ Conn (VD D p) R8 q (p.1 + 1, p.2 - 1)) : Conn (VL w h D) R4 (p.1, p.2 - 1) (p.1, p.2 + 1) := by
  apply Classical.byContradiction
  intro hk
  have B := L.box
  let K : Pt → Bool := fun a => decide (Conn (VL w h D) R4 (p.1, p.2 - 1) a)
  let U : Pt → Bool := fun a => decide (Conn (VD D p) R8 q a)
  have Ki : ∀ a, K a = true ↔ Conn (VL w h D) R4 (p.1, p.2 - 1) a := fun a => decide_eq_true_iff
  have Ui : ∀ a, U a = true ↔ Conn (VD D p) R8 q a := fun a => decide_eq_true_iff
  have KD : ∀ a, K a = true → D a = false := fun a ha => ((Ki a).1 ha).right.2.2.2.2
  have UD : ∀ a, U a = true → D a = true := fun a ha => ((Ui a).1 ha).right.1
  have Us : ∀ a b, R8 a b → b ≠ p → U a = true → D b = true → U b = true := fun a b r hb ha hd => (Ui b).2 (.step _ _ ((Ui a).1 ha) r ⟨hd, hb⟩)
  have Ks : ∀ a b, R4 a b → (-1 ≤ b.1 ∧ b.1 ≤ w ∧ -1 ≤ b.2 ∧ b.2 ≤ h) → K a = true → D b = false → K b = true := fun a b r hb ha hd => (Ki b).2 (.step _ _ ((Ki a).1 ha) r ⟨hb.1, hb.2.1, hb.2.2.1, hb.2.2.2, hd⟩)
  have fl : ∀ {x : Bool}, ¬ (x = true) → x = false := fun {x} hx => by cases x with | false => rfl | true => exact absurd rfl hx
  -- what is known round p
  have Up : U p = false := fl fun e => ((Ui p).1 e).right.2 rfl
  have Kp : K p = false := fl fun e => by have := KD p e; rw [L.dark] at this; cases this
  have KN : K (p.1, p.2 - 1) = true := (Ki _).2 (.refl ⟨by simp only; omega, by simp only; omega, by simp only; omega, by simp only; omega, hN⟩)
  have UN : U (p.1, p.2 - 1) = false := fl fun e => by rw [UD _ e] at hN; cases hN
  have UNE : U (p.1 + 1, p.2 - 1) = false := fl fun e => hc ((Ui _).1 e)
  have KNE : K (p.1 + 1, p.2 - 1) = false := fl fun e => by rw [KD _ e] at hNE; cases hNE
  have lE : D (p.1 + 1, p.2) = false := L.light _ (.inr ⟨rfl, by simp only; omega⟩)
  have lS : D (p.1, p.2 + 1) = false := L.light _ (.inl (by simp only; omega))
  have lSE : D (p.1 + 1, p.2 + 1) = false := L.light _ (.inl (by simp only; omega))
  have lSW : D (p.1 - 1, p.2 + 1) = false := L.light _ (.inl (by simp only; omega))
  have uE : U (p.1 + 1, p.2) = false := fl fun e => by rw [UD _ e] at lE; cases lE
  have uS : U (p.1, p.2 + 1) = false := fl fun e => by rw [UD _ e] at lS; cases lS
  have uSE : U (p.1 + 1, p.2 + 1) = false := fl fun e => by rw [UD _ e] at lSE; cases lSE
  have uSW : U (p.1 - 1, p.2 + 1) = false := fl fun e => by rw [UD _ e] at lSW; cases lSW
  have kS : K (p.1, p.2 + 1) = false := fl fun e => hk ((Ki _).1 e)
  have kSE : K (p.1 + 1, p.2 + 1) = false := fl fun e => by
    have := Ks (p.1 + 1, p.2 + 1) (p.1, p.2 + 1) (by unfold R4; dsimp only; omega) (by simp only; omega) e lS
    rw [kS] at this; cases this
  have kE : K (p.1 + 1, p.2) = false := fl fun e => by
    have := Ks (p.1 + 1, p.2) (p.1 + 1, p.2 + 1) (by unfold R4; dsimp only; omega) (by simp only; omega) e lSE
    rw [kSE] at this; cases this
  have kSW : K (p.1 - 1, p.2 + 1) = false := fl fun e => by
    have := Ks (p.1 - 1, p.2 + 1) (p.1, p.2 + 1) (by unfold R4; dsimp only; omega) (by simp only; omega) e lS
    rw [kS] at this; cases this
  have kW : K (p.1 - 1, p.2) = false := fl fun e => by
    have := Ks (p.1 - 1, p.2) (p.1 - 1, p.2 + 1) (by unfold R4; dsimp only; omega) (by simp only; omega) e lSW
    rw [kSW] at this; cases this
  have hqp : q ≠ p := by rw [ne_pt]; omega
  have Uq : U q = true := (Ui q).2 (.refl ⟨hq, hqp⟩)
  have uW : D (p.1 - 1, p.2) = true → U (p.1 - 1, p.2) = true := fun e => Us q _ (by unfold R8; dsimp only; omega) (by rw [ne_pt]; simp only; omega) Uq e
  have uNW : D (p.1 - 1, p.2 - 1) = true → U (p.1 - 1, p.2 - 1) = true := fun e => Us q _ (by unfold R8; dsimp only; omega) (by rw [ne_pt]; simp only; omega) Uq e
  have kNW : D (p.1 - 1, p.2 - 1) = false → K (p.1 - 1, p.2 - 1) = true := fun e => Ks (p.1, p.2 - 1) _ (by unfold R4; dsimp only; omega) (by simp only; omega) KN e
  have uW' : D (p.1 - 1, p.2) = false → U (p.1 - 1, p.2) = false := fun e => fl fun e' => by rw [UD _ e'] at e; cases e
  have uNW' : D (p.1 - 1, p.2 - 1) = false → U (p.1 - 1, p.2 - 1) = false := fun e => fl fun e' => by rw [UD _ e'] at e; cases e
  have kNW' : D (p.1 - 1, p.2 - 1) = true → K (p.1 - 1, p.2 - 1) = false := fun e => fl fun e' => by rw [KD _ e'] at e; cases e
  have one : D (p.1 - 1, p.2) = true ∨ D (p.1 - 1, p.2 - 1) = true := by
    obtain ⟨q1, q2⟩ := q
    simp only at hq1 hq2
    rcases hq2 with rfl | rfl
    · subst hq1; exact .inl hq
    · subst hq1; exact .inr hq
  let e : Pt → Pt → Bool := fun a b => ku (K a) (U a) (K b) (U b)
  -- a square's edges
  have sq : ∀ x y : Int, -1 ≤ x → x < w → -1 ≤ y → y < h →
      ((e (x, y) (x + 1, y) ^^ e (x, y + 1) (x + 1, y + 1)) ^^ (e (x, y) (x, y + 1) ^^ e (x + 1, y) (x + 1, y + 1))) = decide (x = p.1 - 1 ∧ y = p.2 - 1) := by
    intro x y hx0 hx1 hy0 hy1
    by_cases c1 : x = p.1 - 1 ∧ y = p.2 - 1
    · obtain ⟨rfl, rfl⟩ := c1
      rw [decide_eq_true ⟨rfl, rfl⟩]
      rw [show p.1 - 1 + 1 = p.1 from by omega, show p.2 - 1 + 1 = p.2 from by omega]
      show ((ku _ _ _ _ ^^ ku _ _ (K p) (U p)) ^^ (ku _ _ _ _ ^^ ku _ _ (K p) (U p))) = true
      rw [Kp, Up, KN, UN]
      cases d1 : D (p.1 - 1, p.2) <;> cases d2 : D (p.1 - 1, p.2 - 1)
      · rw [d1, d2] at one; rcases one with h | h <;> cases h
      · rw [uNW d2, kNW' d2, kW, uW' d1]; rfl
      · rw [kNW d2, uNW' d2, kW, uW d1]; rfl
      · rw [uNW d2, kNW' d2, kW, uW d1]; rfl
    · rw [decide_eq_false c1]
      by_cases c2 : x = p.1 ∧ y = p.2 - 1
      · obtain ⟨rfl, rfl⟩ := c2
        rw [show p.2 - 1 + 1 = p.2 from by omega]
        show ((ku _ _ _ _ ^^ ku (K p) (U p) _ _) ^^ (ku _ _ (K p) (U p) ^^ ku _ _ _ _)) = false
        rw [Kp, Up, KN, UN, KNE, UNE, kE, uE]; rfl
      · by_cases c3 : x = p.1 - 1 ∧ y = p.2
        · obtain ⟨rfl, rfl⟩ := c3
          rw [show p.1 - 1 + 1 = p.1 from by omega]
          show ((ku _ _ (K p) (U p) ^^ ku _ _ _ _) ^^ (ku _ _ _ _ ^^ ku (K p) (U p) _ _)) = false
          rw [Kp, Up, kW, kSW, uSW, kS, uS]
          cases U (p.1 - 1, p.2) <;> rfl
        · by_cases c4 : x = p.1 ∧ y = p.2
          · obtain ⟨rfl, rfl⟩ := c4
            show ((ku (K p) (U p) _ _ ^^ ku _ _ _ _) ^^ (ku (K p) (U p) _ _ ^^ ku _ _ _ _)) = false
            rw [Kp, Up, kE, uE, kS, uS, kSE, uSE]; rfl
          · have nA : ((x, y) : Pt) ≠ p := by rw [ne_pt]; simp only; omega
            have nB : ((x + 1, y) : Pt) ≠ p := by rw [ne_pt]; simp only; omega
            have nC : ((x, y + 1) : Pt) ≠ p := by rw [ne_pt]; simp only; omega
            have nE : ((x + 1, y + 1) : Pt) ≠ p := by rw [ne_pt]; simp only; omega
            have nt : ∀ {b : Bool}, (!b) = true → b = false := fun {b} hb => by cases b with | false => rfl | true => cases hb
            have tn : ∀ {b : Bool}, b = false → (!b) = true := fun {b} hb => by rw [hb]; rfl
            exact sq_plain (D (x, y)) (K (x, y)) (U (x, y)) (D (x + 1, y)) (K (x + 1, y)) (U (x + 1, y)) (D (x, y + 1)) (K (x, y + 1)) (U (x, y + 1)) (D (x + 1, y + 1)) (K (x + 1, y + 1)) (U (x + 1, y + 1))
              (fun h => tn (KD _ h)) (fun h => tn (KD _ h)) (fun h => tn (KD _ h)) (fun h => tn (KD _ h)) (UD _) (UD _) (UD _) (UD _)
              (Us _ _ (by unfold R8; dsimp only; omega) nB) (Us _ _ (by unfold R8; dsimp only; omega) nC) (Us _ _ (by unfold R8; dsimp only; omega) nE)
              (Us _ _ (by unfold R8; dsimp only; omega) nA) (Us _ _ (by unfold R8; dsimp only; omega) nC) (Us _ _ (by unfold R8; dsimp only; omega) nE)
              (Us _ _ (by unfold R8; dsimp only; omega) nA) (Us _ _ (by unfold R8; dsimp only; omega) nB) (Us _ _ (by unfold R8; dsimp only; omega) nE)
              (Us _ _ (by unfold R8; dsimp only; omega) nA) (Us _ _ (by unfold R8; dsimp only; omega) nB) (Us _ _ (by unfold R8; dsimp only; omega) nC)
              (fun h k => Ks _ _ (by unfold R4; dsimp only; omega) (by simp only; omega) h (nt k)) (fun h k => Ks _ _ (by unfold R4; dsimp only; omega) (by simp only; omega) h (nt k))
              (fun h k => Ks _ _ (by unfold R4; dsimp only; omega) (by simp only; omega) h (nt k)) (fun h k => Ks _ _ (by unfold R4; dsimp only; omega) (by simp only; omega) h (nt k))
              (fun h k => Ks _ _ (by unfold R4; dsimp only; omega) (by simp only; omega) h (nt k)) (fun h k => Ks _ _ (by unfold R4; dsimp only; omega) (by simp only; omega) h (nt k))
              (fun h k => Ks _ _ (by unfold R4; dsimp only; omega) (by simp only; omega) h (nt k)) (fun h k => Ks _ _ (by unfold R4; dsimp only; omega) (by simp only; omega) h (nt k))
  have Uout : ∀ x y : Int, (x < 0 ∨ w ≤ x ∨ y < 0 ∨ h ≤ y) → U (x, y) = false := fun x y ho => fl fun e => by have := L.inside _ (UD _ e); simp only at this; omega
  have e0 : ∀ a b, U a = false → U b = false → e a b = false := fun a b ha hb => by simp [e, ku, ha, hb]
  let n := (w + 1).toNat
  let m := (h + 1).toNat
  have hn : (n : Int) = w + 1 := by simp only [n]; omega
  have hm : (m : Int) = h + 1 := by simp only [m]; omega
  have hsum := square_sum n m (fun i j => e ((i : Int) - 1, (j : Int) - 1) ((i : Int) - 1 + 1, (j : Int) - 1)) (fun i j => e ((i : Int) - 1, (j : Int) - 1) ((i : Int) - 1, (j : Int) - 1 + 1))
    (fun i _ => e0 _ _ (Uout _ _ (by omega)) (Uout _ _ (by omega))) (fun i _ => e0 _ _ (Uout _ _ (by omega)) (Uout _ _ (by omega)))
    (fun j _ => e0 _ _ (Uout _ _ (by omega)) (Uout _ _ (by omega))) (fun j _ => e0 _ _ (Uout _ _ (by omega)) (Uout _ _ (by omega)))
  have hone : X n (fun i => X m (fun j => (e ((i : Int) - 1, (j : Int) - 1) ((i : Int) - 1 + 1, (j : Int) - 1) ^^ e ((i : Int) - 1, ((j + 1 : Nat) : Int) - 1) ((i : Int) - 1 + 1, ((j + 1 : Nat) : Int) - 1)) ^^
      (e ((i : Int) - 1, (j : Int) - 1) ((i : Int) - 1, (j : Int) - 1 + 1) ^^ e (((i + 1 : Nat) : Int) - 1, (j : Int) - 1) (((i + 1 : Nat) : Int) - 1, (j : Int) - 1 + 1)))) = true := by
    have cell : ∀ i j : Nat, i < n → j < m → ((e ((i : Int) - 1, (j : Int) - 1) ((i : Int) - 1 + 1, (j : Int) - 1) ^^ e ((i : Int) - 1, ((j + 1 : Nat) : Int) - 1) ((i : Int) - 1 + 1, ((j + 1 : Nat) : Int) - 1)) ^^
      (e ((i : Int) - 1, (j : Int) - 1) ((i : Int) - 1, (j : Int) - 1 + 1) ^^ e (((i + 1 : Nat) : Int) - 1, (j : Int) - 1) (((i + 1 : Nat) : Int) - 1, (j : Int) - 1 + 1))) = decide (i = p.1.toNat ∧ j = p.2.toNat) := by
      intro i j hi hj
      rw [show ((j + 1 : Nat) : Int) - 1 = (j : Int) - 1 + 1 from by omega, show ((i + 1 : Nat) : Int) - 1 = (i : Int) - 1 + 1 from by omega, sq _ _ (by omega) (by omega) (by omega) (by omega), decide_eq_decide]
      omega
    refine X_one n _ p.1.toNat (by omega) (X_one m _ p.2.toNat (by omega) ?_ fun j hj hne => ?_) fun i hi hne => X_zero m _ fun j hj => ?_
    · rw [cell _ _ (by omega) (by omega), decide_eq_true ⟨rfl, rfl⟩]
    · rw [cell _ _ (by omega) hj, decide_eq_false (by omega)]
    · rw [cell _ _ hi hj, decide_eq_false (by omega)]
  have : false = true := hsum.symm.trans hone
  cases this
end


/-! ### four pixels -/
def b2i (b : Bool) : Int := if b then 1 else 0
def qd (a b c d : Bool) : Int :=
  if b2i a + b2i b + b2i c + b2i d = 1 then 1 else if b2i a + b2i b + b2i c + b2i d = 3 then -1 else if b2i a + b2i b + b2i c + b2i d = 2 ∧ a = d then -2 else 0
def quad (D : Pt → Bool) (x y : Int) : Int := qd (D (x, y)) (D (x + 1, y)) (D (x, y + 1)) (D (x + 1, y + 1))
def S : Nat → (Nat → Int) → Int
  | 0, _ => 0
  | n + 1, f => S n f + f n
theorem S_congr (n : Nat) (f g : Nat → Int) (h : ∀ i, i < n → f i = g i) : S n f = S n g := by
  induction n with
  | zero => rfl
  | succ n ih => simp only [S]; rw [ih (fun i hi => h i (by omega)), h n (by omega)]
theorem S_zero (n : Nat) (f : Nat → Int) (h : ∀ i, i < n → f i = 0) : S n f = 0 := by
  induction n with
  | zero => rfl
  | succ n ih => simp only [S]; rw [ih (fun i hi => h i (by omega)), h n (by omega)]; rfl
theorem S_sub (n : Nat) (f g : Nat → Int) : S n f - S n g = S n (fun i => f i - g i) := by
  induction n with
  | zero => rfl
  | succ n ih => simp only [S]; omega
theorem S_two (n : Nat) (f : Nat → Int) (i : Nat) (hi : i + 1 < n) (h : ∀ j, j < n → j ≠ i → j ≠ i + 1 → f j = 0) : S n f = f i + f (i + 1) := by
  induction n with
  | zero => omega
  | succ n ih =>
    simp only [S]
    by_cases e : i + 1 = n
    · subst e
      simp only [S]
      rw [S_zero i f (fun j hj => h j (by omega) (by omega) (by omega))]; omega
    · rw [ih (by omega) (fun j hj => h j (by omega)), h n (by omega) (by omega) (by omega)]; omega
def quads (w h : Int) (D : Pt → Bool) : Int := S (h + 1).toNat fun j => S (w + 1).toNat fun i => quad D ((i : Int) - 1) ((j : Int) - 1)

def delta (nw n ne w : Bool) : Int := if n then 0 else if !ne then (if nw || w then 0 else 1) else if nw || w then -1 else 0
theorem quad_delta : ∀ nw n ne w : Bool, (qd nw n w true - qd nw n w false) + (qd n ne true false - qd n ne false false) + ((qd w true false false - qd w false false false) + (qd true false false false - qd false false false false)) = 4 * delta nw n ne w := by decide

section
variable {w h : Int} {D D0 : Pt → Bool} {p : Pt}

theorem quads_step (L : Last w h D p) (h0 : D0 p = false) (hne : ∀ a, a ≠ p → D0 a = D a) : quads w h D - quads w h D0 = 4 * delta (D (p.1 - 1, p.2 - 1)) (D (p.1, p.2 - 1)) (D (p.1 + 1, p.2 - 1)) (D (p.1 - 1, p.2)) := by
  have B := L.box
  have far : ∀ x y : Int, ¬ ((x = p.1 - 1 ∨ x = p.1) ∧ (y = p.2 - 1 ∨ y = p.2)) → quad D x y - quad D0 x y = 0 := by
    intro x y hxy
    unfold quad
    rw [hne (x, y) (by rw [ne_pt]; dsimp only; omega), hne (x + 1, y) (by rw [ne_pt]; dsimp only; omega), hne (x, y + 1) (by rw [ne_pt]; dsimp only; omega), hne (x + 1, y + 1) (by rw [ne_pt]; dsimp only; omega)]
    omega
  have row : ∀ y : Int, (y = p.2 - 1 ∨ y = p.2) → S (w + 1).toNat (fun i => quad D ((i : Int) - 1) y - quad D0 ((i : Int) - 1) y) = (quad D (p.1 - 1) y - quad D0 (p.1 - 1) y) + (quad D p.1 y - quad D0 p.1 y) := by
    intro y hy
    rw [S_two _ _ p.1.toNat (by omega) (fun j hj h1 h2 => far _ _ (by omega))]
    rw [show ((p.1.toNat : Nat) : Int) - 1 = p.1 - 1 from by omega, show ((p.1.toNat + 1 : Nat) : Int) - 1 = p.1 from by omega]
  unfold quads
  rw [S_sub, S_congr _ _ (fun j => S (w + 1).toNat (fun i => quad D ((i : Int) - 1) ((j : Int) - 1) - quad D0 ((i : Int) - 1) ((j : Int) - 1))) (fun j _ => S_sub _ _ _)]
  rw [S_two _ _ p.2.toNat (by omega) (fun j hj h1 h2 => S_zero _ _ fun i _ => far _ _ (by omega))]
  rw [show ((p.2.toNat : Nat) : Int) - 1 = p.2 - 1 from by omega, show ((p.2.toNat + 1 : Nat) : Int) - 1 = p.2 from by omega, row _ (.inl rfl), row _ (.inr rfl)]
  have lE : D (p.1 + 1, p.2) = false := L.light _ (.inr ⟨rfl, by dsimp only; omega⟩)
  have lS : D (p.1, p.2 + 1) = false := L.light _ (.inl (by dsimp only; omega))
  have lSE : D (p.1 + 1, p.2 + 1) = false := L.light _ (.inl (by dsimp only; omega))
  have lSW : D (p.1 - 1, p.2 + 1) = false := L.light _ (.inl (by dsimp only; omega))
  have dp : D (p.1, p.2) = true := L.dark
  have d0p : D0 (p.1, p.2) = false := h0
  unfold quad
  rw [show p.1 - 1 + 1 = p.1 from by omega, show p.2 - 1 + 1 = p.2 from by omega, dp, d0p, lE, lS, lSE, lSW,
    hne (p.1 - 1, p.2 - 1) (by rw [ne_pt]; dsimp only; omega), hne (p.1, p.2 - 1) (by rw [ne_pt]; dsimp only; omega), hne (p.1 + 1, p.2 - 1) (by rw [ne_pt]; dsimp only; omega), hne (p.1 - 1, p.2) (by rw [ne_pt]; dsimp only; omega),
    hne (p.1 + 1, p.2) (by rw [ne_pt]; dsimp only; omega), hne (p.1, p.2 + 1) (by rw [ne_pt]; dsimp only; omega), hne (p.1 + 1, p.2 + 1) (by rw [ne_pt]; dsimp only; omega), hne (p.1 - 1, p.2 + 1) (by rw [ne_pt]; dsimp only; omega), lE, lS, lSE, lSW]
  exact quad_delta _ _ _ _

/-- what one dark pixel more does to the numbers of dark and light parts -/
theorem parts_step (L : Last w h D p) {c0 c1 l0 l1 : Nat} (hc0 : IsCount (VD D p) (Conn (VD D p) R8) c0) (hc1 : IsCount (fun a => D a = true) (Conn (fun a => D a = true) R8) c1)
    (hV : ∀ a, VL w h D0 a ↔ (VL w h D a ∨ a = p)) (hl0 : IsCount (VL w h D0) (Conn (VL w h D0) R4) l0) (hl1 : IsCount (VL w h D) (Conn (VL w h D) R4) l1) :
    ((c1 : Int) - l1) - ((c0 : Int) - l0) = delta (D (p.1 - 1, p.2 - 1)) (D (p.1, p.2 - 1)) (D (p.1 + 1, p.2 - 1)) (D (p.1 - 1, p.2)) := by
  have B := L.box
  have hVD : ∀ a, D a = true ↔ (VD D p a ∨ a = p) := fun a => by
    unfold VD
    by_cases e : a = p
    · subst e; simp [L.dark]
    · simp [e]
  have hpD : ¬ VD D p p := fun e => e.2 rfl
  have hpL : ¬ VL w h D p := fun e => by have := L.dark; rw [e.2.2.2.2] at this; cases this
  have lE : VL w h D (p.1 + 1, p.2) := ⟨by dsimp only; omega, by dsimp only; omega, by dsimp only; omega, by dsimp only; omega, L.light _ (.inr ⟨rfl, by dsimp only; omega⟩)⟩
  have lS : VL w h D (p.1, p.2 + 1) := ⟨by dsimp only; omega, by dsimp only; omega, by dsimp only; omega, by dsimp only; omega, L.light _ (.inl (by dsimp only; omega))⟩
  have lSE : VL w h D (p.1 + 1, p.2 + 1) := ⟨by dsimp only; omega, by dsimp only; omega, by dsimp only; omega, by dsimp only; omega, L.light _ (.inl (by dsimp only; omega))⟩
  have lSW : VL w h D (p.1 - 1, p.2 + 1) := ⟨by dsimp only; omega, by dsimp only; omega, by dsimp only; omega, by dsimp only; omega, L.light _ (.inl (by dsimp only; omega))⟩
  have cE : Conn (VL w h D) R4 (p.1 + 1, p.2) (p.1, p.2 + 1) := (Conn.one lE (by unfold R4; dsimp only; omega) lSE).trans (Conn.one lSE (by unfold R4; dsimp only; omega) lS)
  have cW : VL w h D (p.1 - 1, p.2) → Conn (VL w h D) R4 (p.1 - 1, p.2) (p.1, p.2 + 1) := fun lW => (Conn.one lW (by unfold R4; dsimp only; omega) lSW).trans (Conn.one lSW (by unfold R4; dsimp only; omega) lS)
  have eS : R4 (p.1, p.2 + 1) p := by unfold R4; dsimp only; omega
  have eN : R4 (p.1, p.2 - 1) p := by unfold R4; dsimp only; omega
  -- p's light neighbours but N
  have rest : ∀ a, VL w h D a → R4 a p → a = (p.1, p.2 - 1) ∨ Conn (VL w h D) R4 a (p.1, p.2 + 1) := by
    intro a ha hr
    have hap : a ≠ p := fun e => hpL (e ▸ ha)
    obtain ⟨a1, a2⟩ := a
    rw [ne_pt] at hap
    unfold R4 at hr
    dsimp only at hap hr
    have hcs : (a1 = p.1 ∧ a2 = p.2 - 1) ∨ (a1 = p.1 ∧ a2 = p.2 + 1) ∨ (a1 = p.1 + 1 ∧ a2 = p.2) ∨ (a1 = p.1 - 1 ∧ a2 = p.2) := by omega
    rcases hcs with ⟨rfl, rfl⟩ | ⟨rfl, rfl⟩ | ⟨rfl, rfl⟩ | ⟨rfl, rfl⟩
    · exact .inl rfl
    · exact .inr (.refl ha)
    · exact .inr cE
    · exact .inr (cW ha)
  -- p's dark neighbours
  have near : ∀ a, VD D p a → R8 a p → a = (p.1 - 1, p.2 - 1) ∨ a = (p.1, p.2 - 1) ∨ a = (p.1 + 1, p.2 - 1) ∨ a = (p.1 - 1, p.2) := by
    intro a ha hr
    have hl := L.last a ha.1
    have hap := ha.2
    obtain ⟨a1, a2⟩ := a
    rw [ne_pt] at hap
    unfold R8 at hr
    dsimp only at hap hr hl
    have hcs : (a1 = p.1 - 1 ∧ a2 = p.2 - 1) ∨ (a1 = p.1 ∧ a2 = p.2 - 1) ∨ (a1 = p.1 + 1 ∧ a2 = p.2 - 1) ∨ (a1 = p.1 - 1 ∧ a2 = p.2) := by omega
    rcases hcs with ⟨rfl, rfl⟩ | ⟨rfl, rfl⟩ | ⟨rfl, rfl⟩ | ⟨rfl, rfl⟩
    · exact .inl rfl
    · exact .inr (.inl rfl)
    · exact .inr (.inr (.inl rfl))
    · exact .inr (.inr (.inr rfl))
  have vNW : D (p.1 - 1, p.2 - 1) = true → VD D p (p.1 - 1, p.2 - 1) := fun e => ⟨e, by rw [ne_pt]; dsimp only; omega⟩
  have vN : D (p.1, p.2 - 1) = true → VD D p (p.1, p.2 - 1) := fun e => ⟨e, by rw [ne_pt]; dsimp only; omega⟩
  have vNE : D (p.1 + 1, p.2 - 1) = true → VD D p (p.1 + 1, p.2 - 1) := fun e => ⟨e, by rw [ne_pt]; dsimp only; omega⟩
  have vW : D (p.1 - 1, p.2) = true → VD D p (p.1 - 1, p.2) := fun e => ⟨e, by rw [ne_pt]; dsimp only; omega⟩
  have fN : D (p.1, p.2 - 1) = false → VL w h D (p.1, p.2 - 1) := fun e => ⟨by dsimp only; omega, by dsimp only; omega, by dsimp only; omega, by dsimp only; omega, e⟩
  have fNE : D (p.1 + 1, p.2 - 1) = false → VL w h D (p.1 + 1, p.2 - 1) := fun e => ⟨by dsimp only; omega, by dsimp only; omega, by dsimp only; omega, by dsimp only; omega, e⟩
  have fNW : D (p.1 - 1, p.2 - 1) = false → VL w h D (p.1 - 1, p.2 - 1) := fun e => ⟨by dsimp only; omega, by dsimp only; omega, by dsimp only; omega, by dsimp only; omega, e⟩
  have fW : D (p.1 - 1, p.2) = false → VL w h D (p.1 - 1, p.2) := fun e => ⟨by dsimp only; omega, by dsimp only; omega, by dsimp only; omega, by dsimp only; omega, e⟩
  have ff : ∀ {b : Bool} {P : Prop}, b = true → b = false → P := fun h k => by rw [h] at k; cases k
  have nN : R8 (p.1, p.2 - 1) p := by unfold R8; dsimp only; omega
  have nNE : R8 (p.1 + 1, p.2 - 1) p := by unfold R8; dsimp only; omega
  have nNW : R8 (p.1 - 1, p.2 - 1) p := by unfold R8; dsimp only; omega
  have nW : R8 (p.1 - 1, p.2) p := by unfold R8; dsimp only; omega
  -- the light parts stay as many, where N joins S
  have light_same : (D (p.1, p.2 - 1) = false → Conn (VL w h D) R4 (p.1, p.2 - 1) (p.1, p.2 + 1)) → l0 = l1 := fun hN =>
    hl0.unique (count_same R4.symm_ hpL hV _ lS eS (fun a ha hr => by
      rcases rest a ha hr with rfl | h
      · exact hN ha.2.2.2.2
      · exact h) hl1)
  -- the dark parts stay as many, where all dark neighbours join one
  have dark_same : ∀ q, VD D p q → R8 q p → (∀ a, VD D p a → R8 a p → Conn (VD D p) R8 a q) → c1 = c0 := fun q hq hqp hn => hc1.unique (count_same R8.symm_ hpD hVD q hq hqp hn hc0)
  unfold delta
  cases dN : D (p.1, p.2 - 1) with
  | true =>
    have e1 := dark_same _ (vN dN) nN (fun a ha hr => by
      rcases near a ha hr with rfl | rfl | rfl | rfl
      · exact .one ha (by unfold R8; dsimp only; omega) (vN dN)
      · exact .refl ha
      · exact .one ha (by unfold R8; dsimp only; omega) (vN dN)
      · exact .one ha (by unfold R8; dsimp only; omega) (vN dN))
    have e2 := light_same (fun e => ff dN e)
    simp only [if_true]; omega
  | false =>
    have gN := fN dN
    cases dNE : D (p.1 + 1, p.2 - 1) with
    | false =>
      have e2 := light_same (fun _ => ((Conn.one gN (by unfold R4; dsimp only; omega) (fNE dNE)).trans (Conn.one (fNE dNE) (by unfold R4; dsimp only; omega) lE)).trans cE)
      cases dW : D (p.1 - 1, p.2) with
      | true =>
        have e1 := dark_same _ (vW dW) nW (fun a ha hr => by
          rcases near a ha hr with rfl | rfl | rfl | rfl
          · exact .one ha (by unfold R8; dsimp only; omega) (vW dW)
          · exact ff ha.1 dN
          · exact ff ha.1 dNE
          · exact .refl ha)
        simp; omega
      | false =>
        cases dNW : D (p.1 - 1, p.2 - 1) with
        | true =>
          have e1 := dark_same _ (vNW dNW) nNW (fun a ha hr => by
            rcases near a ha hr with rfl | rfl | rfl | rfl
            · exact .refl ha
            · exact ff ha.1 dN
            · exact ff ha.1 dNE
            · exact ff ha.1 dW)
          simp; omega
        | false =>
          have e1 : c1 = c0 + 1 := hc1.unique (count_alone R8.symm_ hpD hVD (fun a ha hr => by
            rcases near a ha hr with rfl | rfl | rfl | rfl
            · exact ff ha.1 dNW
            · exact ff ha.1 dN
            · exact ff ha.1 dNE
            · exact ff ha.1 dW) hc0)
          simp; omega
    | true =>
      by_cases hA : D (p.1 - 1, p.2 - 1) = true ∨ D (p.1 - 1, p.2) = true
      · have hor : (D (p.1 - 1, p.2 - 1) || D (p.1 - 1, p.2)) = true := by rcases hA with h | h <;> rw [h] <;> simp
        rw [hor]
        obtain ⟨q, hq1, hq2, hq⟩ : ∃ q : Pt, q.1 = p.1 - 1 ∧ (q.2 = p.2 ∨ q.2 = p.2 - 1) ∧ D q = true := by
          rcases hA with h | h
          · exact ⟨(p.1 - 1, p.2 - 1), rfl, .inr rfl, h⟩
          · exact ⟨(p.1 - 1, p.2), rfl, .inl rfl, h⟩
        have vq : VD D p q := ⟨hq, by rw [ne_pt]; omega⟩
        have hqp : R8 q p := by unfold R8; omega
        have nearq : ∀ a, VD D p a → R8 a p → Conn (VD D p) R8 a q ∨ Conn (VD D p) R8 a (p.1 + 1, p.2 - 1) := by
          intro a ha hr
          rcases near a ha hr with rfl | rfl | rfl | rfl
          · exact .inl (.one ha (by unfold R8; dsimp only; omega) vq)
          · exact ff ha.1 dN
          · exact .inr (.refl ha)
          · exact .inl (.one ha (by unfold R8; dsimp only; omega) vq)
        by_cases hc : Conn (VD D p) R8 q (p.1 + 1, p.2 - 1)
        · -- joined in the dark, so parted in the light
          have e1 := dark_same q vq hqp (fun a ha hr => (nearq a ha hr).elim id fun h => h.trans (hc.symm R8.symm_))
          have hk : ¬ Conn (VL w h D) R4 (p.1, p.2 - 1) (p.1, p.2 + 1) := fun k => not_both L q hqp (by omega) dN hc k
          obtain ⟨k, rfl⟩ : ∃ k, l1 = k + 1 := ⟨l1 - 1, by
            obtain ⟨f, h1, _⟩ := hl1
            have := h1 _ lS
            omega⟩
          have e2 : l0 = k := hl0.unique (count_less R4.symm_ hpL hV _ _ gN eN lS eS hk (fun a ha hr => by
            rcases rest a ha hr with rfl | h
            · exact .inl (.refl ha)
            · exact .inr h) hl1)
          simp; omega
        · have hk := at_least L dN dNE q hq1 hq2 hq hc
          have e2 := light_same (fun _ => hk)
          obtain ⟨k, rfl⟩ : ∃ k, c0 = k + 1 := ⟨c0 - 1, by
            obtain ⟨f, h1, _⟩ := hc0
            have := h1 _ vq
            omega⟩
          have e1 : c1 = k := hc1.unique (count_less R8.symm_ hpD hVD q _ vq hqp (vNE dNE) nNE hc nearq hc0)
          simp; omega
      · have dNW : D (p.1 - 1, p.2 - 1) = false := by cases e : D (p.1 - 1, p.2 - 1) with | false => rfl | true => exact absurd (.inl e) hA
        have dW : D (p.1 - 1, p.2) = false := by cases e : D (p.1 - 1, p.2) with | false => rfl | true => exact absurd (.inr e) hA
        have e1 := dark_same _ (vNE dNE) nNE (fun a ha hr => by
          rcases near a ha hr with rfl | rfl | rfl | rfl
          · exact ff ha.1 dNW
          · exact ff ha.1 dN
          · exact .refl ha
          · exact ff ha.1 dW)
        have e2 := light_same (fun _ => (Conn.one gN (by unfold R4; dsimp only; omega) (fNW dNW)).trans ((Conn.one (fNW dNW) (by unfold R4; dsimp only; omega) (fW dW)).trans (cW (fW dW))))
        rw [dNW, dW]
        simp; omega
end


section
variable {w h : Int} {D : Pt → Bool}

/-- the picture as far as row y, place x -/
def pic (D : Pt → Bool) (x y : Int) (a : Pt) : Bool := D a && decide (a.2 < y ∨ (a.2 = y ∧ a.1 < x))
/-- the rule holds of a picture -/
def Good (w h : Int) (D : Pt → Bool) : Prop := ∀ c l : Nat, IsCount (fun a => D a = true) (Conn (fun a => D a = true) R8) c → IsCount (VL w h D) (Conn (VL w h D) R4) l → 4 * ((c : Int) - l + 1) = quads w h D

/-- all places of the framed grid -/
def framed (w h : Int) : List Pt := (List.range (w + 2).toNat).flatMap fun (i : Nat) => (List.range (h + 2).toNat).map fun (j : Nat) => ((i : Int) - 1, (j : Int) - 1)
theorem mem_framed (a : Pt) : a ∈ framed w h ↔ -1 ≤ a.1 ∧ a.1 ≤ w ∧ -1 ≤ a.2 ∧ a.2 ≤ h := by
  unfold framed
  simp only [List.mem_flatMap, List.mem_range, List.mem_map]
  constructor
  · rintro ⟨i, hi, j, hj, rfl⟩
    dsimp only; omega
  · intro ha
    exact ⟨(a.1 + 1).toNat, by omega, (a.2 + 1).toNat, by omega, Prod.ext (by dsimp only; omega) (by dsimp only; omega)⟩

theorem dark_count (hD : ∀ a, D a = true → 0 ≤ a.1 ∧ a.1 < w ∧ 0 ≤ a.2 ∧ a.2 < h) (p : Pt → Bool) : ∃ c, IsCount (fun a => D a = true ∧ p a = true) (Conn (fun a => D a = true ∧ p a = true) R8) c := by
  refine IsCount.exists_ ((framed w h).filter fun a => D a && p a) _ _ (fun v => ?_) (fun v hv => .refl hv) (fun u v => Conn.symm R8.symm_) (fun u v z => Conn.trans)
  simp only [List.mem_filter, mem_framed, Bool.and_eq_true]
  exact ⟨fun hv => ⟨by have := hD v hv.1; omega, hv⟩, fun hv => hv.2⟩
theorem light_count : ∃ c, IsCount (VL w h D) (Conn (VL w h D) R4) c := by
  refine IsCount.exists_ ((framed w h).filter fun a => !D a) _ _ (fun v => ?_) (fun v hv => .refl hv) (fun u v => Conn.symm R4.symm_) (fun u v z => Conn.trans)
  simp only [List.mem_filter, mem_framed, Bool.not_eq_true', VL]
  exact ⟨fun hv => ⟨⟨hv.1, hv.2.1, hv.2.2.1, hv.2.2.2.1⟩, hv.2.2.2.2⟩, fun hv => ⟨hv.1.1, hv.1.2.1, hv.1.2.2.1, hv.1.2.2.2, hv.2⟩⟩

theorem good_empty (hw : 1 ≤ w) (hh : 1 ≤ h) (hD : ∀ a, D a = false) : Good w h D := by
  intro c l hc hl
  have e1 : c = 0 := hc.unique ⟨fun _ => 0, fun v hv => (by have := hD v; rw [show D v = true from hv] at this; cases this), fun c hc => absurd hc (Nat.not_lt_zero _), fun u v hu => (by have := hD u; rw [show D u = true from hu] at this; cases this)⟩
  have vl : ∀ x y : Int, -1 ≤ x → x ≤ w → -1 ≤ y → y ≤ h → VL w h D (x, y) := fun x y h1 h2 h3 h4 => ⟨h1, h2, h3, h4, hD _⟩
  have c1 : ∀ i : Nat, (i : Int) ≤ w + 1 → Conn (VL w h D) R4 (-1, -1) ((i : Int) - 1, -1) := by
    intro i
    induction i with
    | zero => intro _; exact .refl (vl _ _ (by omega) (by omega) (by omega) (by omega))
    | succ i ih => intro hi; exact .step _ _ (ih (by omega)) (by unfold R4; dsimp only; omega) (vl _ _ (by omega) (by omega) (by omega) (by omega))
  have c2 : ∀ i j : Nat, (i : Int) ≤ w + 1 → (j : Int) ≤ h + 1 → Conn (VL w h D) R4 (-1, -1) ((i : Int) - 1, (j : Int) - 1) := by
    intro i j hi
    induction j with
    | zero => intro _; exact c1 i hi
    | succ j ih => intro hj; exact .step _ _ (ih (by omega)) (by unfold R4; dsimp only; omega) (vl _ _ (by omega) (by omega) (by omega) (by omega))
  have c3 : ∀ a, VL w h D a → Conn (VL w h D) R4 (-1, -1) a := by
    intro a ha
    have := c2 (a.1 + 1).toNat (a.2 + 1).toNat (by have := ha.2.1; omega) (by have := ha.2.2.2.1; omega)
    rw [show (((a.1 + 1).toNat : Nat) : Int) - 1 = a.1 from by have := ha.1; omega, show (((a.2 + 1).toNat : Nat) : Int) - 1 = a.2 from by have := ha.2.2.1; omega] at this
    exact this
  have e2 : l = 1 := hl.unique ⟨fun _ => 0, fun _ _ => Nat.one_pos, fun c hc => ⟨(-1, -1), vl _ _ (by omega) (by omega) (by omega) (by omega), show 0 = c by omega⟩,
    fun u v hu hv => ⟨fun _ => ((c3 u hu).symm R4.symm_).trans (c3 v hv), fun _ => rfl⟩⟩
  subst e1; subst e2
  have : quads w h D = 0 := by
    unfold quads
    refine S_zero _ _ fun j _ => S_zero _ _ fun i _ => ?_
    unfold quad; rw [hD, hD, hD, hD]; rfl
  rw [this]; rfl

theorem good_step (hD : ∀ a, D a = true → 0 ≤ a.1 ∧ a.1 < w ∧ 0 ≤ a.2 ∧ a.2 < h) (x y : Int) (g : Good w h (pic D x y)) : Good w h (pic D (x + 1) y) := by
  have pin : ∀ x y a, pic D x y a = true → D a = true ∧ (a.2 < y ∨ (a.2 = y ∧ a.1 < x)) := fun x y a ha => by
    unfold pic at ha; rw [Bool.and_eq_true, decide_eq_true_iff] at ha; exact ha
  have mk : ∀ x y a, D a = true → (a.2 < y ∨ (a.2 = y ∧ a.1 < x)) → pic D x y a = true := fun x y a ha h => by
    unfold pic; rw [Bool.and_eq_true, decide_eq_true_iff]; exact ⟨ha, h⟩
  have beq : ∀ {b c : Bool}, (b = true ↔ c = true) → b = c := fun {b c} h => by cases b <;> cases c <;> simp_all
  cases dp : D (x, y) with
  | false =>
    have : pic D (x + 1) y = pic D x y := by
      funext a
      refine beq ⟨fun ha => ?_, fun ha => ?_⟩
      · obtain ⟨h1, h2⟩ := pin _ _ _ ha
        refine mk _ _ _ h1 ?_
        have : a ≠ (x, y) := fun e => by rw [e, dp] at h1; cases h1
        rw [ne_pt] at this; dsimp only at this; omega
      · obtain ⟨h1, h2⟩ := pin _ _ _ ha
        exact mk _ _ _ h1 (by omega)
    rw [this]; exact g
  | true =>
    have L : Last w h (pic D (x + 1) y) (x, y) := ⟨fun a ha => hD a (pin _ _ _ ha).1, mk _ _ _ dp (.inr ⟨rfl, by dsimp only; omega⟩), fun a ha => by have := (pin _ _ _ ha).2; dsimp only; omega⟩
    have h0 : pic D x y (x, y) = false := by unfold pic; rw [decide_eq_false (by dsimp only; omega)]; simp
    have hne : ∀ a, a ≠ ((x, y) : Pt) → pic D x y a = pic D (x + 1) y a := fun a ha => by
      rw [ne_pt] at ha; dsimp only at ha
      exact beq ⟨fun k => mk _ _ _ (pin _ _ _ k).1 (by have := (pin _ _ _ k).2; omega), fun k => mk _ _ _ (pin _ _ _ k).1 (by have := (pin _ _ _ k).2; omega)⟩
    have hVD : ∀ a, pic D x y a = true ↔ VD (pic D (x + 1) y) (x, y) a := fun a => by
      unfold VD
      by_cases e : a = (x, y)
      · subst e; rw [h0]; simp
      · rw [hne a e]; simp [e]
    have hVL : ∀ a, VL w h (pic D x y) a ↔ (VL w h (pic D (x + 1) y) a ∨ a = (x, y)) := fun a => by
      have B := L.box
      dsimp only at B
      unfold VL
      by_cases e : a = (x, y)
      · subst e; rw [h0]; simp; omega
      · rw [hne a e]; simp [e]
    intro c1 l1 hc1 hl1
    obtain ⟨c0, hc0⟩ := dark_count (w := w) (h := h) (D := pic D (x + 1) y) (fun a ha => hD a (pin _ _ _ ha).1) (fun a => decide (a ≠ (x, y)))
    have eV : (fun a => pic D (x + 1) y a = true ∧ decide (a ≠ ((x, y) : Pt)) = true) = VD (pic D (x + 1) y) (x, y) := by funext a; unfold VD; rw [decide_eq_true_iff]
    rw [eV] at hc0
    have eV2 : (fun a => pic D x y a = true) = VD (pic D (x + 1) y) (x, y) := by funext a; exact propext (hVD a)
    obtain ⟨l0, hl0⟩ := light_count (w := w) (h := h) (D := pic D x y)
    have s1 := parts_step L hc0 hc1 hVL hl0 hl1
    have s2 := quads_step L h0 hne
    have s3 := g c0 l0 (by rw [eV2]; exact hc0) hl0
    omega

/-- Four times the number of dark parts, less the light ones but one, is told by what fours of pixels are. -/
theorem euler (hw : 1 ≤ w) (hh : 1 ≤ h) (hD : ∀ a, D a = true → 0 ≤ a.1 ∧ a.1 < w ∧ 0 ≤ a.2 ∧ a.2 < h) : Good w h D := by
  have row : ∀ y : Int, Good w h (pic D 0 y) → ∀ i : Nat, Good w h (pic D i y) := by
    intro y g i
    induction i with
    | zero => exact g
    | succ i ih => exact good_step hD i y ih
  have next : ∀ y : Int, pic D w.toNat y = pic D 0 (y + 1) := by
    intro y
    funext a
    unfold pic
    cases e : D a with
    | false => rfl
    | true =>
      have := hD a e
      rw [Bool.true_and, Bool.true_and, decide_eq_decide]; omega
  have rows : ∀ j : Nat, Good w h (pic D 0 j) := by
    intro j
    induction j with
    | zero =>
      refine good_empty hw hh fun a => ?_
      unfold pic
      cases e : D a with
      | false => rfl
      | true =>
        have := hD a e
        rw [decide_eq_false (by omega)]; rfl
    | succ j ih =>
      have := row j ih w.toNat
      rw [next] at this
      exact this
  have : pic D 0 (h.toNat : Nat) = D := by
    funext a
    unfold pic
    cases e : D a with
    | false => rfl
    | true =>
      have := hD a e
      rw [decide_eq_true (by omega)]; rfl
  rw [← this]
  exact rows _
end
end Go.Proofs.Ytahibhipffojlaa.Topo
/- Plain facts on pixels: places, neighbours, blobs. -/
set_option linter.unusedSimpArgs false
set_option linter.unusedVariables false
namespace Go.Proofs.Ytahibhipffojlaa.P
open Go.Proofs.YtahibhipffojlaaW.PrintWords Go.Proofs.YtahibhipffojlaaW.PrintMore Go.Proofs.Ytahibhipffojlaa.M Go.Proofs.Ytahibhipffojlaa.Topo Go.Proofs.Ytahibhipffojlaa.Nb Go.Proofs.Ytahibhipffojlaa.Label Go.Proofs.Ytahibhipffojlaa.Unite Go.Proofs.Ytahibhipffojlaa.Map Go.Proofs.Ytahibhipffojlaa.Uf

def Adj (w : Nat) (e : Bool) (i j : Nat) : Prop :=
  i % w ≤ j % w + 1 ∧ j % w ≤ i % w + 1 ∧ i / w ≤ j / w + 1 ∧ j / w ≤ i / w + 1 ∧ (e = true ∨ i % w = j % w ∨ i / w = j / w)
theorem Adj.symm_ (w : Nat) (e : Bool) (i j : Nat) (h : Adj w e i j) : Adj w e j i := by
  obtain ⟨h1, h2, h3, h4, h5⟩ := h
  exact ⟨h2, h1, h4, h3, h5.imp_right fun h => h.imp Eq.symm Eq.symm⟩
theorem at_xy {w x y : Nat} (hx : x < w) : (w * y + x) % w = x ∧ (w * y + x) / w = y := by
  constructor
  · rw [Nat.mul_add_mod, Nat.mod_eq_of_lt hx]
  · rw [Nat.mul_add_div (by omega), Nat.div_eq_of_lt hx, Nat.add_zero]
theorem of_xy {w i x y : Nat} (hw : 0 < w) (hx : i % w = x) (hy : i / w = y) : i = w * y + x := by
  rw [← hx, ← hy, Nat.div_add_mod]

/-- the neighbours that come before -/
theorem before (w : Nat) (e : Bool) (hw : 0 < w) (j i : Nat) : (j < i ∧ Adj w e j i) ↔
    ((0 < i % w ∧ j + 1 = i) ∨ (j + w = i) ∨ (e = true ∧ 0 < i % w ∧ j + w + 1 = i) ∨ (e = true ∧ i % w + 1 < w ∧ j + w = i + 1)) := by
  obtain ⟨x, hx⟩ : ∃ x, i % w = x := ⟨_, rfl⟩
  obtain ⟨y, hy⟩ : ∃ y, i / w = y := ⟨_, rfl⟩
  obtain ⟨u, hu⟩ : ∃ u, j % w = u := ⟨_, rfl⟩
  obtain ⟨v, hv⟩ : ∃ v, j / w = v := ⟨_, rfl⟩
  have hi := of_xy hw hx hy
  have hj := of_xy hw hu hv
  have lx : x < w := hx ▸ Nat.mod_lt _ hw
  have lu : u < w := hu ▸ Nat.mod_lt _ hw
  have key : ∀ v', v' = v → w * v' = w * v := fun v' h => by rw [h]
  constructor
  · rintro ⟨hlt, h⟩
    unfold Adj at h
    rw [hx, hy, hu, hv] at h
    rw [hx]
    have hvy : v = y ∨ v + 1 = y := by
      rcases Nat.lt_or_ge y v with h1 | h1
      · have : w * (y + 1) ≤ w * v := Nat.mul_le_mul_left w h1
        rw [Nat.mul_succ] at this
        omega
      · omega
    rcases hvy with rfl | rfl
    · left; omega
    · rw [Nat.mul_succ] at hi
      by_cases e1 : u = x
      · right; left; omega
      · have he : e = true := by
          rcases h.2.2.2.2 with h2 | h2 | h2
          · exact h2
          · exact absurd h2 e1
          · omega
        rcases Nat.lt_or_ge u x with h3 | h3
        · right; right; left; exact ⟨he, by omega, by omega⟩
        · right; right; right; exact ⟨he, by omega, by omega⟩
  · intro h
    rw [hx] at h
    rcases h with ⟨h1, h2⟩ | h2 | ⟨he, h1, h2⟩ | ⟨he, h1, h2⟩
    · have e0 : j = w * y + (x - 1) := by omega
      have := at_xy (w := w) (x := x - 1) (y := y) (by omega)
      rw [← e0, hu, hv] at this
      refine ⟨by omega, ?_⟩
      unfold Adj
      rw [hx, hy, hu, hv]
      omega
    · have hy1 : 0 < y := by
        rcases Nat.eq_zero_or_pos y with h3 | h3
        · subst h3; simp at hi; omega
        · exact h3
      have e0 : j = w * (y - 1) + x := by
        have : w * y = w * (y - 1) + w := by rw [← Nat.mul_succ]; congr 1; omega
        omega
      have := at_xy (w := w) (x := x) (y := y - 1) (by omega)
      rw [← e0, hu, hv] at this
      refine ⟨by omega, ?_⟩
      unfold Adj
      rw [hx, hy, hu, hv]
      omega
    · have hy1 : 0 < y := by
        rcases Nat.eq_zero_or_pos y with h3 | h3
        · subst h3; simp at hi; omega
        · exact h3
      have e0 : j = w * (y - 1) + (x - 1) := by
        have : w * y = w * (y - 1) + w := by rw [← Nat.mul_succ]; congr 1; omega
        omega
      have := at_xy (w := w) (x := x - 1) (y := y - 1) (by omega)
      rw [← e0, hu, hv] at this
      refine ⟨by omega, ?_⟩
      unfold Adj
      rw [hx, hy, hu, hv]
      exact ⟨by omega, by omega, by omega, by omega, .inl he⟩
    · have hy1 : 0 < y := by
        rcases Nat.eq_zero_or_pos y with h3 | h3
        · subst h3; simp at hi; omega
        · exact h3
      have e0 : j = w * (y - 1) + (x + 1) := by
        have : w * y = w * (y - 1) + w := by rw [← Nat.mul_succ]; congr 1; omega
        omega
      have := at_xy (w := w) (x := x + 1) (y := y - 1) (by omega)
      rw [← e0, hu, hv] at this
      refine ⟨by omega, ?_⟩
      unfold Adj
      rw [hx, hy, hu, hv]
      exact ⟨by omega, by omega, by omega, by omega, .inl he⟩

theorem mem_addF (ls : List Int) (is : Bool) (at_ : Int) (xs : List Int) (a : Int) : a ∈ addF ls is at_ xs ↔ a ∈ xs ∨ (is = true ∧ 0 ≤ at_ ∧ 0 ≤ rd ls at_ ∧ a = rd ls at_) := by
  unfold addF
  split
  case isTrue h => simp [h]
  case isFalse h =>
    constructor
    · exact Or.inl
    · rintro (h1 | ⟨h1, h2, h3, _⟩)
      · exact h1
      · exact absurd ⟨h1, h2, h3⟩ h
/-- the labels of the dark neighbours that come before -/
theorem nb_mem (w : Nat) (e : Bool) (hw : 0 < w) (D : Nat → Bool) (ls : List Int) (i : Nat) (hD : ∀ j, j < i → (D j = true ↔ 0 ≤ ls.getD j 0)) (a : Int) :
    a ∈ nbF ls (w : Int) (i : Int) e ↔ ∃ j, j < i ∧ D j = true ∧ Adj w e j i ∧ ls.getD j 0 = a := by
  have one : ∀ (is : Bool) (k : Int), (is = true → k < i) → ((is = true ∧ 0 ≤ k ∧ 0 ≤ rd ls k ∧ a = rd ls k) ↔ ∃ j : Nat, is = true ∧ (j : Int) = k ∧ D j = true ∧ ls.getD j 0 = a) := by
    intro is k hk
    constructor
    · rintro ⟨h1, h2, h3, h4⟩
      obtain ⟨j, rfl⟩ := Int.eq_ofNat_of_zero_le h2
      have := hk h1
      have e : rd ls (j : Int) = ls.getD j 0 := by unfold rd; rw [Int.toNat_natCast]
      rw [e] at h3 h4
      exact ⟨j, h1, rfl, (hD j (by omega)).2 h3, h4.symm⟩
    · rintro ⟨j, h1, rfl, h3, h4⟩
      have := hk h1
      have e : rd ls (j : Int) = ls.getD j 0 := by unfold rd; rw [Int.toNat_natCast]
      rw [e]
      exact ⟨h1, by omega, (hD j (by omega)).1 h3, h4.symm⟩
  have hm : (i : Int) % (w : Int) = ((i % w : Nat) : Int) := by omega
  have lm : i % w < w := Nat.mod_lt _ hw
  have lim : i % w ≤ i := Nat.mod_le _ _
  have h1 := one (decide (0 < (i : Int) % (w : Int))) ((i : Int) - 1) (fun _ => by omega)
  have h2 := one true ((i : Int) - w) (fun _ => by omega)
  have h3 := one (decide (0 < (i : Int) % (w : Int))) ((i : Int) - w - 1) (fun _ => by omega)
  have h4 := one (decide ((i : Int) % (w : Int) + 1 < (w : Int))) ((i : Int) - w + 1) (fun h => by have := of_decide_eq_true h; omega)
  have hb : ∀ j, j < i ∧ D j = true ∧ Adj w e j i ∧ ls.getD j 0 = a ↔ (((0 < i % w ∧ j + 1 = i) ∨ (j + w = i) ∨ (e = true ∧ 0 < i % w ∧ j + w + 1 = i) ∨ (e = true ∧ i % w + 1 < w ∧ j + w = i + 1)) ∧ D j = true ∧ ls.getD j 0 = a) := by
    intro j
    rw [← before w e hw j i]
    constructor
    · rintro ⟨p, q, r, s⟩; exact ⟨⟨p, r⟩, q, s⟩
    · rintro ⟨⟨p, r⟩, q, s⟩; exact ⟨p, q, r, s⟩
  unfold nbF
  cases e with
  | false =>
    dsimp only
    rw [if_neg (by simp), mem_addF, mem_addF, h1, h2]
    simp only [List.not_mem_nil, false_or]
    constructor
    · rintro (⟨j, p, q, r, s⟩ | ⟨j, p, q, r, s⟩)
      · refine ⟨j, (hb j).2 ⟨.inl ⟨?_, by omega⟩, r, s⟩⟩
        have := of_decide_eq_true p; omega
      · exact ⟨j, (hb j).2 ⟨.inr (.inl (by omega)), r, s⟩⟩
    · rintro ⟨j, h⟩
      obtain ⟨h, r, s⟩ := (hb j).1 h
      rcases h with ⟨p, q⟩ | q | ⟨p, _⟩ | ⟨p, _⟩
      · exact .inl ⟨j, decide_eq_true (by omega), by omega, r, s⟩
      · exact .inr ⟨j, trivial, by omega, r, s⟩
      · cases p
      · cases p
  | true =>
    dsimp only
    rw [if_pos rfl, mem_addF, mem_addF, mem_addF, mem_addF, h1, h2, h3, h4]
    simp only [List.not_mem_nil, false_or]
    constructor
    · rintro (((⟨j, p, q, r, s⟩ | ⟨j, p, q, r, s⟩) | ⟨j, p, q, r, s⟩) | ⟨j, p, q, r, s⟩)
      · refine ⟨j, (hb j).2 ⟨.inl ⟨?_, by omega⟩, r, s⟩⟩
        have := of_decide_eq_true p; omega
      · exact ⟨j, (hb j).2 ⟨.inr (.inl (by omega)), r, s⟩⟩
      · refine ⟨j, (hb j).2 ⟨.inr (.inr (.inl ⟨rfl, ?_, by omega⟩)), r, s⟩⟩
        have := of_decide_eq_true p; omega
      · refine ⟨j, (hb j).2 ⟨.inr (.inr (.inr ⟨rfl, ?_, by omega⟩)), r, s⟩⟩
        have := of_decide_eq_true p; omega
    · rintro ⟨j, h⟩
      obtain ⟨h, r, s⟩ := (hb j).1 h
      rcases h with ⟨p, q⟩ | q | ⟨_, p, q⟩ | ⟨_, p, q⟩
      · exact .inl (.inl (.inl ⟨j, decide_eq_true (by omega), by omega, r, s⟩))
      · exact .inl (.inl (.inr ⟨j, trivial, by omega, r, s⟩))
      · exact .inl (.inr ⟨j, decide_eq_true (by omega), by omega, r, s⟩)
      · exact .inr ⟨j, decide_eq_true (by omega), by omega, r, s⟩
end Go.Proofs.Ytahibhipffojlaa.P
/- Plain facts on blobs and on the uniting of classes. -/
set_option linter.unusedSimpArgs false
set_option linter.unusedVariables false
namespace Go.Proofs.Ytahibhipffojlaa.P
open Go.Proofs.YtahibhipffojlaaW.PrintWords Go.Proofs.YtahibhipffojlaaW.PrintMore Go.Proofs.Ytahibhipffojlaa.M Go.Proofs.Ytahibhipffojlaa.Topo Go.Proofs.Ytahibhipffojlaa.Nb Go.Proofs.Ytahibhipffojlaa.Label Go.Proofs.Ytahibhipffojlaa.Unite Go.Proofs.Ytahibhipffojlaa.Map Go.Proofs.Ytahibhipffojlaa.Uf

/-- b tells of the pixels of S -/
structure Blob (w : Nat) (S : Nat → Prop) (b : S38) : Prop where
  first : ∃ f, S f ∧ (∀ j, S j → f ≤ j) ∧ b.f2.f0 = ((f % w : Nat) : Int) ∧ b.f2.f1 = ((f / w : Nat) : Int)
  x0 : ∀ j, S j → b.f0.f0 ≤ ((j % w : Nat) : Int)
  x0' : ∃ j, S j ∧ b.f0.f0 = ((j % w : Nat) : Int)
  x1 : ∀ j, S j → ((j % w : Nat) : Int) + 1 ≤ b.f0.f0 + b.f0.f2
  x1' : ∃ j, S j ∧ ((j % w : Nat) : Int) + 1 = b.f0.f0 + b.f0.f2
  y0 : ∀ j, S j → b.f0.f1 ≤ ((j / w : Nat) : Int)
  y0' : ∃ j, S j ∧ b.f0.f1 = ((j / w : Nat) : Int)
  y1 : ∀ j, S j → ((j / w : Nat) : Int) + 1 ≤ b.f0.f1 + b.f0.f3
  y1' : ∃ j, S j ∧ ((j / w : Nat) : Int) + 1 = b.f0.f1 + b.f0.f3
  area : ∃ l : List Nat, l.Nodup ∧ (∀ j, j ∈ l ↔ S j) ∧ b.f1 = (l.length : Int)

theorem Blob.congr {w : Nat} {S T : Nat → Prop} {b : S38} (h : Blob w S b) (hST : ∀ j, S j ↔ T j) : Blob w T b := by
  obtain rfl : S = T := funext fun j => propext (hST j)
  exact h
theorem Blob.unique {w : Nat} {S : Nat → Prop} {a b : S38} (h : Blob w S a) (k : Blob w S b) : a = b := by
  obtain ⟨f, f1, f2, f3, f4⟩ := h.first
  obtain ⟨g, g1, g2, g3, g4⟩ := k.first
  have e : f = g := Nat.le_antisymm (f2 g g1) (g2 f f1)
  subst e
  obtain ⟨j1, p1, q1⟩ := h.x0'
  obtain ⟨j2, p2, q2⟩ := k.x0'
  obtain ⟨j3, p3, q3⟩ := h.x1'
  obtain ⟨j4, p4, q4⟩ := k.x1'
  obtain ⟨j5, p5, q5⟩ := h.y0'
  obtain ⟨j6, p6, q6⟩ := k.y0'
  obtain ⟨j7, p7, q7⟩ := h.y1'
  obtain ⟨j8, p8, q8⟩ := k.y1'
  have a1 := k.x0 j1 p1; have a2 := h.x0 j2 p2; have a3 := k.x1 j3 p3; have a4 := h.x1 j4 p4
  have a5 := k.y0 j5 p5; have a6 := h.y0 j6 p6; have a7 := k.y1 j7 p7; have a8 := h.y1 j8 p8
  obtain ⟨l, l1, l2, l3⟩ := h.area
  obtain ⟨m, m1, m2, m3⟩ := k.area
  have hl : l.length = m.length := List.Perm.length_eq ((List.perm_ext_iff_of_nodup l1 m1).2 fun x => (l2 x).trans (m2 x).symm)
  exact S38_ext (by omega) (by omega) (by omega) (by omega) (by omega) (by omega) (by omega)
theorem mn_or (a b : Int) : (mn a b = a ∧ a ≤ b) ∨ (mn a b = b ∧ b ≤ a) := by unfold mn; split <;> omega
theorem mx_or (a b : Int) : (mx a b = a ∧ b ≤ a) ∨ (mx a b = b ∧ a ≤ b) := by unfold mx; split <;> omega
theorem Blob.join {w : Nat} {S T : Nat → Prop} {a b : S38} (h : Blob w S a) (k : Blob w T b) (hd : ∀ j, S j → ¬ T j) (hf : ∀ j, T j → ∃ i, S i ∧ i ≤ j) : Blob w (fun j => S j ∨ T j) (joinF a b) := by
  have hx := mn_or a.f0.f0 b.f0.f0
  have hy := mn_or a.f0.f1 b.f0.f1
  have hX := mx_or (a.f0.f0 + a.f0.f2) (b.f0.f0 + b.f0.f2)
  have hY := mx_or (a.f0.f1 + a.f0.f3) (b.f0.f1 + b.f0.f3)
  obtain ⟨f, f1, f2, f3, f4⟩ := h.first
  obtain ⟨j1, p1, q1⟩ := h.x0'
  obtain ⟨j2, p2, q2⟩ := k.x0'
  obtain ⟨j3, p3, q3⟩ := h.x1'
  obtain ⟨j4, p4, q4⟩ := k.x1'
  obtain ⟨j5, p5, q5⟩ := h.y0'
  obtain ⟨j6, p6, q6⟩ := k.y0'
  obtain ⟨j7, p7, q7⟩ := h.y1'
  obtain ⟨j8, p8, q8⟩ := k.y1'
  obtain ⟨l, l1, l2, l3⟩ := h.area
  obtain ⟨m, m1, m2, m3⟩ := k.area
  unfold joinF
  refine ⟨⟨f, .inl f1, ?_, f3, f4⟩, ?_, ?_, ?_, ?_, ?_, ?_, ?_, ?_, ⟨l ++ m, ?_, ?_, ?_⟩⟩
  · rintro j (hj | hj)
    · exact f2 j hj
    · obtain ⟨i, hi, hij⟩ := hf j hj
      exact Nat.le_trans (f2 i hi) hij
  · rintro j (hj | hj)
    · have := h.x0 j hj; dsimp only; omega
    · have := k.x0 j hj; dsimp only; omega
  · rcases hx with ⟨e, _⟩ | ⟨e, _⟩
    · exact ⟨j1, .inl p1, by dsimp only; omega⟩
    · exact ⟨j2, .inr p2, by dsimp only; omega⟩
  · rintro j (hj | hj)
    · have := h.x1 j hj; dsimp only; omega
    · have := k.x1 j hj; dsimp only; omega
  · rcases hX with ⟨e, _⟩ | ⟨e, _⟩
    · exact ⟨j3, .inl p3, by dsimp only; omega⟩
    · exact ⟨j4, .inr p4, by dsimp only; omega⟩
  · rintro j (hj | hj)
    · have := h.y0 j hj; dsimp only; omega
    · have := k.y0 j hj; dsimp only; omega
  · rcases hy with ⟨e, _⟩ | ⟨e, _⟩
    · exact ⟨j5, .inl p5, by dsimp only; omega⟩
    · exact ⟨j6, .inr p6, by dsimp only; omega⟩
  · rintro j (hj | hj)
    · have := h.y1 j hj; dsimp only; omega
    · have := k.y1 j hj; dsimp only; omega
  · rcases hY with ⟨e, _⟩ | ⟨e, _⟩
    · exact ⟨j7, .inl p7, by dsimp only; omega⟩
    · exact ⟨j8, .inr p8, by dsimp only; omega⟩
  · exact List.nodup_append.2 ⟨l1, m1, fun x hx y hy e => by subst e; exact hd x ((l2 x).1 hx) ((m2 x).1 hy)⟩
  · intro j; rw [List.mem_append, l2, m2]
  · dsimp only; rw [List.length_append]; omega
theorem Blob.own (w i : Nat) : Blob w (fun j => j = i) (Label.own (w : Int) i) := by
  have e1 : (i : Int) % (w : Int) = ((i % w : Nat) : Int) := by omega
  have e2 : (i : Int) / (w : Int) = ((i / w : Nat) : Int) := by omega
  unfold Label.own
  rw [e1, e2]
  refine ⟨⟨i, rfl, fun j hj => by omega, rfl, rfl⟩, fun j hj => by subst hj; exact Int.le_refl _, ⟨i, rfl, rfl⟩, fun j hj => by subst hj; exact Int.le_refl _, ⟨i, rfl, rfl⟩, fun j hj => by subst hj; exact Int.le_refl _, ⟨i, rfl, rfl⟩, fun j hj => by subst hj; exact Int.le_refl _, ⟨i, rfl, rfl⟩, [i], by simp, by simp, rfl⟩
/-- a blob's numbers are small -/
theorem Blob.okb {w n : Nat} {S : Nat → Prop} {b : S38} (h : Blob w S b) (hS : ∀ j, S j → j < n) (hw : 0 < w) (hw2 : w ≤ 1000000) (hn : n ≤ 100000000) (hh : ∀ j, j < n → j / w < 999999) : Okb b := by
  obtain ⟨j1, p1, q1⟩ := h.x0'
  obtain ⟨j3, p3, q3⟩ := h.x1'
  obtain ⟨j5, p5, q5⟩ := h.y0'
  obtain ⟨j7, p7, q7⟩ := h.y1'
  obtain ⟨l, l1, l2, l3⟩ := h.area
  have a1 := h.x1 j1 p1; have a3 := h.x0 j3 p3; have a5 := h.y1 j5 p5; have a7 := h.y0 j7 p7
  have m1 := Nat.mod_lt j1 hw; have m3 := Nat.mod_lt j3 hw
  have d5 := hh j5 (hS j5 p5); have d7 := hh j7 (hS j7 p7)
  have hl : l.length ≤ n := by
    have := l1.length_le_of_subset (l₂ := List.range n) (fun x hx => List.mem_range.2 (hS x ((l2 x).1 hx)))
    simpa using this
  have n1 : (0 : Int) ≤ ((j1 % w : Nat) : Int) := Int.natCast_nonneg _
  have n3 : (0 : Int) ≤ ((j3 % w : Nat) : Int) := Int.natCast_nonneg _
  have n5 : (0 : Int) ≤ ((j5 / w : Nat) : Int) := Int.natCast_nonneg _
  have n7 : (0 : Int) ≤ ((j7 / w : Nat) : Int) := Int.natCast_nonneg _
  unfold Okb
  generalize j1 % w = u1 at *
  generalize j3 % w = u3 at *
  generalize j5 / w = u5 at *
  generalize j7 / w = u7 at *
  omega

def R (rt : List Int) (a : Nat) : Nat := (rt.getD a 0).toNat
/-- the roots -/
structure Rt (rt : List Int) : Prop where
  lo : ∀ a, a < rt.length → 0 ≤ rt.getD a 0
  hi : ∀ a, a < rt.length → R rt a ≤ a
  idem : ∀ a, a < rt.length → R rt (R rt a) = R rt a
theorem Rt.cast {rt : List Int} (h : Rt rt) {a : Nat} (ha : a < rt.length) : rt.getD a 0 = (R rt a : Int) := by
  have := h.lo a ha
  unfold R
  omega

/-- classes of labelled pixels S (lab), with their blobs -/
structure Ph (w : Nat) (S : Nat → Prop) (lab : Nat → Nat) (rt : List Int) (M : List (Option S38)) : Prop where
  wf : Rt rt
  ml : M.length = rt.length
  lb : ∀ j, S j → lab j < rt.length
  none_ : ∀ a, a < rt.length → R rt a ≠ a → M.getD a none = none
  some_ : ∀ a, a < rt.length → R rt a = a → ∃ b, M.getD a none = some b ∧ Blob w (fun j => S j ∧ R rt (lab j) = a) b
  ord : ∀ j, S j → ∀ a, a ≤ lab j → ∃ k, k ≤ j ∧ S k ∧ lab k = a

theorem R_map (rt : List Int) (lo hi : Nat) (wf : Rt rt) {c : Nat} (hc : c < rt.length) : R (rt.map fun z => if z = (hi : Int) then (lo : Int) else z) c = if R rt c = hi then lo else R rt c := by
  have h := wf.cast hc
  have e : (rt.map fun z => if z = (hi : Int) then (lo : Int) else z).getD c 0 = if rt.getD c 0 = (hi : Int) then (lo : Int) else rt.getD c 0 := by
    rw [List.getD_eq_getElem?_getD, List.getElem?_map, List.getElem?_eq_getElem hc, List.getD_eq_getElem?_getD, List.getElem?_eq_getElem hc]
    rfl
  unfold R at *
  rw [e, h]
  by_cases hh : ((rt.getD c 0).toNat : Int) = (hi : Int)
  · rw [if_pos hh, if_pos (by omega), Int.toNat_natCast]
  · rw [if_neg hh, if_neg (by omega), Int.toNat_natCast]
theorem set2 {α : Type} (M : List (Option α)) (lo hi : Nat) (y : α) (hlo : lo < M.length) (hhi : hi < M.length) (hne : lo ≠ hi) (c : Nat) : ((M.set lo (some y)).set hi none).getD c none = if c = hi then none else if c = lo then some y else M.getD c none := by
  rw [getD_set', getD_set', List.length_set]
  grind

section
variable {w n : Nat} {S : Nat → Prop} {lab : Nat → Nat} {rt : List Int} {M : List (Option S38)}
/-- two classes become one -/
theorem Ph.unite (P : Ph w S lab rt M) (hS : ∀ j, S j → j < n) (hw : 0 < w) (hw2 : w ≤ 1000000) (hn : n ≤ 100000000) (hh : ∀ j, j < n → j / w < 999999) (a b : Nat) (ha : a < rt.length) (hb : b < rt.length) :
    ∃ rt' M', uniteF rt M a b = some (rt', M') ∧ Ph w S lab rt' M' ∧ rt'.length = rt.length ∧
      ∀ c d, c < rt.length → d < rt.length → (R rt' c = R rt' d ↔ (R rt c = R rt d ∨ ((R rt c = R rt a ∨ R rt c = R rt b) ∧ (R rt d = R rt a ∨ R rt d = R rt b)))) := by
  have ca := P.wf.cast ha
  have cb := P.wf.cast hb
  unfold uniteF
  rw [if_pos ⟨ha, hb⟩, ca, cb]
  by_cases he : R rt a = R rt b
  · rw [if_pos (by rw [he])]
    refine ⟨rt, M, rfl, P, rfl, fun c d hc hd => ?_⟩
    rw [he]
    constructor
    · exact Or.inl
    · rintro (h | ⟨h | h, k | k⟩)
      · exact h
      all_goals rw [h, k]
  · rw [if_neg (by omega)]
    obtain ⟨lo, hi, h1, h2, h3, h4, h5, h6⟩ : ∃ lo hi : Nat, mn (R rt a : Int) (R rt b : Int) = (lo : Int) ∧ mx (R rt a : Int) (R rt b : Int) = (hi : Int) ∧ lo < hi ∧ hi < rt.length ∧ ((lo = R rt a ∧ hi = R rt b) ∨ (lo = R rt b ∧ hi = R rt a)) ∧ (R rt lo = lo ∧ R rt hi = hi) := by
      have l1 := P.wf.hi a ha
      have l2 := P.wf.hi b hb
      have i1 := P.wf.idem a ha
      have i2 := P.wf.idem b hb
      rcases Nat.lt_or_ge (R rt a) (R rt b) with h | h
      · refine ⟨R rt a, R rt b, ?_, ?_, h, by omega, .inl ⟨rfl, rfl⟩, i1, i2⟩
        · unfold mn; split <;> omega
        · unfold mx; split <;> omega
      · refine ⟨R rt b, R rt a, ?_, ?_, by omega, by omega, .inr ⟨rfl, rfl⟩, i2, i1⟩
        · unfold mn; split <;> omega
        · unfold mx; split <;> omega
    rw [h1, h2, Int.toNat_natCast, Int.toNat_natCast]
    have hlo : lo < rt.length := by omega
    obtain ⟨x, hx, bx⟩ := P.some_ lo hlo h6.1
    obtain ⟨y, hy, by_⟩ := P.some_ hi h4 h6.2
    have kx : Okb x := bx.okb (fun j hj => hS j hj.1) hw hw2 hn hh
    have ky : Okb y := by_.okb (fun j hj => hS j hj.1) hw hw2 hn hh
    rw [hx, hy]
    dsimp only
    rw [if_pos ⟨kx, ky⟩]
    have hR : ∀ c, c < rt.length → R (rt.map fun z => if z = (hi : Int) then (lo : Int) else z) c = if R rt c = hi then lo else R rt c := fun c hc => R_map rt lo hi P.wf hc
    have hl : (rt.map fun z => if z = (hi : Int) then (lo : Int) else z).length = rt.length := List.length_map _
    have hM : ∀ c, ((M.set lo (some (joinF x y))).set hi none).getD c none = if c = hi then none else if c = lo then some (joinF x y) else M.getD c none := set2 M lo hi (joinF x y) (by rw [P.ml]; exact hlo) (by rw [P.ml]; exact h4) (by omega)
    have rel : ∀ c d, c < rt.length → d < rt.length → (R (rt.map fun z => if z = (hi : Int) then (lo : Int) else z) c = R (rt.map fun z => if z = (hi : Int) then (lo : Int) else z) d ↔ (R rt c = R rt d ∨ ((R rt c = R rt a ∨ R rt c = R rt b) ∧ (R rt d = R rt a ∨ R rt d = R rt b)))) := by
      intro c d hc hd
      rw [hR c hc, hR d hd]
      generalize R rt c = rc at *
      generalize R rt d = rd at *
      generalize R rt a = ra at *
      generalize R rt b = rb at *
      split <;> split <;> omega
    refine ⟨_, _, rfl, ⟨⟨?_, ?_, ?_⟩, ?_, ?_, ?_, ?_, P.ord⟩, hl, rel⟩
    · intro c hc
      rw [hl] at hc
      rw [List.getD_eq_getElem?_getD, List.getElem?_map, List.getElem?_eq_getElem hc]
      have h0 := P.wf.lo c hc
      rw [List.getD_eq_getElem?_getD, List.getElem?_eq_getElem hc] at h0
      simp only [Option.map_some, Option.getD_some] at h0 ⊢
      split <;> omega
    · intro c hc
      rw [hl] at hc
      rw [hR c hc]
      have := P.wf.hi c hc
      split <;> omega
    · intro c hc
      rw [hl] at hc
      have i0 := P.wf.idem c hc
      have l0 := P.wf.hi c hc
      rw [hR c hc]
      by_cases hcc : R rt c = hi
      · rw [if_pos hcc, hR lo hlo, if_neg (by omega)]
        exact h6.1
      · rw [if_neg hcc, hR _ (by omega), i0, if_neg hcc]
    · rw [List.length_set, List.length_set, hl, P.ml]
    · intro j hj
      rw [hl]
      exact P.lb j hj
    · intro c hc hne
      rw [hl] at hc
      rw [hR c hc] at hne
      rw [hM c]
      split
      · rfl
      next h7 =>
        have : R rt c ≠ c := by
          intro e
          apply hne
          rw [if_neg (by omega)]
          exact e
        rw [if_neg (by
          intro e
          subst e
          exact this h6.1)]
        exact P.none_ c hc this
    · intro c hc heq
      rw [hl] at hc
      rw [hR c hc] at heq
      have hch : c ≠ hi := by
        intro e
        subst e
        rw [if_pos h6.2] at heq
        omega
      have hcR : R rt c = c := by
        split at heq
        next h7 => subst heq; omega
        next h7 => exact heq
      rw [hM c, if_neg hch]
      by_cases hcl : c = lo
      · subst hcl
        rw [if_pos rfl]
        refine ⟨_, rfl, (bx.join by_ (fun j p q => by have h8 := p.2; have h9 := q.2; omega) (fun j hj => ?_)).congr fun j => ?_⟩
        · obtain ⟨k, k1, k2, k3⟩ := P.ord j hj.1 c (by have := P.wf.hi (lab j) (P.lb j hj.1); have := hj.2; omega)
          exact ⟨k, ⟨k2, by rw [k3]; exact h6.1⟩, k1⟩
        · constructor
          · rintro (⟨p, q⟩ | ⟨p, q⟩)
            · exact ⟨p, by rw [hR _ (P.lb j p), if_neg (by omega)]; exact q⟩
            · exact ⟨p, by rw [hR _ (P.lb j p), if_pos q]⟩
          · rintro ⟨p, q⟩
            rw [hR _ (P.lb j p)] at q
            split at q
            next h7 => exact .inr ⟨p, h7⟩
            next h7 => exact .inl ⟨p, q⟩
      · rw [if_neg hcl]
        obtain ⟨b', hb1, hb2⟩ := P.some_ c hc hcR
        refine ⟨b', hb1, hb2.congr fun j => ?_⟩
        constructor
        · rintro ⟨p, q⟩
          exact ⟨p, by rw [hR _ (P.lb j p), if_neg (by omega)]; exact q⟩
        · rintro ⟨p, q⟩
          rw [hR _ (P.lb j p)] at q
          split at q
          next h7 => omega
          next h7 => exact ⟨p, q⟩
/-- a's class takes in those of a list -/
theorem Ph.uniteAll (hS : ∀ j, S j → j < n) (hw : 0 < w) (hw2 : w ≤ 1000000) (hn : n ≤ 100000000) (hh : ∀ j, j < n → j / w < 999999) (a : Nat) : ∀ (os : List Int) (rt : List Int) (M : List (Option S38)), Ph w S lab rt M → a < rt.length → (∀ o ∈ os, 0 ≤ o ∧ o < rt.length) →
    ∃ rt' M', Label.uniteAll a os rt M = some (rt', M') ∧ Ph w S lab rt' M' ∧ rt'.length = rt.length ∧
      ∀ c d, c < rt.length → d < rt.length → (R rt' c = R rt' d ↔ (R rt c = R rt d ∨ ((R rt c = R rt a ∨ ∃ o ∈ os, R rt c = R rt o.toNat) ∧ (R rt d = R rt a ∨ ∃ o ∈ os, R rt d = R rt o.toNat)))) := by
  intro os
  induction os with
  | nil =>
    intro rt M P ha _
    refine ⟨rt, M, rfl, P, rfl, fun c d hc hd => ?_⟩
    constructor
    · exact Or.inl
    · rintro (h | ⟨h | ⟨o, ho, _⟩, k | ⟨o', ho', _⟩⟩)
      · exact h
      · rw [h, k]
      · simp at ho'
      · simp at ho
      · simp at ho
  | cons o os ih =>
    intro rt M P ha ho
    obtain ⟨o1, o2⟩ := ho o (by simp)
    obtain ⟨rt1, M1, u1, P1, l1, r1⟩ := P.unite hS hw hw2 hn hh a o.toNat ha (by omega)
    obtain ⟨rt2, M2, u2, P2, l2, r2⟩ := ih rt1 M1 P1 (by omega) (fun o' h' => by have := ho o' (by simp [h']); omega)
    refine ⟨rt2, M2, ?_, P2, by omega, fun c d hc hd => ?_⟩
    · unfold Label.uniteAll
      rw [if_pos o1, u1]
      exact u2
    · rw [r2 c d (by omega) (by omega), r1 c d hc hd, r1 c a hc ha, r1 d a hd ha]
      have ex : ∀ c, c < rt.length → ((∃ o' ∈ os, R rt1 c = R rt1 o'.toNat) ↔ (∃ o' ∈ os, R rt c = R rt o'.toNat) ∨ ((R rt c = R rt a ∨ R rt c = R rt o.toNat) ∧ ∃ o' ∈ os, (R rt o'.toNat = R rt a ∨ R rt o'.toNat = R rt o.toNat))) := by
        intro c hc
        constructor
        · rintro ⟨o', h1, h2⟩
          have := ho o' (by simp [h1])
          rcases (r1 c o'.toNat hc (by omega)).1 h2 with h3 | ⟨h3, h4⟩
          · exact .inl ⟨o', h1, h3⟩
          · exact .inr ⟨h3, o', h1, h4⟩
        · rintro (⟨o', h1, h2⟩ | ⟨h3, o', h1, h4⟩)
          · have := ho o' (by simp [h1])
            exact ⟨o', h1, (r1 c o'.toNat hc (by omega)).2 (.inl h2)⟩
          · have := ho o' (by simp [h1])
            exact ⟨o', h1, (r1 c o'.toNat hc (by omega)).2 (.inr ⟨h3, h4⟩)⟩
      rw [ex c hc, ex d hd]
      simp only [List.mem_cons, exists_eq_or_imp]
      grind
end
end Go.Proofs.Ytahibhipffojlaa.P
/- What components.label computes, pixel by pixel: the classes are those of the neighbours' relation. -/
set_option linter.unusedSimpArgs false
set_option linter.unusedVariables false
namespace Go.Proofs.Ytahibhipffojlaa.P
open Go.Proofs.YtahibhipffojlaaW.PrintWords Go.Proofs.YtahibhipffojlaaW.PrintMore Go.Proofs.Ytahibhipffojlaa.M Go.Proofs.Ytahibhipffojlaa.Topo Go.Proofs.Ytahibhipffojlaa.Nb Go.Proofs.Ytahibhipffojlaa.Label Go.Proofs.Ytahibhipffojlaa.Unite Go.Proofs.Ytahibhipffojlaa.Map Go.Proofs.Ytahibhipffojlaa.Uf Go.Proofs.Ytahibhipffojlaa.Num

/-- the dark pixels before i -/
def Vs (D : Nat → Bool) (i j : Nat) : Prop := j < i ∧ D j = true
def lab (ls : List Int) (j : Nat) : Nat := (ls.getD j 0).toNat

theorem Ph.congr {w : Nat} {S T : Nat → Prop} {la lb : Nat → Nat} {rt : List Int} {M : List (Option S38)} (h : Ph w S la rt M) (hST : ∀ j, S j ↔ T j) (hl : ∀ j, S j → la j = lb j) : Ph w T lb rt M := by
  refine ⟨h.wf, h.ml, fun j hj => ?_, h.none_, fun a ha hr => ?_, fun j hj a ha => ?_⟩
  · have := (hST j).2 hj
    rw [← hl j this]; exact h.lb j this
  · obtain ⟨b, h1, h2⟩ := h.some_ a ha hr
    refine ⟨b, h1, h2.congr fun j => ?_⟩
    constructor
    · rintro ⟨p, q⟩; exact ⟨(hST j).1 p, by rw [← hl j p]; exact q⟩
    · rintro ⟨p, q⟩
      have p' := (hST j).2 p
      exact ⟨p', by rw [hl j p']; exact q⟩
  · have p := (hST j).2 hj
    rw [← hl j p] at ha
    obtain ⟨k, k1, k2, k3⟩ := h.ord j p a ha
    exact ⟨k, k1, (hST k).1 k2, by rw [← hl k k2]; exact k3⟩

structure Inv (w n : Nat) (e : Bool) (D : Nat → Bool) (i : Nat) (ls rt : List Int) (M : List (Option S38)) : Prop where
  len : ls.length = n
  light : ∀ j, j < i → D j = false → ls.getD j 0 = -1
  dark0 : ∀ j, j < i → D j = true → 0 ≤ ls.getD j 0
  ph : Ph w (Vs D i) (lab ls) rt M
  used : ∀ a, a < rt.length → ∃ k, Vs D i k ∧ lab ls k = a
  conn : ∀ j k, Vs D i j → Vs D i k → (R rt (lab ls j) = R rt (lab ls k) ↔ Conn (Vs D i) (Adj w e) j k)

theorem getD_set_ne {ls : List Int} {i j : Nat} {x : Int} (h : j ≠ i) : (ls.set i x).getD j 0 = ls.getD j 0 := by
  rw [getD_set, if_neg (fun k => h k.1.symm)]
theorem getD_set_eq {ls : List Int} {i : Nat} {x : Int} (h : i < ls.length) : (ls.set i x).getD i 0 = x := by
  rw [getD_set, if_pos ⟨rfl, h⟩]
theorem getD_app {xs : List Int} {j : Nat} {x d : Int} : (xs ++ [x]).getD j d = if j = xs.length then x else xs.getD j d := getD_snoc
theorem R_app {rt : List Int} {c : Nat} (hc : c < rt.length) : R (rt ++ [(rt.length : Int)]) c = R rt c := by
  unfold R
  rw [getD_app, if_neg (by omega)]
theorem R_new {rt : List Int} : R (rt ++ [(rt.length : Int)]) rt.length = rt.length := by
  unfold R
  rw [getD_app, if_pos rfl, Int.toNat_natCast]

section
variable {w n : Nat} {e : Bool} {D : Nat → Bool} {i : Nat} {ls rt : List Int} {M : List (Option S38)}

theorem vs_light (hD : D i = false) (j : Nat) : Vs D i j ↔ Vs D (i + 1) j := by
  unfold Vs
  constructor
  · rintro ⟨a, b⟩; exact ⟨by omega, b⟩
  · rintro ⟨a, b⟩
    refine ⟨?_, b⟩
    rcases Nat.lt_or_ge j i with h | h
    · exact h
    · obtain rfl : j = i := by omega
      rw [hD] at b; cases b
theorem vs_dark (hD : D i = true) (j : Nat) : Vs D (i + 1) j ↔ (Vs D i j ∨ j = i) := by
  unfold Vs
  constructor
  · rintro ⟨a, b⟩
    rcases Nat.lt_or_ge j i with h | h
    · exact .inl ⟨h, b⟩
    · exact .inr (by omega)
  · rintro (⟨a, b⟩ | rfl)
    · exact ⟨by omega, b⟩
    · exact ⟨by omega, hD⟩

theorem Inv.step_light (I : Inv w n e D i ls rt M) (hD : D i = false) (hi : i < n) : Inv w n e D (i + 1) (ls.set i (-1)) rt M := by
  have hl : ∀ j, Vs D i j → lab ls j = lab (ls.set i (-1)) j := fun j hj => by unfold lab; rw [getD_set_ne (by have := hj.1; omega)]
  have hv : Vs D i = Vs D (i + 1) := funext fun j => propext (vs_light hD j)
  refine ⟨by rw [List.length_set]; exact I.len, fun j hj hd => ?_, fun j hj hd => ?_, I.ph.congr (vs_light hD) hl, fun a ha => ?_, fun j k hj hk => ?_⟩
  · by_cases h : j = i
    · subst h; exact getD_set_eq (by rw [I.len]; exact hi)
    · rw [getD_set_ne h]; exact I.light j (by omega) hd
  · have : j ≠ i := fun h => by subst h; rw [hD] at hd; cases hd
    rw [getD_set_ne this]; exact I.dark0 j (by omega) hd
  · obtain ⟨k, k1, k2⟩ := I.used a ha
    exact ⟨k, (vs_light hD k).1 k1, by rw [← hl k k1]; exact k2⟩
  · rw [← hv] at hj hk ⊢
    rw [← hl j hj, ← hl k hk]
    exact I.conn j k hj hk

/-- joined by way of a new pixel -/
theorem conn_new (hD : D i = true) (j k : Nat) : Conn (Vs D (i + 1)) (Adj w e) j k ↔
    (Conn (Vs D i) (Adj w e) j k ∨ ((j = i ∨ ∃ a, Vs D i a ∧ Adj w e a i ∧ Conn (Vs D i) (Adj w e) j a) ∧ (k = i ∨ ∃ b, Vs D i b ∧ Adj w e i b ∧ Conn (Vs D i) (Adj w e) b k))) := by
  have hp : Vs D (i + 1) i := ⟨by omega, hD⟩
  have up : ∀ {a b}, Conn (Vs D i) (Adj w e) a b → Conn (Vs D (i + 1)) (Adj w e) a b := fun h => h.mono fun x hx => (vs_dark hD x).2 (.inl hx)
  constructor
  · exact fun h => conn_more (vs_dark hD) h
  · rintro (h | ⟨h1, h2⟩)
    · exact up h
    · have c1 : Conn (Vs D (i + 1)) (Adj w e) j i := by
        rcases h1 with rfl | ⟨a, a1, a2, a3⟩
        · exact .refl hp
        · exact (up a3).trans (Conn.one ((vs_dark hD a).2 (.inl a1)) a2 hp)
      have c2 : Conn (Vs D (i + 1)) (Adj w e) i k := by
        rcases h2 with rfl | ⟨b, b1, b2, b3⟩
        · exact .refl hp
        · exact (Conn.one hp b2 ((vs_dark hD b).2 (.inl b1))).trans (up b3)
      exact c1.trans c2

theorem Inv.step_alone (I : Inv w n e D i ls rt M) (hD : D i = true) (hi : i < n) (hno : ∀ j, Vs D i j → ¬ Adj w e j i) :
    Inv w n e D (i + 1) (ls.set i (rt.length : Int)) (rt ++ [(rt.length : Int)]) (M ++ [some (own (w : Int) i)]) := by
  have hl : ∀ j, Vs D i j → lab (ls.set i (rt.length : Int)) j = lab ls j := fun j hj => by unfold lab; rw [getD_set_ne (by have := hj.1; omega)]
  have hli : lab (ls.set i (rt.length : Int)) i = rt.length := by unfold lab; rw [getD_set_eq (by rw [I.len]; exact hi), Int.toNat_natCast]
  have hlen : (rt ++ [(rt.length : Int)]).length = rt.length + 1 := by simp
  have hM : ∀ c, (M ++ [some (own (w : Int) i)]).getD c none = if c = rt.length then some (own (w : Int) i) else M.getD c none := fun c => by rw [getD_snoc, I.ph.ml]
  have lbj := I.ph.lb
  refine ⟨by rw [List.length_set]; exact I.len, fun j hj hd => ?_, fun j hj hd => ?_, ⟨⟨?_, ?_, ?_⟩, ?_, ?_, ?_, ?_, ?_⟩, ?_, ?_⟩
  · have : j ≠ i := fun h => by subst h; rw [hD] at hd; cases hd
    rw [getD_set_ne this]; exact I.light j (by omega) hd
  · by_cases h : j = i
    · subst h; rw [getD_set_eq (by rw [I.len]; exact hi)]; omega
    · rw [getD_set_ne h]; exact I.dark0 j (by omega) hd
  · intro a ha
    rw [hlen] at ha
    rw [getD_app]
    split
    · omega
    · exact I.ph.wf.lo a (by omega)
  · intro a ha
    rw [hlen] at ha
    by_cases h : a = rt.length
    · subst h; rw [R_new]; omega
    · rw [R_app (by omega)]; exact I.ph.wf.hi a (by omega)
  · intro a ha
    rw [hlen] at ha
    by_cases h : a = rt.length
    · subst h; rw [R_new, R_new]
    · have := I.ph.wf.hi a (by omega)
      rw [R_app (c := a) (by omega), R_app (c := R rt a) (by omega)]; exact I.ph.wf.idem a (by omega)
  · rw [List.length_append, hlen, I.ph.ml]; rfl
  · intro j hj
    rw [hlen]
    rcases (vs_dark hD j).1 hj with h | rfl
    · rw [hl j h]; have := lbj j h; omega
    · rw [hli]; omega
  · intro a ha hne
    rw [hlen] at ha
    by_cases h : a = rt.length
    · subst h; exact absurd R_new hne
    · rw [R_app (by omega)] at hne
      rw [hM, if_neg h]; exact I.ph.none_ a (by omega) hne
  · intro a ha heq
    rw [hlen] at ha
    by_cases h : a = rt.length
    · subst h
      refine ⟨_, by rw [hM, if_pos rfl], (Blob.own w i).congr fun j => ?_⟩
      constructor
      · rintro rfl
        exact ⟨(vs_dark hD _).2 (.inr rfl), by rw [hli]; exact R_new⟩
      · rintro ⟨p, q⟩
        rcases (vs_dark hD j).1 p with h | h
        · have l1 := lbj j h
          rw [hl j h, R_app l1] at q
          have := I.ph.wf.hi _ l1
          omega
        · exact h
    · rw [R_app (by omega)] at heq
      obtain ⟨b, h1, h2⟩ := I.ph.some_ a (by omega) heq
      refine ⟨b, by rw [hM, if_neg h]; exact h1, h2.congr fun j => ?_⟩
      constructor
      · rintro ⟨p, q⟩
        exact ⟨(vs_dark hD j).2 (.inl p), by rw [hl j p, R_app (lbj j p)]; exact q⟩
      · rintro ⟨p, q⟩
        rcases (vs_dark hD j).1 p with k | rfl
        · rw [hl j k, R_app (lbj j k)] at q
          exact ⟨k, q⟩
        · rw [hli, R_new] at q
          omega
  · intro j hj a ha
    rcases (vs_dark hD j).1 hj with h | rfl
    · rw [hl j h] at ha
      obtain ⟨k, k1, k2, k3⟩ := I.ph.ord j h a ha
      exact ⟨k, k1, (vs_dark hD k).2 (.inl k2), by rw [hl k k2]; exact k3⟩
    · rw [hli] at ha
      by_cases h : a = rt.length
      · exact ⟨j, Nat.le_refl _, hj, by rw [hli]; exact h.symm⟩
      · obtain ⟨k, k1, k2⟩ := I.used a (by omega)
        exact ⟨k, Nat.le_of_lt k1.1, (vs_dark hD k).2 (.inl k1), by rw [hl k k1]; exact k2⟩
  · intro a ha
    rw [hlen] at ha
    by_cases h : a = rt.length
    · exact ⟨i, (vs_dark hD i).2 (.inr rfl), by rw [hli]; exact h.symm⟩
    · obtain ⟨k, k1, k2⟩ := I.used a (by omega)
      exact ⟨k, (vs_dark hD k).2 (.inl k1), by rw [hl k k1]; exact k2⟩
  · intro j k hj hk
    rw [conn_new hD]
    have nob : ∀ b, Vs D i b → ¬ Adj w e i b := fun b hb h => hno b hb (Adj.symm_ _ _ _ _ h)
    rcases (vs_dark hD j).1 hj with p | rfl
    · rcases (vs_dark hD k).1 hk with q | rfl
      · rw [hl j p, hl k q, R_app (lbj j p), R_app (lbj k q), I.conn j k p q]
        constructor
        · exact Or.inl
        · rintro (h | ⟨h1 | ⟨a, a1, a2, _⟩, _⟩)
          · exact h
          · have := p.1; omega
          · exact absurd a2 (hno a a1)
      · rw [hl j p, hli, R_app (lbj j p), R_new]
        have l1 := I.ph.wf.hi _ (lbj j p)
        have l2 := lbj j p
        constructor
        · intro h; omega
        · rintro (h | ⟨h1 | ⟨a, a1, a2, _⟩, _⟩)
          · exact absurd h.right.1 (Nat.lt_irrefl _)
          · have := p.1; omega
          · exact absurd a2 (hno a a1)
    · rcases (vs_dark hD k).1 hk with q | rfl
      · rw [hl k q, hli, R_app (lbj k q), R_new]
        have l1 := I.ph.wf.hi _ (lbj k q)
        have l2 := lbj k q
        constructor
        · intro h; omega
        · rintro (h | ⟨_, h1 | ⟨b, b1, b2, _⟩⟩)
          · exact absurd h.left.1 (Nat.lt_irrefl _)
          · have := q.1; omega
          · exact absurd b2 (nob b b1)
      · constructor
        · intro _; exact .inr ⟨.inl rfl, .inl rfl⟩
        · intro _; rfl

/-- a pixel that has dark neighbours before it -/
theorem Inv.step_joined (I : Inv w n e D i ls rt M) (hD : D i = true) (hi : i < n) (hw : 0 < w) (hw2 : w ≤ 1000000) (hn : n ≤ 100000000) (hh : ∀ j, j < n → j / w < 999999) (a : Int) (os : List Int)
    (hm : ∀ x, x ∈ a :: os ↔ ∃ j, j < i ∧ D j = true ∧ Adj w e j i ∧ ls.getD j 0 = x) :
    ∃ ls' rt' M', (if 0 ≤ a ∧ a < (rt.length : Int) then
        match M.getD (rt.getD a.toNat 0).toNat none with
        | some x => if Okb x ∧ Okb (own (w : Int) i) then
            (match Label.uniteAll a.toNat os rt (M.set (rt.getD a.toNat 0).toNat (some (joinF x (own (w : Int) i)))) with
             | some s => some (ls.set i a, s.1, s.2)
             | none => none)
          else none
        | none => none
      else none) = some (ls', rt', M') ∧ Inv w n e D (i + 1) ls' rt' M' := by
  have near : ∀ x ∈ a :: os, 0 ≤ x ∧ x < rt.length ∧ ∃ q, Vs D i q ∧ Adj w e q i ∧ lab ls q = x.toNat := by
    intro x hx
    obtain ⟨q, q1, q2, q3, q4⟩ := (hm x).1 hx
    have h0 := I.dark0 q q1 q2
    have h1 := I.ph.lb q ⟨q1, q2⟩
    unfold lab at h1
    rw [q4] at h0 h1
    exact ⟨h0, by omega, q, ⟨q1, q2⟩, q3, by unfold lab; rw [q4]⟩
  obtain ⟨a0, a1, q, qv, qa, ql⟩ := near a (by simp)
  obtain ⟨an, rfl⟩ := Int.eq_ofNat_of_zero_le a0
  rw [Int.toNat_natCast] at ql ⊢
  have han : an < rt.length := by omega
  rw [if_pos ⟨a0, a1⟩, show (rt.getD an 0).toNat = R rt an from rfl]
  have hroot := I.ph.wf.idem an han
  have hrl := I.ph.wf.hi an han
  obtain ⟨x, hx, bx⟩ := I.ph.some_ (R rt an) (by omega) hroot
  have kx : Okb x := bx.okb (n := n) (fun j hj => by have := hj.1.1; omega) hw hw2 hn hh
  have ko : Okb (own (w : Int) i) := (Blob.own w i).okb (n := n) (fun j hj => by omega) hw hw2 hn hh
  rw [hx]
  dsimp only
  rw [if_pos ⟨kx, ko⟩]
  have hl : ∀ j, Vs D i j → lab (ls.set i (an : Int)) j = lab ls j := fun j hj => by unfold lab; rw [getD_set_ne (by have := hj.1; omega)]
  have hli : lab (ls.set i (an : Int)) i = an := by unfold lab; rw [getD_set_eq (by rw [I.len]; exact hi), Int.toNat_natCast]
  have hM : ∀ c, (M.set (R rt an) (some (joinF x (own (w : Int) i)))).getD c none = if c = R rt an then some (joinF x (own (w : Int) i)) else M.getD c none := by
    intro c
    rw [getD_set', I.ph.ml]
    by_cases h : R rt an = c
    · rw [if_pos ⟨h, by omega⟩, if_pos h.symm]
    · rw [if_neg (fun k => h k.1), if_neg (fun k => h k.symm)]
  have P1 : Ph w (Vs D (i + 1)) (lab (ls.set i (an : Int))) rt (M.set (R rt an) (some (joinF x (own (w : Int) i)))) := by
    refine ⟨I.ph.wf, by rw [List.length_set]; exact I.ph.ml, fun j hj => ?_, fun c hc hne => ?_, fun c hc heq => ?_, fun j hj c hc => ?_⟩
    · rcases (vs_dark hD j).1 hj with h | rfl
      · rw [hl j h]; exact I.ph.lb j h
      · rw [hli]; exact han
    · rw [hM, if_neg (fun h => hne (by rw [h]; exact hroot))]
      exact I.ph.none_ c hc hne
    · by_cases h : c = R rt an
      · subst h
        refine ⟨_, by rw [hM, if_pos rfl], (bx.join (Blob.own w i) (fun j p q => by have := p.1.1; omega) (fun j hj => ⟨q, ⟨qv, by rw [ql]⟩, by have := qv.1; omega⟩)).congr fun j => ?_⟩
        constructor
        · rintro (⟨p, q⟩ | rfl)
          · exact ⟨(vs_dark hD j).2 (.inl p), by rw [hl j p]; exact q⟩
          · exact ⟨(vs_dark hD _).2 (.inr rfl), by rw [hli]⟩
        · rintro ⟨p, q⟩
          rcases (vs_dark hD j).1 p with k | rfl
          · exact .inl ⟨k, by rw [hl j k] at q; exact q⟩
          · exact .inr rfl
      · obtain ⟨b, h1, h2⟩ := I.ph.some_ c hc heq
        refine ⟨b, by rw [hM, if_neg h]; exact h1, h2.congr fun j => ?_⟩
        constructor
        · rintro ⟨p, q⟩
          exact ⟨(vs_dark hD j).2 (.inl p), by rw [hl j p]; exact q⟩
        · rintro ⟨p, q⟩
          rcases (vs_dark hD j).1 p with k | rfl
          · exact ⟨k, by rw [hl j k] at q; exact q⟩
          · rw [hli] at q
            exact absurd q.symm h
    · rcases (vs_dark hD j).1 hj with h | rfl
      · rw [hl j h] at hc
        obtain ⟨k, k1, k2, k3⟩ := I.ph.ord j h c hc
        exact ⟨k, k1, (vs_dark hD k).2 (.inl k2), by rw [hl k k2]; exact k3⟩
      · rw [hli] at hc
        obtain ⟨k, k1, k2, k3⟩ := I.ph.ord q qv c (by rw [ql]; exact hc)
        exact ⟨k, by have := qv.1; omega, (vs_dark hD k).2 (.inl k2), by rw [hl k k2]; exact k3⟩
  obtain ⟨rt', M', hu, P2, hlen, hrel⟩ := Ph.uniteAll (n := n) (fun j hj => by have := hj.1; omega) hw hw2 hn hh an os rt _ P1 han (fun o ho => by have := near o (by simp [ho]); omega)
  rw [hu]
  refine ⟨_, _, _, rfl, by rw [List.length_set]; exact I.len, fun j hj hd => ?_, fun j hj hd => ?_, P2, fun c hc => ?_, fun j k hj hk => ?_⟩
  · have : j ≠ i := fun h => by subst h; rw [hD] at hd; cases hd
    rw [getD_set_ne this]; exact I.light j (by omega) hd
  · by_cases h : j = i
    · subst h; rw [getD_set_eq (by rw [I.len]; exact hi)]; omega
    · rw [getD_set_ne h]; exact I.dark0 j (by omega) hd
  · dsimp only at hc
    obtain ⟨k, k1, k2⟩ := I.used c (by omega)
    exact ⟨k, (vs_dark hD k).2 (.inl k1), by rw [hl k k1]; exact k2⟩
  · -- the classes
    have N : ∀ c, c < rt.length → ((R rt c = R rt an ∨ ∃ o ∈ os, R rt c = R rt o.toNat) ↔ ∃ q, Vs D i q ∧ Adj w e q i ∧ R rt c = R rt (lab ls q)) := by
      intro c hc
      constructor
      · rintro (h | ⟨o, ho, h⟩)
        · exact ⟨q, qv, qa, by rw [ql]; exact h⟩
        · obtain ⟨_, _, q', v', a', l'⟩ := near o (by simp [ho])
          exact ⟨q', v', a', by rw [l']; exact h⟩
      · rintro ⟨q', v', a', h⟩
        have hin : ls.getD q' 0 ∈ (an : Int) :: os := (hm _).2 ⟨q', v'.1, v'.2, a', rfl⟩
        rcases List.mem_cons.1 hin with h1 | h1
        · left
          have : lab ls q' = an := by unfold lab; rw [h1, Int.toNat_natCast]
          rw [← this]; exact h
        · exact .inr ⟨_, h1, h⟩
    have Nj : ∀ j, Vs D i j → ((∃ q, Vs D i q ∧ Adj w e q i ∧ R rt (lab ls j) = R rt (lab ls q)) ↔ ∃ q, Vs D i q ∧ Adj w e q i ∧ Conn (Vs D i) (Adj w e) j q) := by
      intro j hj
      constructor
      · rintro ⟨q', v', a', h⟩; exact ⟨q', v', a', (I.conn j q' hj v').1 h⟩
      · rintro ⟨q', v', a', h⟩; exact ⟨q', v', a', (I.conn j q' hj v').2 h⟩
    have sy : ∀ j, (∃ q, Vs D i q ∧ Adj w e q i ∧ Conn (Vs D i) (Adj w e) j q) ↔ (∃ b, Vs D i b ∧ Adj w e i b ∧ Conn (Vs D i) (Adj w e) b j) := by
      intro j
      constructor
      · rintro ⟨q', v', a', h⟩; exact ⟨q', v', Adj.symm_ _ _ _ _ a', h.symm (Adj.symm_ w e)⟩
      · rintro ⟨q', v', a', h⟩; exact ⟨q', v', Adj.symm_ _ _ _ _ a', h.symm (Adj.symm_ w e)⟩
    have nan : (R rt an = R rt an ∨ ∃ o ∈ os, R rt an = R rt o.toNat) := .inl rfl
    rw [conn_new hD]
    rcases (vs_dark hD j).1 hj with p | rfl
    · have lj := I.ph.lb j p
      have nj : ¬ j = i := by have := p.1; omega
      rcases (vs_dark hD k).1 hk with r | rfl
      · have lk := I.ph.lb k r
        have nk : ¬ k = i := by have := r.1; omega
        rw [hl j p, hl k r, hrel _ _ lj lk, N _ lj, N _ lk, Nj j p, Nj k r, I.conn j k p r, sy k]
        simp only [nj, nk, false_or]
      · rw [hl j p, hli, hrel _ _ lj han, N _ lj, Nj j p]
        simp only [nj, false_or, true_or, and_true, nan]
        constructor
        · rintro (h | h)
          · refine .inr ?_
            have := (N _ lj).1 (.inl h)
            exact (Nj j p).1 this
          · exact .inr h
        · rintro (h | h)
          · exact absurd h.right.1 (Nat.lt_irrefl _)
          · exact .inr h
    · rcases (vs_dark hD k).1 hk with r | rfl
      · have lk := I.ph.lb k r
        have nk : ¬ k = j := by have := r.1; omega
        rw [hl k r, hli, hrel _ _ han lk, N _ lk, Nj k r, sy k]
        simp only [nk, false_or, true_or, true_and, nan]
        constructor
        · rintro (h | h)
          · refine .inr ?_
            have := (N _ lk).1 (.inl h.symm)
            exact (sy k).1 ((Nj k r).1 this)
          · exact .inr h
        · rintro (h | h)
          · exact absurd h.left.1 (Nat.lt_irrefl _)
          · exact .inr h
      · constructor
        · intro _; exact .inr ⟨.inl rfl, .inl rfl⟩
        · intro _; rfl
end
end Go.Proofs.Ytahibhipffojlaa.P
/- What components.label returns, told once for all; and that this tells it whole. -/
set_option linter.unusedSimpArgs false
set_option linter.unusedVariables false
namespace Go.Proofs.Ytahibhipffojlaa.P
open Go.Proofs.YtahibhipffojlaaW.PrintWords Go.Proofs.YtahibhipffojlaaW.PrintMore Go.Proofs.Ytahibhipffojlaa.M Go.Proofs.Ytahibhipffojlaa.Topo Go.Proofs.Ytahibhipffojlaa.Nb Go.Proofs.Ytahibhipffojlaa.Label Go.Proofs.Ytahibhipffojlaa.Unite Go.Proofs.Ytahibhipffojlaa.Map Go.Proofs.Ytahibhipffojlaa.Uf Go.Proofs.Ytahibhipffojlaa.Num

def Dk (l : List Bool) (j : Nat) : Bool := l.getD j false

structure Spec (w : Nat) (e : Bool) (n : Nat) (D : Nat → Bool) (L : List Int) (B : List S38) : Prop where
  len : L.length = n
  light : ∀ j, j < n → D j = false → L.getD j 0 = -1
  dark : ∀ j, Vs D n j → 0 ≤ L.getD j 0 ∧ L.getD j 0 < (B.length : Int)
  conn : ∀ j k, Vs D n j → Vs D n k → (L.getD j 0 = L.getD k 0 ↔ Conn (Vs D n) (Adj w e) j k)
  blob : ∀ c, c < B.length → Blob w (fun j => Vs D n j ∧ L.getD j 0 = (c : Int)) (B.getD c z38)
  order : ∀ j, Vs D n j → ∀ c : Nat, (c : Int) < L.getD j 0 → ∃ k, k < j ∧ Vs D n k ∧ L.getD k 0 = (c : Int)

theorem Spec.unique {w n : Nat} {e : Bool} {D : Nat → Bool} {L L' : List Int} {B B' : List S38} (h : Spec w e n D L B) (h' : Spec w e n D L' B') : L = L' ∧ B = B' := by
  -- one way of the two is enough: no label is greater
  have le : ∀ {L L' : List Int} {B B' : List S38}, Spec w e n D L B → Spec w e n D L' B' → ∀ N j, j < N → Vs D n j → (∀ k, k < j → Vs D n k → L.getD k 0 = L'.getD k 0) → L.getD j 0 ≤ L'.getD j 0 := by
    intro L L' B B' h h' N j hj hv ih
    rcases Int.lt_or_le (L'.getD j 0) (L.getD j 0) with hlt | hle
    · exfalso
      have d' := h'.dark j hv
      obtain ⟨k, k1, k2, k3⟩ := h.order j hv (L'.getD j 0).toNat (by omega)
      have e1 := ih k k1 k2
      have c1 := (h'.conn k j k2 hv).1 (by omega)
      have c2 := (h.conn k j k2 hv).2 c1
      omega
    · exact hle
  have eq : ∀ N j, j < N → Vs D n j → L.getD j 0 = L'.getD j 0 := by
    intro N
    induction N with
    | zero => intro j h0; omega
    | succ N ih =>
      intro j hj hv
      have ih' : ∀ k, k < j → Vs D n k → L.getD k 0 = L'.getD k 0 := fun k hk hkv => ih k (by omega) hkv
      exact Int.le_antisymm (le h h' (j + 1) j (by omega) hv ih') (le h' h (j + 1) j (by omega) hv (fun k hk hkv => (ih' k hk hkv).symm))
  have eL : L = L' := by
    apply List.ext_getElem (by rw [h.len, h'.len])
    intro j h1 h2
    have hjn : j < n := by rw [← h.len]; exact h1
    have g : L.getD j 0 = L'.getD j 0 := by
      cases hD : D j with
      | false => rw [h.light j hjn hD, h'.light j hjn hD]
      | true => exact eq (j + 1) j (by omega) ⟨hjn, hD⟩
    rw [List.getD_eq_getElem?_getD, List.getD_eq_getElem?_getD, List.getElem?_eq_getElem h1, List.getElem?_eq_getElem h2] at g
    exact g
  subst eL
  refine ⟨rfl, ?_⟩
  have lb : ∀ {B B' : List S38}, Spec w e n D L B → Spec w e n D L B' → B.length ≤ B'.length := by
    intro B B' h h'
    rcases Nat.lt_or_ge B'.length B.length with hl | hl
    · obtain ⟨f, ⟨f1, f2⟩, _⟩ := (h.blob B'.length hl).first
      have := (h'.dark f f1).2
      omega
    · exact hl
  have hl : B.length = B'.length := Nat.le_antisymm (lb h h') (lb h' h)
  apply List.ext_getElem hl
  intro c h1 h2
  have b1 := h.blob c h1
  have b2 := h'.blob c h2
  have := b1.unique b2
  rw [List.getD_eq_getElem?_getD, List.getD_eq_getElem?_getD, List.getElem?_eq_getElem h1, List.getElem?_eq_getElem h2] at this
  exact this

section
variable {w n : Nat} {e : Bool} {D : Nat → Bool} {i : Nat} {ls rt : List Int} {M : List (Option S38)}
theorem Inv.step (I : Inv w n e D i ls rt M) (hi : i < n) (hw : 0 < w) (hw2 : w ≤ 1000000) (hn : n ≤ 100000000) (hh : ∀ j, j < n → j / w < 999999) :
    ∃ s, stepF (w : Int) e i (D i) ls rt M = some s ∧ Inv w n e D (i + 1) s.1 s.2.1 s.2.2 := by
  unfold stepF
  cases hD : D i with
  | false =>
    rw [if_neg (by simp)]
    exact ⟨_, rfl, I.step_light hD hi⟩
  | true =>
    rw [if_pos rfl]
    have hm : ∀ x, x ∈ nbF (ls.set i (-1)) (w : Int) (i : Int) e ↔ ∃ j, j < i ∧ D j = true ∧ Adj w e j i ∧ ls.getD j 0 = x := by
      intro x
      rw [nb_mem w e hw D (ls.set i (-1)) i (fun j hj => by
        rw [getD_set_ne (by omega)]
        constructor
        · intro hd; exact I.dark0 j hj hd
        · intro h0
          cases hd : D j with
          | false => have := I.light j hj hd; omega
          | true => rfl) x]
      constructor
      · rintro ⟨j, p, q, r, s⟩; exact ⟨j, p, q, r, by rw [getD_set_ne (by omega)] at s; exact s⟩
      · rintro ⟨j, p, q, r, s⟩; exact ⟨j, p, q, r, by rw [getD_set_ne (by omega)]; exact s⟩
    generalize nbF (ls.set i (-1)) (w : Int) (i : Int) e = near at hm
    cases near with
    | nil =>
      exact ⟨_, rfl, I.step_alone hD hi (fun j hj ha => by have := (hm (ls.getD j 0)).2 ⟨j, hj.1, hj.2, ha, rfl⟩; simp at this)⟩
    | cons a os =>
      obtain ⟨ls', rt', M', h1, h2⟩ := I.step_joined hD hi hw hw2 hn hh a os hm
      exact ⟨(ls', rt', M'), h1, h2⟩
theorem Inv.run (hw : 0 < w) (hw2 : w ≤ 1000000) (hn : n ≤ 100000000) (hh : ∀ j, j < n → j / w < 999999) : ∀ (ds : List Bool) (i : Nat) (ls rt : List Int) (M : List (Option S38)), Inv w n e D i ls rt M → i + ds.length = n → (∀ j, j < ds.length → D (i + j) = ds.getD j false) →
    ∃ s, runF (w : Int) e ds i ls rt M = some s ∧ Inv w n e D n s.1 s.2.1 s.2.2 := by
  intro ds
  induction ds with
  | nil =>
    intro i ls rt M I hl _
    simp at hl
    subst hl
    exact ⟨_, rfl, I⟩
  | cons d ds ih =>
    intro i ls rt M I hl hd
    rw [List.length_cons] at hl
    have h0 := hd 0 (by simp)
    rw [Nat.add_zero] at h0
    have h0' : D i = d := h0
    obtain ⟨s, s1, s2⟩ := I.step (by omega) hw hw2 hn hh
    rw [h0'] at s1
    obtain ⟨t, t1, t2⟩ := ih (i + 1) s.1 s.2.1 s.2.2 s2 (by omega) (fun j hj => by
      have := hd (j + 1) (by rw [List.length_cons]; omega)
      rw [show i + 1 + j = i + (j + 1) by omega, this]
      rfl)
    refine ⟨t, ?_, t2⟩
    unfold runF
    rw [s1]
    exact t1
theorem Inv.start : Inv w n e D 0 (List.replicate n 0) [] [] := by
  refine ⟨List.length_replicate, fun j hj => by omega, fun j hj => by omega, ⟨⟨fun a h => by simp at h, fun a h => by simp at h, fun a h => by simp at h⟩, rfl, fun j hj => by have := hj.1; omega, fun a h => by simp at h, fun a h => by simp at h, fun j hj => by have := hj.1; omega⟩, fun a h => by simp at h, fun j k hj => by have := hj.1; omega⟩

/-- the end: the numbers -/
theorem Inv.spec (I : Inv w n e D n ls rt M) : okEnd ls rt M = true ∧ Spec w e n D (ls.map (renum M rt)) (outs M) := by
  have pl := I.ph
  have get : ∀ j, j < n → (ls.map (renum M rt)).getD j 0 = renum M rt (ls.getD j 0) := by
    intro j hj
    have hj' : j < ls.length := by rw [I.len]; exact hj
    rw [List.getD_eq_getElem?_getD, List.getElem?_map, List.getElem?_eq_getElem hj', List.getD_eq_getElem?_getD, List.getElem?_eq_getElem hj']
    rfl
  have root : ∀ a, a < rt.length → (M.getD (R rt a) none).isSome = true := by
    intro a ha
    have := pl.wf.hi a ha
    obtain ⟨b, hb, _⟩ := pl.some_ (R rt a) (by omega) (pl.wf.idem a ha)
    rw [hb]; rfl
  have ren : ∀ j, Vs D n j → ∃ c : Nat, (ls.map (renum M rt)).getD j 0 = (c : Int) ∧ c < (present M).length ∧ (present M).getD c 0 = (R rt (lab ls j) : Int) := by
    intro j hj
    have l1 := pl.lb j hj
    obtain ⟨c, c1, c2, c3⟩ := rank_at (root _ l1)
    refine ⟨c, ?_, c2, c3⟩
    rw [get j hj.1]
    unfold renum
    rw [if_pos (I.dark0 j hj.1 hj.2)]
    have := pl.wf.cast l1
    unfold lab at this c1
    rw [this]
    exact c1
  have inj : ∀ c d, c < (present M).length → d < (present M).length → (present M).getD c 0 = (present M).getD d 0 → c = d := fun c d hc hd h => nodup_getD present_nodup hc hd h
  have hol : (outs M).length = (present M).length := by unfold outs; rw [List.length_map]
  have cls : ∀ c, c < (present M).length → ∃ a : Nat, (present M).getD c 0 = (a : Int) ∧ a < rt.length ∧ R rt a = a ∧ (outs M).getD c z38 = (M.getD a none).getD z38 := by
    intro c hc
    have hm : (present M).getD c 0 ∈ present M := by
      rw [List.getD_eq_getElem?_getD, List.getElem?_eq_getElem hc]
      exact List.getElem_mem hc
    obtain ⟨a, a1, a2⟩ := mem_present.1 hm
    have hal : a < rt.length := by
      rw [← pl.ml]
      rcases Nat.lt_or_ge a M.length with h | h
      · exact h
      · rw [List.getD_eq_getElem?_getD, List.getElem?_eq_none h] at a2
        cases a2
    refine ⟨a, a1, hal, ?_, ?_⟩
    · by_cases h : R rt a = a
      · exact h
      · rw [pl.none_ a hal h] at a2
        cases a2
    · unfold outs
      rw [List.getD_eq_getElem?_getD, List.getElem?_map, List.getElem?_eq_getElem hc]
      rw [List.getD_eq_getElem?_getD, List.getElem?_eq_getElem hc] at a1
      simp only [Option.getD_some] at a1
      simp only [Option.map_some, Option.getD_some, a1, Int.toNat_natCast]
  refine ⟨?_, ?_, ?_, ?_, ?_, ?_, ?_⟩
  · unfold okEnd
    rw [List.all_eq_true]
    intro x hx
    refine decide_eq_true fun h0 => ?_
    obtain ⟨j, hj, rfl⟩ := List.mem_iff_getElem.1 hx
    have hjn : j < n := by rw [← I.len]; exact hj
    have gx : ls.getD j 0 = ls[j] := by rw [List.getD_eq_getElem?_getD, List.getElem?_eq_getElem hj]; rfl
    rw [← gx] at h0 ⊢
    have hd : D j = true := by
      cases h : D j with
      | false => have := I.light j hjn h; omega
      | true => rfl
    have l1 := pl.lb j ⟨hjn, hd⟩
    have r1 := root _ l1
    unfold lab at l1 r1
    exact ⟨by omega, r1⟩
  · rw [List.length_map, I.len]
  · intro j hj hd
    rw [get j hj, I.light j hj hd]
    rfl
  · intro j hj
    obtain ⟨c, c1, c2, _⟩ := ren j hj
    rw [c1, hol]
    omega
  · intro j k hj hk
    obtain ⟨c, c1, c2, c3⟩ := ren j hj
    obtain ⟨d, d1, d2, d3⟩ := ren k hk
    rw [c1, d1, ← I.conn j k hj hk]
    constructor
    · intro h
      have : c = d := by omega
      subst this
      omega
    · intro h
      have := inj c d c2 d2 (by rw [c3, d3, h])
      omega
  · intro c hc
    rw [hol] at hc
    obtain ⟨a, a1, a2, a3, a4⟩ := cls c hc
    obtain ⟨b, b1, b2⟩ := pl.some_ a a2 a3
    rw [a4, b1]
    refine b2.congr fun j => ?_
    constructor
    · rintro ⟨p, q⟩
      obtain ⟨d, d1, d2, d3⟩ := ren j p
      refine ⟨p, ?_⟩
      rw [d1, inj d c d2 hc (by rw [d3, a1, q])]
    · rintro ⟨p, q⟩
      obtain ⟨d, d1, d2, d3⟩ := ren j p
      refine ⟨p, ?_⟩
      have : d = c := by omega
      subst this
      omega
  · intro j hj c hc
    obtain ⟨d, d1, d2, d3⟩ := ren j hj
    rw [d1] at hc
    obtain ⟨a, a1, a2, a3, _⟩ := cls c (by omega)
    have hlt : (present M).getD c 0 < (present M).getD d 0 := by
      have h := List.pairwise_iff_getElem.1 present_lt c d (by omega) d2 (by omega)
      rw [List.getD_eq_getElem?_getD, List.getElem?_eq_getElem (by omega), List.getD_eq_getElem?_getD, List.getElem?_eq_getElem d2]
      exact h
    have l1 := pl.wf.hi _ (pl.lb j hj)
    obtain ⟨k, k1, k2, k3⟩ := pl.ord j hj a (by omega)
    obtain ⟨f, f1, f2, f3⟩ := ren k k2
    have fc : f = c := inj f c f2 (by omega) (by rw [f3, a1, k3, a3])
    subst fc
    refine ⟨k, ?_, k2, f1⟩
    rcases Nat.lt_or_ge k j with h | h
    · exact h
    · obtain rfl : k = j := by omega
      omega
end

/-- components.label at a bitmap that is small enough -/
theorem label_spec (w h : Nat) (l : List Bool) (e : Bool) (hw : 0 < w) (hw2 : w ≤ 4096) (hh : 0 < h) (hh2 : h ≤ 4096) (hl : l.length = w * h) :
    ∃ L B, label.f l (w : Int) e = some (L, B) ∧ Spec w e l.length (Dk l) L B := by
  have m1 : w * h ≤ 4096 * 4096 := Nat.mul_le_mul hw2 hh2
  have hd : ∀ j, j < l.length → j / w < 999999 := by
    intro j hj
    rw [hl] at hj
    have := (Nat.div_lt_iff_lt_mul hw).2 (show j < h * w by rw [Nat.mul_comm]; exact hj)
    omega
  have hpos : 0 < w * h := Nat.mul_pos hw hh
  obtain ⟨s, s1, s2⟩ := Inv.run (w := w) (n := l.length) (e := e) (D := Dk l) hw (by omega) (by omega) hd l 0 _ [] [] Inv.start (by omega) (fun j hj => by rw [Nat.zero_add]; rfl)
  obtain ⟨t1, t2⟩ := s2.spec
  refine ⟨_, _, ?_, t2⟩
  unfold label.f
  rw [if_pos ⟨by omega, by omega, by omega, by omega⟩, s1]
  dsimp only
  rw [if_pos t1]
end Go.Proofs.Ytahibhipffojlaa.P
