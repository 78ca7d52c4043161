/- The parts of a picture told as places of the plane: the dark parts, and the light parts with the frame. -/
import Derived.Test.YtahibhipffojlaaPEuler
set_option linter.unusedSimpArgs false
set_option linter.unusedVariables false
namespace Go.Proofs.Ytahibhipffojlaa.P
open Go.RowKit Go.Proofs.YtahibhipffojlaaW.PrintWords Go.Proofs.YtahibhipffojlaaW.PrintMore Go.Proofs.Ytahibhipffojlaa.M Go.Proofs.Ytahibhipffojlaa.Topo

theorem Conn.map {α β : Type} {V : α → Prop} {R : α → α → Prop} {V' : β → Prop} {R' : β → β → Prop} (φ : α → β) (hV : ∀ a, V a → V' (φ a)) (hR : ∀ a b, V a → V b → R a b → R' (φ a) (φ b)) {a b : α} (h : Conn V R a b) : Conn V' R' (φ a) (φ b) := by
  induction h with
  | refl h => exact .refl (hV _ h)
  | step b c h hr hc ih => exact .step _ _ ih (hR _ _ h.right hc hr) (hV _ hc)

theorem cnt_mono (p : Nat → Bool) (a b : Nat) (h : a ≤ b) : cnt p a ≤ cnt p b := by
  induction b with
  | zero => obtain rfl : a = 0 := by omega
            exact Nat.le_refl _
  | succ b ih =>
    by_cases e : a = b + 1
    · subst e; exact Nat.le_refl _
    · have := ih (by omega)
      simp only [cnt]; omega
theorem cnt_surj (p : Nat → Bool) : ∀ N r, r < cnt p N → ∃ c, c < N ∧ p c = true ∧ cnt p c = r := by
  intro N
  induction N with
  | zero => intro r hr; simp [cnt] at hr
  | succ N ih =>
    intro r hr
    by_cases h : r < cnt p N
    · obtain ⟨c, h1, h2, h3⟩ := ih r h
      exact ⟨c, by omega, h2, h3⟩
    · simp only [cnt] at hr
      by_cases q : p N = true
      · rw [if_pos q] at hr
        exact ⟨N, by omega, q, by omega⟩
      · rw [if_neg q] at hr
        omega
theorem cnt_inj (p : Nat → Bool) (c d : Nat) (hc : p c = true) (hd : p d = true) (h : cnt p c = cnt p d) : c = d := by
  have g : ∀ c d, p c = true → c < d → cnt p c < cnt p d := by
    intro c d hc hlt
    have := cnt_mono p (c + 1) d hlt
    simp only [cnt] at this
    rw [if_pos hc] at this
    omega
  rcases Nat.lt_trichotomy c d with q | q | q
  · have := g c d hc q; omega
  · exact q
  · have := g d c hd q; omega

/-- a pixel's place; a place's pixel; the picture in the plane -/
def px (w j : Nat) : Pt := (((j % w : Nat) : Int), ((j / w : Nat) : Int))
def ix (w : Nat) (a : Pt) : Nat := w * a.2.toNat + a.1.toNat
def D2 (w h : Nat) (l : List Bool) (a : Pt) : Bool := decide (0 ≤ a.1 ∧ a.1 < (w : Int) ∧ 0 ≤ a.2 ∧ a.2 < (h : Int)) && Dk l (ix w a)
def In (w h : Nat) (a : Pt) : Prop := 0 ≤ a.1 ∧ a.1 < (w : Int) ∧ 0 ≤ a.2 ∧ a.2 < (h : Int)

section
variable {w h : Nat} {l : List Bool}
theorem ix_px (hw : 0 < w) (j : Nat) : ix w (px w j) = j := by
  unfold ix px
  simp only [Int.toNat_natCast]
  exact Nat.div_add_mod j w
theorem px_in (hw : 0 < w) (j : Nat) (hj : j < w * h) : In w h (px w j) := by
  have h1 := Nat.mod_lt j hw
  have h2 : j / w < h := (Nat.div_lt_iff_lt_mul hw).2 (by rw [Nat.mul_comm]; exact hj)
  unfold In px
  dsimp only
  generalize j % w = a at *
  generalize j / w = b at *
  omega
theorem ix_mod (a : Pt) (ha : In w h a) : ix w a % w = a.1.toNat ∧ ix w a / w = a.2.toNat := by
  unfold ix
  exact at_xy (w := w) (x := a.1.toNat) (y := a.2.toNat) (by have := ha.1; have := ha.2.1; omega)
theorem px_ix (a : Pt) (ha : In w h a) : px w (ix w a) = a := by
  obtain ⟨h1, h2⟩ := ix_mod a ha
  unfold px
  rw [h1, h2]
  exact Prod.ext (Int.toNat_of_nonneg ha.1) (Int.toNat_of_nonneg ha.2.2.1)
theorem ix_lt (a : Pt) (ha : In w h a) : ix w a < w * h := by
  unfold ix
  have h1 := ha.1; have h2 := ha.2.1; have h3 := ha.2.2.1; have h4 := ha.2.2.2
  have : w * (a.2.toNat + 1) ≤ w * h := Nat.mul_le_mul_left w (by omega)
  rw [Nat.mul_succ] at this
  omega
theorem D2_in (a : Pt) (ha : In w h a) : D2 w h l a = Dk l (ix w a) := by
  unfold D2
  rw [decide_eq_true (show 0 ≤ a.1 ∧ a.1 < (w : Int) ∧ 0 ≤ a.2 ∧ a.2 < (h : Int) from ha), Bool.true_and]
theorem D2_out (a : Pt) (ha : ¬ In w h a) : D2 w h l a = false := by
  unfold D2
  rw [decide_eq_false (show ¬ (0 ≤ a.1 ∧ a.1 < (w : Int) ∧ 0 ≤ a.2 ∧ a.2 < (h : Int)) from ha), Bool.false_and]
theorem D2_inside (a : Pt) (ha : D2 w h l a = true) : In w h a := by
  by_cases q : In w h a
  · exact q
  · rw [D2_out a q] at ha; cases ha
theorem D2_px (hw : 0 < w) (j : Nat) (hj : j < w * h) : D2 w h l (px w j) = Dk l j := by rw [D2_in _ (px_in hw j hj), ix_px hw]
theorem adj8 (j k : Nat) (h : Adj w true j k) : R8 (px w j) (px w k) := by
  obtain ⟨h1, h2, h3, h4, _⟩ := h
  unfold R8 px
  dsimp only
  generalize j % w = a at *
  generalize j / w = b at *
  generalize k % w = c at *
  generalize k / w = d at *
  omega
theorem adj4 (j k : Nat) (h : Adj w false j k) : R4 (px w j) (px w k) := by
  obtain ⟨h1, h2, h3, h4, h5⟩ := h
  have h5 : j % w = k % w ∨ j / w = k / w := by rcases h5 with h5 | h5; cases h5; exact h5
  unfold R4 px
  dsimp only
  generalize j % w = a at *
  generalize j / w = b at *
  generalize k % w = c at *
  generalize k / w = d at *
  omega
theorem r8_adj (a b : Pt) (ha : In w h a) (hb : In w h b) (h8 : R8 a b) : Adj w true (ix w a) (ix w b) := by
  obtain ⟨a1, a2⟩ := ix_mod a ha
  obtain ⟨b1, b2⟩ := ix_mod b hb
  unfold Adj
  rw [a1, a2, b1, b2]
  unfold R8 at h8
  unfold In at ha hb
  refine ⟨by omega, by omega, by omega, by omega, .inl rfl⟩
theorem r4_adj (a b : Pt) (ha : In w h a) (hb : In w h b) (h4 : R4 a b) : Adj w false (ix w a) (ix w b) := by
  obtain ⟨a1, a2⟩ := ix_mod a ha
  obtain ⟨b1, b2⟩ := ix_mod b hb
  unfold Adj
  rw [a1, a2, b1, b2]
  unfold R4 at h4
  unfold In at ha hb
  refine ⟨by omega, by omega, by omega, by omega, .inr (by omega)⟩

/-- the dark parts are as many as the blobs -/
theorem dark_parts {L : List Int} {B : List S38} (hw : 0 < w) (Sp : Spec w true (w * h) (Dk l) L B) :
    IsCount (fun a => D2 w h l a = true) (Conn (fun a => D2 w h l a = true) R8) B.length := by
  have vs : ∀ a, D2 w h l a = true → Vs (Dk l) (w * h) (ix w a) := fun a ha => ⟨ix_lt a (D2_inside a ha), by rw [← D2_in a (D2_inside a ha)]; exact ha⟩
  refine ⟨fun a => (L.getD (ix w a) 0).toNat, fun v hv => ?_, fun c hc => ?_, fun u v hu hv => ?_⟩
  · have := Sp.dark _ (vs v hv)
    dsimp only
    omega
  · obtain ⟨f, f1, _⟩ := (Sp.blob c hc).first
    refine ⟨px w f, ?_, ?_⟩
    · show D2 w h l (px w f) = true
      rw [D2_px hw f f1.1.1]; exact f1.1.2
    · dsimp only
      rw [ix_px hw, f1.2, Int.toNat_natCast]
  · have du := Sp.dark _ (vs u hu)
    have dv := Sp.dark _ (vs v hv)
    have cc := Sp.conn _ _ (vs u hu) (vs v hv)
    constructor
    · intro e
      have := Conn.map (V' := fun a => D2 w h l a = true) (R' := R8) (px w) (fun j hj => by rw [D2_px hw j hj.1]; exact hj.2) (fun j k _ _ hjk => adj8 j k hjk) (cc.1 (by dsimp only at e; omega))
      rw [px_ix u (D2_inside u hu), px_ix v (D2_inside v hv)] at this
      exact this
    · intro e
      have := Conn.map (V' := Vs (Dk l) (w * h)) (R' := Adj w true) (ix w) vs (fun a b ha hb hab => r8_adj a b (D2_inside a ha) (D2_inside b hb) hab) e
      have := cc.2 this
      dsimp only
      rw [this]

/-- the frame is one part -/
theorem frame (hw : 0 < w) (hh : 0 < h) (v : Pt) (hv : VL w h (D2 w h l) v) (ho : ¬ In w h v) : Conn (VL w h (D2 w h l)) R4 (-1, -1) v := by
  have vl : ∀ x y : Int, -1 ≤ x → x ≤ w → -1 ≤ y → y ≤ h → (x = -1 ∨ x = w ∨ y = -1 ∨ y = h) → VL w h (D2 w h l) (x, y) := fun x y h1 h2 h3 h4 h5 => ⟨h1, h2, h3, h4, D2_out _ (by unfold In; dsimp only; omega)⟩
  have top : ∀ i : Nat, (i : Int) ≤ w + 1 → Conn (VL w h (D2 w h l)) R4 (-1, -1) ((i : Int) - 1, -1) := by
    intro i
    induction i with
    | zero => intro _; exact .refl (vl _ _ (by omega) (by omega) (by omega) (by omega) (by omega))
    | succ i ih => intro hi; exact .step _ _ (ih (by omega)) (by unfold R4; dsimp only; omega) (vl _ _ (by omega) (by omega) (by omega) (by omega) (by omega))
  have left : ∀ i : Nat, (i : Int) ≤ h + 1 → Conn (VL w h (D2 w h l)) R4 (-1, -1) (-1, (i : Int) - 1) := by
    intro i
    induction i with
    | zero => intro _; exact .refl (vl _ _ (by omega) (by omega) (by omega) (by omega) (by omega))
    | succ i ih => intro hi; exact .step _ _ (ih (by omega)) (by unfold R4; dsimp only; omega) (vl _ _ (by omega) (by omega) (by omega) (by omega) (by omega))
  have right : ∀ i : Nat, (i : Int) ≤ h + 1 → Conn (VL w h (D2 w h l)) R4 (-1, -1) ((w : Int), (i : Int) - 1) := by
    intro i
    induction i with
    | zero => intro _; have := top (w + 1) (by omega); rw [show (((w + 1 : Nat) : Int) - 1) = (w : Int) from by omega] at this; exact this
    | succ i ih => intro hi; exact .step _ _ (ih (by omega)) (by unfold R4; dsimp only; omega) (vl _ _ (by omega) (by omega) (by omega) (by omega) (by omega))
  have bot : ∀ i : Nat, (i : Int) ≤ w + 1 → Conn (VL w h (D2 w h l)) R4 (-1, -1) ((i : Int) - 1, (h : Int)) := by
    intro i
    induction i with
    | zero => intro _; have := left (h + 1) (by omega); rw [show (((h + 1 : Nat) : Int) - 1) = (h : Int) from by omega] at this; exact this
    | succ i ih => intro hi; exact .step _ _ (ih (by omega)) (by unfold R4; dsimp only; omega) (vl _ _ (by omega) (by omega) (by omega) (by omega) (by omega))
  obtain ⟨v1, v2, v3, v4, _⟩ := hv
  obtain ⟨x, y⟩ := v
  dsimp only at v1 v2 v3 v4
  unfold In at ho
  dsimp only at ho
  by_cases c1 : x = -1
  · have := left (y + 1).toNat (by omega)
    rw [show (((y + 1).toNat : Int) - 1) = y from by omega] at this
    rw [c1]; exact this
  · by_cases c2 : x = w
    · have := right (y + 1).toNat (by omega)
      rw [show (((y + 1).toNat : Int) - 1) = y from by omega] at this
      rw [c2]; exact this
    · by_cases c3 : y = -1
      · have := top (x + 1).toNat (by omega)
        rw [show (((x + 1).toNat : Int) - 1) = x from by omega] at this
        rw [c3]; exact this
      · have c4 : y = h := by omega
        have := bot (x + 1).toNat (by omega)
        rw [show (((x + 1).toNat : Int) - 1) = x from by omega] at this
        rw [c4]; exact this

open Classical in
/-- the light parts with the frame are the holes and one -/
theorem light_frame {L : List Int} {B : List S38} (hw : 0 < w) (hh : 0 < h) (Sp : Spec w false (w * h) (fun j => !Dk l j) L B) :
    IsCount (VL w h (D2 w h l)) (Conn (VL w h (D2 w h l)) R4) (cnt (holeP w h B) B.length + 1) := by
  have vs : ∀ a, VL w h (D2 w h l) a → In w h a → Vs (fun j => !Dk l j) (w * h) (ix w a) := fun a ha hi => ⟨ix_lt a hi, by dsimp only; rw [← D2_in a hi, ha.2.2.2.2]; rfl⟩
  have lp : ∀ j, Vs (fun j => !Dk l j) (w * h) j → VL w h (D2 w h l) (px w j) := by
    intro j hj
    have hi := px_in hw j hj.1
    refine ⟨by have := hi.1; omega, by have := hi.2.1; omega, by have := hi.2.2.1; omega, by have := hi.2.2.2; omega, ?_⟩
    rw [D2_px hw j hj.1]
    have := hj.2
    dsimp only at this
    cases e : Dk l j
    · rfl
    · rw [e] at this; cases this
  have up : ∀ j k, Conn (Vs (fun j => !Dk l j) (w * h)) (Adj w false) j k → Conn (VL w h (D2 w h l)) R4 (px w j) (px w k) := fun j k c => Conn.map (px w) lp (fun j k _ _ hjk => adj4 j k hjk) c
  have same : ∀ u v, VL w h (D2 w h l) u → In w h u → VL w h (D2 w h l) v → In w h v → L.getD (ix w u) 0 = L.getD (ix w v) 0 → Conn (VL w h (D2 w h l)) R4 u v := by
    intro u v hu iu hv iv e
    have := up _ _ ((Sp.conn _ _ (vs u hu iu) (vs v hv iv)).1 e)
    rw [px_ix u iu, px_ix v iv] at this
    exact this
  -- what is no hole is joined to the frame
  have A : ∀ v, VL w h (D2 w h l) v → ¬ (In w h v ∧ holeP w h B (L.getD (ix w v) 0).toNat = true) → Conn (VL w h (D2 w h l)) R4 (-1, -1) v := by
    intro v hv hn
    by_cases iv : In w h v
    · have hno : ¬ holeP w h B (L.getD (ix w v) 0).toNat = true := fun q => hn ⟨iv, q⟩
      have d := Sp.dark _ (vs v hv iv)
      obtain ⟨c, hc⟩ := Int.eq_ofNat_of_zero_le d.1
      rw [hc, Int.toNat_natCast] at hno
      have hcB : c < B.length := by omega
      have hb := Sp.blob c hcB
      have bx := hb.box (n := w * h) (fun j hj => hj.1.1) hw rfl
      unfold holeP holeB at hno
      rw [decide_eq_true_eq] at hno
      -- a pixel of the part at the border, and the frame's place beside it
      have fin : ∀ j (a : Pt), (Vs (fun j => !Dk l j) (w * h) j ∧ L.getD j 0 = (c : Int)) → R4 a (px w j) → VL w h (D2 w h l) a → ¬ In w h a → Conn (VL w h (D2 w h l)) R4 (-1, -1) v := by
        intro j a hj hr ha hi
        have s := same (px w j) v (lp j hj.1) (px_in hw j hj.1.1) hv iv (by rw [ix_px hw, hj.2, hc])
        exact ((frame hw hh a ha hi).trans (Conn.one ha hr (lp j hj.1))).trans s
      have vl : ∀ x y : Int, -1 ≤ x → x ≤ w → -1 ≤ y → y ≤ h → (x = -1 ∨ x = w ∨ y = -1 ∨ y = h) → VL w h (D2 w h l) (x, y) ∧ ¬ In w h (x, y) := fun x y h1 h2 h3 h4 h5 => by
        have : ¬ In w h (x, y) := by unfold In; dsimp only; omega
        exact ⟨⟨h1, h2, h3, h4, D2_out _ this⟩, this⟩
      by_cases c1 : (B.getD c z38).f0.f0 ≤ 0
      · obtain ⟨j, j1, j2⟩ := hb.x0'
        have ij := px_in hw j j1.1.1
        unfold In px at ij
        dsimp only at ij
        obtain ⟨k1, k2⟩ := vl (-1) ((j / w : Nat) : Int) (by omega) (by omega) (by omega) (by omega) (by omega)
        refine fin j (-1, ((j / w : Nat) : Int)) j1 ?_ k1 k2
        unfold R4 px
        dsimp only
        omega
      · by_cases c2 : (B.getD c z38).f0.f1 ≤ 0
        · obtain ⟨j, j1, j2⟩ := hb.y0'
          have ij := px_in hw j j1.1.1
          unfold In px at ij
          dsimp only at ij
          obtain ⟨k1, k2⟩ := vl ((j % w : Nat) : Int) (-1) (by omega) (by omega) (by omega) (by omega) (by omega)
          refine fin j (((j % w : Nat) : Int), -1) j1 ?_ k1 k2
          unfold R4 px
          dsimp only
          omega
        · by_cases c3 : (w : Int) ≤ (B.getD c z38).f0.f0 + (B.getD c z38).f0.f2
          · obtain ⟨j, j1, j2⟩ := hb.x1'
            have ij := px_in hw j j1.1.1
            unfold In px at ij
            dsimp only at ij
            obtain ⟨k1, k2⟩ := vl (w : Int) ((j / w : Nat) : Int) (by omega) (by omega) (by omega) (by omega) (by omega)
            refine fin j ((w : Int), ((j / w : Nat) : Int)) j1 ?_ k1 k2
            unfold R4 px
            dsimp only
            omega
          · obtain ⟨j, j1, j2⟩ := hb.y1'
            have ij := px_in hw j j1.1.1
            unfold In px at ij
            dsimp only at ij
            obtain ⟨k1, k2⟩ := vl ((j % w : Nat) : Int) (h : Int) (by omega) (by omega) (by omega) (by omega) (by omega)
            refine fin j (((j % w : Nat) : Int), (h : Int)) j1 ?_ k1 k2
            unfold R4 px
            dsimp only
            omega
    · exact frame hw hh v hv iv
  -- what is joined to a hole lies in it
  have H : ∀ u v, Conn (VL w h (D2 w h l)) R4 u v → In w h u → holeP w h B (L.getD (ix w u) 0).toNat = true → In w h v ∧ L.getD (ix w v) 0 = L.getD (ix w u) 0 := by
    intro u v c iu hu
    have lu := c.left
    have d := Sp.dark _ (vs u lu iu)
    obtain ⟨e, he⟩ := Int.eq_ofNat_of_zero_le d.1
    rw [he, Int.toNat_natCast] at hu
    have heB : e < B.length := by omega
    have hb := Sp.blob e heB
    unfold holeP holeB at hu
    rw [decide_eq_true_eq] at hu
    refine c.closed (S := fun a => In w h a ∧ L.getD (ix w a) 0 = L.getD (ix w u) 0) ?_ ⟨iu, rfl⟩
    rintro a b ⟨ia, ea⟩ va vb r
    have sa : Vs (fun j => !Dk l j) (w * h) (ix w a) ∧ L.getD (ix w a) 0 = (e : Int) := ⟨vs a va ia, by rw [ea, he]⟩
    have q1 := hb.x0 _ sa
    have q2 := hb.x1 _ sa
    have q3 := hb.y0 _ sa
    have q4 := hb.y1 _ sa
    obtain ⟨m1, m2⟩ := ix_mod a ia
    rw [m1] at q1 q2
    rw [m2] at q3 q4
    have ib : In w h b := by
      unfold In at ia ⊢
      unfold R4 at r
      omega
    refine ⟨ib, ?_⟩
    rw [← ea]
    exact ((Sp.conn _ _ (vs a va ia) (vs b vb ib)).2 (Conn.one (vs a va ia) (r4_adj a b ia ib r) (vs b vb ib))).symm
  have O : VL w h (D2 w h l) (-1, -1) ∧ ¬ In w h (-1, -1) := by
    have : ¬ In w h (-1, -1) := by unfold In; dsimp only; omega
    exact ⟨⟨by dsimp only; omega, by dsimp only; omega, by dsimp only; omega, by dsimp only; omega, D2_out _ this⟩, this⟩
  refine ⟨fun a => if In w h a ∧ holeP w h B (L.getD (ix w a) 0).toNat = true then cnt (holeP w h B) (L.getD (ix w a) 0).toNat + 1 else 0, fun v hv => ?_, fun c hc => ?_, fun u v hu hv => ?_⟩
  · dsimp only
    by_cases q : In w h v ∧ holeP w h B (L.getD (ix w v) 0).toNat = true
    · rw [if_pos q]
      have d := Sp.dark _ (vs v hv q.1)
      have := cnt_mono (holeP w h B) ((L.getD (ix w v) 0).toNat + 1) B.length (by omega)
      simp only [cnt] at this
      rw [if_pos q.2] at this
      omega
    · rw [if_neg q]; omega
  · dsimp only
    rcases c with _ | r
    · exact ⟨(-1, -1), O.1, if_neg (fun q => O.2 q.1)⟩
    · obtain ⟨c, c1, c2, c3⟩ := cnt_surj (holeP w h B) B.length r (by omega)
      obtain ⟨f, f1, _⟩ := (Sp.blob c c1).first
      refine ⟨px w f, lp f f1.1, ?_⟩
      rw [ix_px hw, f1.2, Int.toNat_natCast, if_pos ⟨px_in hw f f1.1.1, c2⟩, c3]
  · dsimp only
    by_cases qu : In w h u ∧ holeP w h B (L.getD (ix w u) 0).toNat = true
    · by_cases qv : In w h v ∧ holeP w h B (L.getD (ix w v) 0).toNat = true
      · rw [if_pos qu, if_pos qv]
        have du := Sp.dark _ (vs u hu qu.1)
        have dv := Sp.dark _ (vs v hv qv.1)
        constructor
        · intro e
          have := cnt_inj _ _ _ qu.2 qv.2 (Nat.succ.inj e)
          exact same u v hu qu.1 hv qv.1 (by omega)
        · intro c
          rw [(H u v c qu.1 qu.2).2]
      · rw [if_pos qu, if_neg qv]
        constructor
        · intro e; omega
        · intro c
          obtain ⟨k1, k2⟩ := H u v c qu.1 qu.2
          exact absurd ⟨k1, by rw [k2]; exact qu.2⟩ qv
    · by_cases qv : In w h v ∧ holeP w h B (L.getD (ix w v) 0).toNat = true
      · rw [if_neg qu, if_pos qv]
        constructor
        · intro e; omega
        · intro c
          obtain ⟨k1, k2⟩ := H v u (c.symm R4.symm_) qv.1 qv.2
          exact absurd ⟨k1, by rw [k2]; exact qv.2⟩ qu
      · rw [if_neg qu, if_neg qv]
        exact ⟨fun _ => ((A u hu qu).symm R4.symm_).trans (A v hv qv), fun _ => rfl⟩
/-- Euler's number by fours of pixels -/
theorem euler_quads {L L' : List Int} {B B' : List S38} (hw : 0 < w) (hh : 0 < h) (Sp : Spec w true (w * h) (Dk l) L B) (Sp' : Spec w false (w * h) (fun j => !Dk l j) L' B') :
    4 * ((B.length : Int) - cnt (holeP w h B') B'.length) = quads w h (D2 w h l) := by
  have := euler (w := (w : Int)) (h := (h : Int)) (D := D2 w h l) (by omega) (by omega) (fun a ha => D2_inside a ha) B.length _ (dark_parts hw Sp) (light_frame hw hh Sp')
  omega
end
end Go.Proofs.Ytahibhipffojlaa.P
