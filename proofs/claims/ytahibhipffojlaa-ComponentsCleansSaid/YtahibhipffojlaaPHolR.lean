/- The specification's holes. -/
import Derived.Test.YtahibhipffojlaaPHol
import Derived.Test.YtahibhipffojlaaPRd
import Derived.Test.YtahibhipffojlaaMx13a
set_option linter.unusedSimpArgs false
set_option linter.unusedVariables false
namespace Go.Proofs.Ytahibhipffojlaa.P
open Go.RowKit Go.Proofs.YtahibhipffojlaaW.PrintWords Go.Proofs.YtahibhipffojlaaW.PrintMore Go.Proofs.Ytahibhipffojlaa.M Go.Proofs.Ytahibhipffojlaa.Topo Go.Proofs.Ytahibhipffojlaa.Uf

/-- the specification's light parts -/
theorem light_ref (w h : Nat) (l : List Bool) (hw : 0 < w) (hw2 : w ≤ 4096) (hh2 : h ≤ 4096) (hwh : l.length = w * h) {L : List Int} {B : List S38} (h5 : Spec w false l.length (fun j => !Dk l j) L B) (K : Nat) (hK : l.length * 16 + 400 ≤ K) :
    barscanref38_parts.f K (w : Int) (h : Int) l false false = some (L, B) := by
  obtain ⟨L', B', h3, h4⟩ := parts_spec (w := w) (e := false) h l false hw hw2 hh2 hwh K hK
  have h6 := h4.congrD (D' := fun j => !Dk l j) (fun j hj => by cases Dk l j <;> rfl)
  obtain ⟨rfl, rfl⟩ := h5.unique h6
  exact h3
/-- the specification's dark parts -/
theorem dark_ref (w h : Nat) (l : List Bool) (e : Bool) (hw : 0 < w) (hw2 : w ≤ 4096) (hh2 : h ≤ 4096) (hwh : l.length = w * h) {L : List Int} {B : List S38} (h5 : Spec w e l.length (Dk l) L B) (K : Nat) (hK : l.length * 16 + 400 ≤ K) :
    barscanref38_parts.f K (w : Int) (h : Int) l true e = some (L, B) := by
  obtain ⟨L', B', h3, h4⟩ := parts_spec (w := w) (e := e) h l true hw hw2 hh2 hwh K hK
  have h6 := h4.congrD (D' := Dk l) (fun j hj => by cases Dk l j <;> rfl)
  obtain ⟨rfl, rfl⟩ := h5.unique h6
  exact h3
/-- the specification's hole -/
theorem hole_f (w h : Int) (l : List Bool) (b : S38) (hb : 0 ≤ b.f0.f0 ∧ b.f0.f0 + b.f0.f2 ≤ w ∧ 0 ≤ b.f0.f1 ∧ b.f0.f1 + b.f0.f3 ≤ h ∧ 1 ≤ b.f0.f2 ∧ 1 ≤ b.f0.f3) (hw : w ≤ 4096) (hh : h ≤ 4096) :
    barscanref38_hole.f w h l b.f0.f0 b.f0.f1 b.f0.f2 b.f0.f3 = some (holeB w h b) := by
  have q1 : wrap64 (b.f0.f0 + b.f0.f2) = b.f0.f0 + b.f0.f2 := w64 (by omega)
  have q2 : wrap64 (b.f0.f1 + b.f0.f3) = b.f0.f1 + b.f0.f3 := w64 (by clear q1; omega)
  unfold barscanref38_hole.f holeB
  rw [q1, q2]
  clear q1 q2
  by_cases c1 : b.f0.f0 > 0
  · by_cases c2 : b.f0.f1 > 0
    · by_cases c3 : b.f0.f0 + b.f0.f2 < w
      · rw [if_pos c1, if_pos c2, if_pos c3]
        congr 1
        rw [decide_eq_decide]
        omega
      · rw [if_pos c1, if_pos c2, if_neg c3, decide_eq_false (by omega)]
    · rw [if_pos c1, if_neg c2, decide_eq_false (by omega)]
  · rw [if_neg c1, decide_eq_false (by omega)]
end Go.Proofs.Ytahibhipffojlaa.P
