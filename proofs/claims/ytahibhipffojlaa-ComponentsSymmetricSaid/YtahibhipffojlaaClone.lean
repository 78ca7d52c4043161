/- slices.Clone at a row of bits: the same bits, in a row of the call's own. -/
import Derived.Test.YtahibhipffojlaaMx0
import Derived.Test.YtahibhipffojlaaLabel
import Derived.Laws.EntriesVeiled
import Derived.Lib.SliceRun
set_option linter.unusedSimpArgs false
set_option linter.unusedVariables false
namespace Go.Proofs.Ytahibhipffojlaa.M
open Go.RowKit Go.Proofs.YtahibhipffojlaaW.PrintLast Go.Proofs.YtahibhipffojlaaW.PrintWords Go.Proofs.YtahibhipffojlaaW.PrintMore
def cloneB.f (l0 : List Bool) : Option (List Bool) := if l0.length ≤ 100000000 then some l0 else none
set_option maxRecDepth 100000 in
theorem cloneB.calls (A0 : Option Addr) (c0 : Nat) (l0 : List Bool) (r1 : List Bool) (w : World) (hr0 : Kd.C Kd.bool w A0 l0.length l0) (hc0 : l0.length ≤ c0) (h : cloneB.f l0 = some r1) :
    Calls Try.prog 39 #[.slice A0 l0.length c0] w fun e w' => ∃ v0_ : Value, e = .returned v0_ ∧ Kd.R Kd.bool 4 w' w.heap.size (fun _ => True) v0_ r1 ∧ Below w.heap.size w w' := by
  unfold cloneB.f at h
  split at h
  case isFalse => cases h
  rename_i hl
  injection h with h
  subst h
  have HL := Lib.hid hl
  have HR := Lib.hid hr0
  clear hl hr0
  have q22 : ∀ (w : World) (a : Option Addr) (n c n' c' : Nat), (binOp .eql 22 (.slice a n c) (.slice none n' c')).run Try.prog w = .ok (.bool a.isNone) w := fun w a n c n' c' => Lib.run_eql_slice_nil w _ _ a n c n' c' Try.underlying22
  rcases A0 with _ | ad
  · have h0 : l0 = [] := by
      rcases Nat.eq_zero_or_pos l0.length with h0 | h0
      · exact List.length_eq_zero_iff.1 h0
      · obtain ⟨ad, h, _⟩ := HR.out.2.2 h0
        cases h
    subst h0
    go_enter Try.func39, Try.ntmps39
    go_wp2_with fail
    go_ret
    exact ⟨_, rfl, Kd.R_nil _ _ _ _ _, Below.refl _ _⟩
  · generalize hn : l0.length = n at *
    go_enter Try.func39, Try.ntmps39
    have HO : Hid (Kd.R Kd.bool 4 (w.alloc (.cells #[] 4)) w.heap.size (fun _ => True) (.slice (some ⟨w.heap.size, 0, none⟩) 0 0) []) := Lib.hid (Kd.R_of_own (enc := Value.bool) (World.ownsRow_made w #[] 0 (Nat.le_refl _) (Nat.zero_le _) (by simp)) (fun _ _ => trivial))
    have HB : Hid (Below w.heap.size w (w.alloc (.cells #[] 4))) := Lib.hid ((Below.refl _ _).alloc (Nat.le_refl _) _)
    go_wp2_with (first
      | ((with_reducible refine gate_builtin (b := .append) (xs := #[.tmp 5, .tmp 6]) rfl ?_); at_builtin; refine Kd.R_append_rows Kd.bool (Rr := Kd.bool.K (w.alloc (.cells #[] 4))) (w0 := w) w.heap.size rfl (.tmp 5) (.tmp 6) 22 4 (.bool false) 1 rfl Try.underlying22 info4 rfl (by decide) (by omega) (.slice (some ⟨w.heap.size, 0, none⟩) 0 0) [] l0 (some ad) n c0 (fun _ => True) (fun _ => False) rfl rfl HO.out (Kd.C_below (hn ▸ HR.out) HB.out) (fun _ _ h => h) (fun _ h => h.elim) (fun _ _ => trivial) HB.out HB.out.size (by have := HL.out; simp; omega) ?_; intro v2 w2 ho hb hg ht; have HO2 := Lib.hid ho; have HB2 := Lib.hid hb; clear ho hb hg ht))
    go_ret
    exact ⟨_, rfl, HO2.out, HB2.out⟩
end Go.Proofs.Ytahibhipffojlaa.M
