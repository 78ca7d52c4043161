/- components.label gives each dark pixel the number of its component: what it computes, and the walk. -/
import Derived.Test.YtahibhipffojlaaNum
import Derived.Test.YtahibhipffojlaaNb
import Derived.Laws.EntriesVeiled
import Derived.Laws.ResultCell
import Derived.BigRegion
import Derived.Outline
set_option linter.unusedSimpArgs false
set_option linter.unusedVariables false
namespace Go.Proofs.Ytahibhipffojlaa.Label
open Go.RowKit Go.Maps Go.Proofs.YtahibhipffojlaaW.PrintLast Go.Proofs.YtahibhipffojlaaW.PrintWords Go.Proofs.YtahibhipffojlaaW.PrintMore Go.Proofs.Ytahibhipffojlaa.Walk Go.Proofs.Ytahibhipffojlaa.M Go.Proofs.Ytahibhipffojlaa.Uf Go.Proofs.Ytahibhipffojlaa.Find Go.Proofs.Ytahibhipffojlaa.Map Go.Proofs.Ytahibhipffojlaa.Unite Go.Proofs.Ytahibhipffojlaa.Num Go.Proofs.Ytahibhipffojlaa.Nb Go.Proofs.Ytahibhipffojlaa.Join

def own (ww : Int) (i : Nat) : S38 := ⟨⟨(i : Int) % ww, (i : Int) / ww, 1, 1⟩, 1, ⟨(i : Int) % ww, (i : Int) / ww⟩⟩
/-- unite a with each of a list -/
def uniteAll (a : Nat) : List Int → List Int → List (Option S38) → Option (List Int × List (Option S38))
  | [], rt, M => some (rt, M)
  | o :: os, rt, M => if 0 ≤ o then (match uniteF rt M a o.toNat with | some s => uniteAll a os s.1 s.2 | none => none) else none
/-- a pixel -/
def stepF (ww : Int) (eight : Bool) (i : Nat) (d : Bool) (ls rt : List Int) (M : List (Option S38)) : Option (List Int × List Int × List (Option S38)) :=
  if d = true then
    match nbF (ls.set i (-1)) ww i eight with
    | [] => some (ls.set i (rt.length : Int), rt ++ [(rt.length : Int)], M ++ [some (own ww i)])
    | a :: os =>
      if 0 ≤ a ∧ a < (rt.length : Int) then
        match M.getD (rt.getD a.toNat 0).toNat none with
        | some x => if Okb x ∧ Okb (own ww i) then
            (match uniteAll a.toNat os rt (M.set (rt.getD a.toNat 0).toNat (some (joinF x (own ww i)))) with
             | some s => some (ls.set i a, s.1, s.2)
             | none => none)
          else none
        | none => none
      else none
  else some (ls.set i (-1), rt, M)
/-- the pixels from i on -/
def runF (ww : Int) (eight : Bool) : List Bool → Nat → List Int → List Int → List (Option S38) → Option (List Int × List Int × List (Option S38))
  | [], _, ls, rt, M => some (ls, rt, M)
  | d :: ds, i, ls, rt, M => match stepF ww eight i d ls rt M with
    | some s => runF ww eight ds (i + 1) s.1 s.2.1 s.2.2
    | none => none
def okEnd (ls rt : List Int) (M : List (Option S38)) : Bool := ls.all fun l => decide (0 ≤ l → l < (rt.length : Int) ∧ (M.getD (rt.getD l.toNat 0).toNat none).isSome = true)
end Go.Proofs.Ytahibhipffojlaa.Label

namespace Go.Proofs.Ytahibhipffojlaa.M
open Go.Proofs.Ytahibhipffojlaa.Label Go.Proofs.Ytahibhipffojlaa.Num
def label.f (l0 : List Bool) (a1 : Int) (a2 : Bool) : Option (List Int × List S38) :=
  if 1 ≤ a1 ∧ a1 ≤ 1000000 ∧ 0 < l0.length ∧ l0.length ≤ 100000000 then
    match runF a1 a2 l0 0 (List.replicate l0.length 0) [] [] with
    | some (ls, rt, M) => if okEnd ls rt M = true then some (ls.map (renum M rt), outs M) else none
    | none => none
  else none
end Go.Proofs.Ytahibhipffojlaa.M

namespace Go.Proofs.Ytahibhipffojlaa.Label
open Go.RowKit Go.Maps Go.Proofs.YtahibhipffojlaaW.PrintLast Go.Proofs.YtahibhipffojlaaW.PrintWords Go.Proofs.YtahibhipffojlaaW.PrintMore Go.Proofs.Ytahibhipffojlaa.Walk Go.Proofs.Ytahibhipffojlaa.M Go.Proofs.Ytahibhipffojlaa.Uf Go.Proofs.Ytahibhipffojlaa.Find Go.Proofs.Ytahibhipffojlaa.Map Go.Proofs.Ytahibhipffojlaa.Unite Go.Proofs.Ytahibhipffojlaa.Num Go.Proofs.Ytahibhipffojlaa.Nb Go.Proofs.Ytahibhipffojlaa.Join

structure Lx (base : Nat) (w : World) (bp bf bb bm gl c : Nat) (p rt : List Int) (M : List (Option S38)) (pv : Value) : Prop where
  hp : w.heap[bp]? = some (.cells #[pv] 27 (0, 0))
  hf : w.heap[bf]? = some (.cells #[.func (.func 46) #[] #[.pointer (some ⟨bp, 0, none⟩), .pointer (some ⟨bf, 0, none⟩)]] 63 (0, 0))
  hb : w.heap[bb]? = some (.cells #[.map (some bm)] 66 (0, 0))
  R : Kd.R (Kd.int .i64) 3 w base (fun k => k ≠ gl) pv p
  P : Par p rt
  m : MapAt w bm c M
  ml : M.length = rt.length

section
variable {base : Nat} {w w' : World} {bp bf bb bm gl c : Nat} {p rt : List Int} {M : List (Option S38)} {pv : Value}
theorem encs_vals (p : List Int) : encs (Value.int .i64) p = vals p := rfl
theorem Lx.luw (L : Lx base w bp bf bb bm gl c p rt M pv) (h : 0 < rt.length) : ∃ g cap, pv = .slice (some ⟨g, 0, none⟩) rt.length cap ∧ g ≠ gl ∧ Luw base w bp bf bb bm g rt.length cap c p rt M := by
  have hl := L.P.len
  obtain ⟨g, cap, e, _⟩ := Kd.R_form L.R (by omega)
  rw [hl] at e
  refine ⟨g, cap, e, L.R.1 g (by rw [e]; rfl), L.P, ⟨hl, by rw [← e]; exact L.hp, L.hf, ?_⟩, L.hb, L.m, L.ml⟩
  have h := Kd.own_of_R L.R
  rw [encs_vals, hl, e] at h
  exact h
theorem Lx.of (g n cap : Nat) (hne : g ≠ gl) (L : Luw base w bp bf bb bm g n cap c p rt M) : Lx base w bp bf bb bm gl c p rt M (.slice (some ⟨g, 0, none⟩) n cap) := by
  refine ⟨L.U.hp, L.U.hf, L.hb, Kd.R_of_own (enc := Value.int .i64) (by rw [encs_vals, L.U.len]; exact L.U.own) (fun k hk => ?_), L.P, L.m, ?_⟩
  · simp only [Value.ownBlock] at hk
    injection hk with hk
    rw [← hk]; exact hne
  · rw [L.ml, ← L.P.len, L.U.len]
end

theorem _root_.Go.Proofs.Ytahibhipffojlaa.Unite.Chg.toBelow {w w' : World} {S : Nat → Prop} {B : Nat} (h : Chg w w' S) (hS : ∀ i, S i → B ≤ i) (hB : B ≤ w.heap.size) : Below B w w' :=
  ⟨h.os, h.tape, h.output, h.size, fun k hk => h.block k (by omega) (fun hs => by have := hS k hs; omega)⟩
theorem Lx.grown {base : Nat} {w w' : World} {bp bf bb bm gl c : Nat} {p rt : List Int} {M : List (Option S38)} {pv : Value} (L : Lx base w bp bf bb bm gl c p rt M pv) {cs : Array Value} (hcs : w.heap[gl]? = some (.cells cs 3 (0, 0))) (hg : w.grownBy w' (some gl)) : Lx base w' bp bf bb bm gl c p rt M pv := by
  have hx : ∀ {b : Nat} {cs' : Array Value} {t : TypeId}, w.heap[b]? = some (.cells cs' t (0, 0)) → t ≠ 3 → some b ≠ some gl := by
    intro b cs' t h ht e
    injection e with e
    subst e
    rw [hcs] at h
    injection h with h
    injection h with _ h
    exact ht h.symm
  exact ⟨(hg.block bp (blk_lt L.hp) (hx L.hp (by decide))).trans L.hp, (hg.block bf (blk_lt L.hf) (hx L.hf (by decide))).trans L.hf, (hg.block bb (blk_lt L.hb) (hx L.hb (by decide))).trans L.hb,
    Kd.R_grown L.R hg (fun k hk e => hk (by injection e)), L.P, L.m.kept hg (fun e => L.m.isCells hcs (by injection e)), L.ml⟩
theorem Lx.below {base : Nat} {w w' : World} {bp bf bb bm gl c : Nat} {p rt : List Int} {M : List (Option S38)} {pv : Value} (L : Lx base w bp bf bb bm gl c p rt M pv) (hb : Below w.heap.size w w') : Lx base w' bp bf bb bm gl c p rt M pv :=
  ⟨(hb.block bp (blk_lt L.hp)).trans L.hp, (hb.block bf (blk_lt L.hf)).trans L.hf, (hb.block bb (blk_lt L.hb)).trans L.hb, Kd.R_below L.R hb, L.P, L.m.below hb L.m.lt, L.ml⟩
theorem drop_step (l : List Bool) (i : Nat) (hi : i < l.length) {d : Bool} (h : rdOf false l (i : Int) = d) : l.drop i = d :: l.drop (i + 1) := by
  rw [List.drop_eq_getElem_cons hi]
  unfold rdOf at h
  rw [Int.toNat_natCast, List.getD_eq_getElem?_getD, List.getElem?_eq_getElem hi, Option.getD_some] at h
  rw [h]
theorem xy_bounds {a1 x y : Int} {i m : Nat} (h1 : 1 ≤ a1) (h0 : 0 ≤ (i : Int)) (hi : (i : Int) < (m : Int)) (hx : (i : Int) % a1 = x) (hy : (i : Int) / a1 = y) : 0 ≤ x ∧ x < a1 ∧ 0 ≤ y ∧ y < (m : Int) := by
  subst hx hy
  refine ⟨Int.emod_nonneg _ (by omega), Int.emod_lt_of_pos _ (by omega), Int.ediv_nonneg h0 (by omega), Int.lt_of_le_of_lt (Int.ediv_le_self _ h0) hi⟩
theorem wrap64_mid {y : Int} (h : 0 ≤ y) (h2 : y < 4611686018427387904) : wrap64 y = y := by
  unfold wrap64
  omega
theorem grown_below {w w' : World} (h : Below w.heap.size w w') : w.grownBy w' none := ⟨h.os, h.tape, h.output, h.size, fun i hi _ => h.block i hi⟩
theorem row_cell {w : World} {base gl m capl : Nat} {ls : List Int} (h : w.ownsRow base 3 1 (.slice (some ⟨gl, 0, none⟩) m capl) m (vals ls)) (hl : ls.length = m) (j : Nat) (hj : j < m) : w.cell? ⟨gl, j, none⟩ = some (.int .i64 (ls.getD j 0)) := by
  rw [h.cellAt j (by omega)]
  unfold vals
  rw [List.getElem?_map, List.getElem?_eq_getElem (by omega), List.getD_eq_getElem?_getD, List.getElem?_eq_getElem (by omega)]
  rfl
def Stop (p : Prop) : Prop := p
theorem stop_ {p : Prop} (h : Stop p) : p := h
theorem stop_go {p : Prop} (h : p) : Stop p := h
theorem own_ne_type {w : World} {b gl m capl base t : Nat} {cs : Array Value} {xs : List Value} (h : w.heap[b]? = some (.cells cs t (0, 0))) (ho : w.ownsRow base 3 1 (.slice (some ⟨gl, 0, none⟩) m capl) m xs) (ht : t ≠ 3) (e : (Value.slice (some ⟨gl, 0, none⟩) m capl).ownBlock = some b) : False := by
  obtain ⟨cs', hc⟩ := own_typed ho b e
  rw [h] at hc
  injection hc with hc
  injection hc with _ hc
  exact ht hc
theorem Lx.push {base : Nat} {w5 w6 : World} {bp bf bb bm gl c : Nat} {p rt : List Int} {M : List (Option S38)} {pv v6 : Value} (L : Lx base w5 bp bf bb bm gl c p rt M pv) (hg : w5.grownBy w6 pv.ownBlock)
    (R6 : Kd.R (Kd.int .i64) 3 w6 base (fun k => k ≠ gl) v6 (p ++ [(rt.length : Int)])) :
    MapAt (w6.setCell ⟨bp, 0, none⟩ v6) bm c M ∧ (w6.setCell ⟨bp, 0, none⟩ v6).heap[bb]? = some (.cells #[.map (some bm)] 66 (0, 0)) ∧
    ∀ w8 w9 b, Below (w6.setCell ⟨bp, 0, none⟩ v6).heap.size (w6.setCell ⟨bp, 0, none⟩ v6) w8 → MapAt w9 bm (c + 1) (M ++ [some b]) → w8.grownBy w9 (some bm) →
      Lx base w9 bp bf bb bm gl (c + 1) (p ++ [(rt.length : Int)]) (rt ++ [(rt.length : Int)]) (M ++ [some b]) v6 := by
  have hp6 := blk_grown L.hp hg (Kd.R_ne L.R L.hp (by decide))
  have hf6 := blk_grown L.hf hg (Kd.R_ne L.R L.hf (by decide))
  have hb6 := blk_grown L.hb hg (Kd.R_ne L.R L.hb (by decide))
  have m6 := L.m.kept hg (R_own_ne L.R (fun cs t e => L.m.isCells e rfl))
  have ne : ∀ {b : Nat} {cs : Array Value} {t : TypeId}, w6.heap[b]? = some (.cells cs t (0, 0)) → t ≠ 27 → b ≠ bp := by
    intro b cs t h ht e
    subst e
    rw [hp6] at h
    injection h with h
    injection h with _ h
    exact ht h.symm
  have hp7 := one_setCell (u := v6) hp6
  have hf7 := (Below.heap_setCell w6 ⟨bp, 0, none⟩ v6 bf (ne hf6 (by decide))).trans hf6
  have hb7 := (Below.heap_setCell w6 ⟨bp, 0, none⟩ v6 bb (ne hb6 (by decide))).trans hb6
  have m7 : MapAt (w6.setCell ⟨bp, 0, none⟩ v6) bm c M := m6.same (Below.heap_setCell w6 ⟨bp, 0, none⟩ v6 bm (fun e => m6.isCells hp6 e))
  have R7 : Kd.R (Kd.int .i64) 3 (w6.setCell ⟨bp, 0, none⟩ v6) base (fun k => k ≠ gl) v6 (p ++ [(rt.length : Int)]) :=
    Kd.R_mono (Kd.R_far (p := ⟨bp, 0, none⟩) (Kd.R_types R6 hp6 (by decide)) (fun _ hk => hk.2) _) (fun _ hk => hk.1)
  refine ⟨m7, hb7, fun w8 w9 b h78 m9 hg9 => ?_⟩
  have hbm : ∀ {b' : Nat} {cs : Array Value} {t : TypeId}, (w6.setCell ⟨bp, 0, none⟩ v6).heap[b']? = some (.cells cs t (0, 0)) → some b' ≠ some bm := fun h e => m7.isCells h (by injection e with e; exact e.symm)
  have mv : ∀ {b' : Nat} {cs : Array Value} {t : TypeId}, (w6.setCell ⟨bp, 0, none⟩ v6).heap[b']? = some (.cells cs t (0, 0)) → w9.heap[b']? = some (.cells cs t (0, 0)) := fun h =>
    (hg9.block _ (Nat.lt_of_lt_of_le (blk_lt h) h78.size) (hbm h)).trans ((h78.block _ (blk_lt h)).trans h)
  have R8 := Kd.R_below R7 h78
  refine ⟨mv hp7, mv hf7, mv hb7, ?_, ?_, m9, by simp [L.ml]⟩
  · exact Kd.R_mono (Kd.R_grown (Kd.R_bound R8) hg9 (fun k hk e => by
      injection e with e
      subst e
      obtain ⟨_, _, _, q, _, cells, hc⟩ := hk
      obtain ⟨nD, D, _, ho, _⟩ := m7.below h78 m7.lt
      exact ownsMap_cells ho _ _ hc)) (fun _ hk => hk.1)
  · have h := L.P.more
    rw [L.P.len] at h
    exact h
theorem own_ne_map {w : World} {b c gl m capl base : Nat} {M : List (Option S38)} {xs : List Value} (h : MapAt w b c M) (ho : w.ownsRow base 3 1 (.slice (some ⟨gl, 0, none⟩) m capl) m xs) (e : (Value.slice (some ⟨gl, 0, none⟩) m capl).ownBlock = some b) : False := by
  obtain ⟨cs', hc⟩ := own_typed ho b e
  exact h.isCells hc rfl
theorem R_cell0 {w : World} {base n cap gn : Nat} {ok : Nat → Prop} {a : Int} {os : List Int} (h : Kd.R (Kd.int .i64) 3 w base ok (.slice (some ⟨gn, 0, none⟩) n cap) (a :: os)) : w.cell? ⟨gn, 0, none⟩ = some (.int .i64 a) := by
  obtain ⟨A, c, e⟩ := Kd.R_slice h
  injection e with e1 e2 e3
  subst e2
  have h2 := (Kd.R_cell (enc := Value.int .i64) 0 h (0 : Int) (by omega) (by simp)).1
  exact h2
theorem R_cap {w : World} {base n cap gn : Nat} {ok : Nat → Prop} {a : Int} {os : List Int} (h : Kd.R (Kd.int .i64) 3 w base ok (.slice (some ⟨gn, 0, none⟩) n cap) (a :: os)) : os.length + 1 ≤ cap := by
  obtain ⟨A, c, e, hl, _⟩ := Kd.R_reads h
  injection e with e1 e2 e3
  subst e3
  rw [List.length_cons] at hl
  exact hl
theorem R_cellS {w : World} {base n cap gn : Nat} {ok : Nat → Prop} {a o : Int} {os : List Int} (h : Kd.R (Kd.int .i64) 3 w base ok (.slice (some ⟨gn, 0, none⟩) n cap) (a :: os)) (j : Nat) (hj : j < os.length) (ho : os[j] = o) : w.cell? ⟨gn, 1 + j, none⟩ = some (.int .i64 o) := by
  obtain ⟨A, c, e⟩ := Kd.R_slice h
  injection e with e1 e2 e3
  subst e2
  have h2 := (Kd.R_cell (enc := Value.int .i64) 0 h ((j + 1 : Nat) : Int) (by omega) (by simp; omega)).1
  rw [Int.toNat_natCast] at h2
  rw [Nat.add_comm 1 j, h2]
  unfold rdOf
  rw [Int.toNat_natCast, List.getD_eq_getElem?_getD, List.getElem?_cons_succ, List.getElem?_eq_getElem hj, ho]
  rfl
theorem R_chg {α : Type} {d : Kd α} {e base : Nat} {w w1 : World} {v : Value} {xs : List α} {S : Nat → Prop} (h : Kd.R d e w base (fun _ => True) v xs) (hC : Chg w w1 S) (hS : ∀ i, S i → i < base) : Kd.R d e w1 base (fun _ => True) v xs :=
  Kd.R_mono (Kd.R_move (Kd.R_bound h) (fun k hk => hC.block k hk.2.2.1 (fun s => by have := hS k s; have := hk.2.1; omega))) (fun _ _ => trivial)
theorem own_chg {w w1 : World} {base gl m capl : Nat} {xs : List Value} {S : Nat → Prop} (h : w.ownsRow base 3 1 (.slice (some ⟨gl, 0, none⟩) m capl) m xs) (hC : Chg w w1 S) (hS : ¬ S gl) : w1.ownsRow base 3 1 (.slice (some ⟨gl, 0, none⟩) m capl) m xs :=
  own_move h (fun k hk => by
    have e : gl = k := by simpa [Value.ownBlock] using hk
    subst e
    obtain ⟨cs, hcs⟩ := own_typed h gl hk
    exact hC.block gl (blk_lt hcs) hS)
theorem nb_len (ls : List Int) (ww i : Int) (e : Bool) : (nbF ls ww i e).length ≤ 4 := by
  unfold nbF
  have h1 := addF_len ls (decide (0 < i % ww)) (i - 1) []
  have h2 := addF_len ls true (i - ww) (addF ls (decide (0 < i % ww)) (i - 1) [])
  have h3 := addF_len ls (decide (0 < i % ww)) (i - ww - 1) (addF ls true (i - ww) (addF ls (decide (0 < i % ww)) (i - 1) []))
  have h4 := addF_len ls (decide (i % ww + 1 < ww)) (i - ww + 1) (addF ls (decide (0 < i % ww)) (i - ww - 1) (addF ls true (i - ww) (addF ls (decide (0 < i % ww)) (i - 1) [])))
  rw [List.length_nil] at h1
  dsimp only
  split <;> omega
theorem setup0 (W : World) : ((((W.alloc (.cells #[.slice none 0 0] 27)).alloc (.map #[] 0)).alloc (.cells #[.map (some (W.heap.size + 1))] 66)).alloc (.cells #[.nilFunc] 63)).cell? ⟨W.heap.size + 1 + 1 + 1, 0, none⟩ = some .nilFunc ∧
    ((((W.alloc (.cells #[.slice none 0 0] 27)).alloc (.map #[] 0)).alloc (.cells #[.map (some (W.heap.size + 1))] 66)).alloc (.cells #[.nilFunc] 63)).frozen? ⟨W.heap.size + 1 + 1 + 1, 0, none⟩ = false := by
  have s3 : (((W.alloc (.cells #[.slice none 0 0] 27)).alloc (.map #[] 0)).alloc (.cells #[.map (some (W.heap.size + 1))] 66)).heap.size = W.heap.size + 1 + 1 + 1 := by simp
  have n4 := heap_alloc_new (((W.alloc (.cells #[.slice none 0 0] 27)).alloc (.map #[] 0)).alloc (.cells #[.map (some (W.heap.size + 1))] 66)) (.cells #[.nilFunc] 63)
  rw [s3] at n4
  exact ⟨cell_of_one n4, blk_frozen n4 0⟩
structure Setup (W Z : World) (bp bf bb bm : Nat) (F : Value) : Prop where
  B : Below W.heap.size W Z
  hp : Z.heap[bp]? = some (.cells #[.slice none 0 0] 27 (0, 0))
  m : MapAt Z bm 0 []
  hb : Z.heap[bb]? = some (.cells #[.map (some bm)] 66 (0, 0))
  hf : Z.heap[bf]? = some (.cells #[F] 63 (0, 0))
theorem setup_ (W : World) (F : Value) : Setup W ((((W.alloc (.cells #[.slice none 0 0] 27)).alloc (.map #[] 0)).alloc (.cells #[.map (some (W.heap.size + 1))] 66)).alloc (.cells #[F] 63)) W.heap.size (W.heap.size + 1 + 1 + 1) (W.heap.size + 1 + 1) (W.heap.size + 1) F := by
  have s1 : (W.alloc (.cells #[.slice none 0 0] 27)).heap.size = W.heap.size + 1 := by simp
  have s2 : ((W.alloc (.cells #[.slice none 0 0] 27)).alloc (.map #[] 0)).heap.size = W.heap.size + 1 + 1 := by simp
  have s3 : (((W.alloc (.cells #[.slice none 0 0] 27)).alloc (.map #[] 0)).alloc (.cells #[.map (some (W.heap.size + 1))] 66)).heap.size = W.heap.size + 1 + 1 + 1 := by simp
  have n4 := heap_alloc_new (((W.alloc (.cells #[.slice none 0 0] 27)).alloc (.map #[] 0)).alloc (.cells #[.map (some (W.heap.size + 1))] 66)) (.cells #[F] 63)
  rw [s3] at n4
  have n3 := (Below.heap_alloc _ (.cells #[F] 63) _ (by omega)).trans (heap_alloc_new ((W.alloc (.cells #[.slice none 0 0] 27)).alloc (.map #[] 0)) (.cells #[.map (some (W.heap.size + 1))] 66))
  rw [s2] at n3
  refine ⟨?_, ?_, ?_, n3, n4⟩
  · exact ((((Below.refl W.heap.size W).alloc (Nat.le_refl _) _).alloc (by omega) _).alloc (by omega) _).alloc (by omega) _
  · exact (Below.heap_alloc _ _ _ (by omega)).trans ((Below.heap_alloc _ _ _ (by omega)).trans ((Below.heap_alloc _ _ _ (by omega)).trans (heap_alloc_new W _)))
  · have h := World.ownsMap_made (H := Unit) (W.alloc (.cells #[.slice none 0 0] 27)) Try.prog 3 blobR
    rw [s1] at h
    exact ⟨0, _, Nat.le_refl _, (h.alloc _).alloc _, MRel.empty⟩

set_option maxRecDepth 100000 in
set_option maxHeartbeats 1000000 in
theorem label_walk (A0 : Option Addr) (c0 : Nat) (l0 : List Bool) (a1 : Int) (a2 : Bool) (w : World) (hr0 : Kd.C Kd.bool w A0 l0.length l0) (hc0 : l0.length ≤ c0)
    (fin : List Int × List Int × List (Option S38)) (hw1 : 1 ≤ a1) (hw2 : a1 ≤ 1000000) (hl1 : 0 < l0.length) (hl2 : l0.length ≤ 100000000) (hrun : runF a1 a2 l0 0 (List.replicate l0.length 0) [] [] = some fin) (hend : okEnd fin.1 fin.2.1 fin.2.2 = true) :
    Calls Try.prog 36 #[.slice A0 l0.length c0, .int .i64 a1, .bool a2] w fun e w' => ∃ v0_ v1_ : Value, e = .returned (.tuple #[v0_, v1_]) ∧ Kd.R (Kd.int .i64) 3 w' w.heap.size (fun _ => True) v0_ (fin.1.map (renum fin.2.2 fin.2.1)) ∧
      Kd.R k38 38 w' w.heap.size (fun _ => True) v1_ (outs fin.2.2) ∧ Below w.heap.size w w' := by
  have HR0 := Lib.hid hr0
  have HRUN := Lib.hid hrun
  have HEND := Lib.hid hend
  have HL2 := Lib.hid hl2
  clear hr0 hrun hend
  have hmm := @run_makeMap Try.prog
  go_enter Try.func36, Try.ntmps36
  go_wp2_with (first | (refine Kd.R_make (Kd.int .i64) (w0 := w) w.heap.size 3 rfl (N := 24) rfl 27 _ _ rfl (l0.length : Int) rfl rfl Try.underlying27 (.int .i64 0) 8 info3 rfl (by decide) (by omega) 0 (ok := fun _ => True) (okp := fun _ => True) rfl (fun _ hk => hk) trivial (Int.natCast_nonneg _) (by rw [Int.toNat_natCast]; have := HL2.out; omega) (Below.refl _ _) (Nat.le_refl _) ?_; intro v1 w1 ho hb hg hn; have HO1 := Lib.hid ho; have HB1 := Lib.hid hb; have HN1 := Lib.hid hn; clear ho hb hg hn; have hs1 := (setup0 w1).1; have hs2 := (setup0 w1).2))
  clear hs1 hs2 hmm
  have HS := Lib.hid (setup_ w1 (.func (.func 46) #[] #[.pointer (some ⟨w1.heap.size, 0, none⟩), .pointer (some ⟨w1.heap.size + 1 + 1 + 1, 0, none⟩)]))
  generalize hZ : ((((w1.alloc (.cells #[.slice none 0 0] 27)).alloc (.map #[] 0)).alloc (.cells #[.map (some (w1.heap.size + 1))] 66)).alloc (.cells #[(.func (.func 46) #[] #[.pointer (some ⟨w1.heap.size, 0, none⟩), .pointer (some ⟨w1.heap.size + 1 + 1 + 1, 0, none⟩)])] 63)) = w2 at *
  clear hZ
  have hle := HB1.out.size
  generalize hs3 : w1.heap.size + 1 + 1 + 1 = bf at *
  generalize hs2 : w1.heap.size + 1 + 1 = bb at *
  generalize hs1 : w1.heap.size + 1 = bm at *
  obtain ⟨gl, capl, ev, hgl, hgl2, _⟩ := Kd.R_form HO1.out (by rw [List.length_replicate, Int.toNat_natCast]; exact hl1)
  rw [List.length_replicate, Int.toNat_natCast] at ev
  subst ev
  generalize hm : l0.length = m at *
  have HLX : Hid (Lx w.heap.size w2 w1.heap.size bf bb bm gl 0 [] [] [] (.slice none 0 0)) := Lib.hid ⟨HS.out.hp, HS.out.hf, HS.out.hb, Kd.R_nil _ _ _ _ _, ⟨rfl, fun a h => by simp at h, fun a h => by simp at h, fun a h => by simp at h, fun a h => by simp at h⟩, HS.out.m, rfl⟩
  have HLS : Hid (w2.ownsRow w.heap.size 3 1 (.slice (some ⟨gl, 0, none⟩) m capl) m (vals (List.replicate m 0))) := Lib.hid (by
    have h := Kd.own_of_R (Kd.R_below HO1.out HS.out.B)
    rw [List.length_replicate, Int.toNat_natCast] at h
    exact h)
  have HBW : Hid (Below w.heap.size w w2) := Lib.hid (HB1.out.trans (HS.out.B.mono hle))
  have HGL : Hid (w.heap.size ≤ gl) := Lib.hid hgl
  have HBP : Hid (w.heap.size ≤ w1.heap.size) := Lib.hid hle
  have HBM : Hid (w.heap.size ≤ bm) := Lib.hid (by omega)
  generalize w1.heap.size = bp at *
  clear HS HO1 HB1 HN1 hle hs1 hs2 hs3 hgl hgl2
  go_loopw [30] (fun u30 wr => ∃ (i c : Nat) (ls rt p : List Int) (M : List (Option S38)) (pv : Value), u30 = .int .i64 (i : Int) ∧ i ≤ m ∧ ls.length = m ∧ rt.length ≤ i ∧ c ≤ 8 * i ∧ Lx w.heap.size wr bp bf bb bm gl c p rt M pv ∧
      wr.ownsRow w.heap.size 3 1 (.slice (some ⟨gl, 0, none⟩) m capl) m (vals ls) ∧ Below w.heap.size w wr ∧ runF a1 a2 (l0.drop i) i ls rt M = some fin) (fun u30 _ => m - (intV u30).toNat)
  case atStart =>
    exact ⟨0, 0, List.replicate m 0, [], [], [], .slice none 0 0, rfl, Nat.zero_le _, List.length_replicate, Nat.le_refl _, Nat.le_refl _, HLX.out, HLS.out, HBW.out, HRUN.out⟩
  case round =>
    obtain ⟨i, c, ls, rt, p, M, pv, rfl, him, hlen, hrti, hci, hLx, hls, hbw, hru⟩ := hrel
    have HLx := Lib.hid hLx
    have HLs := Lib.hid hls
    have HB := Lib.hid hbw
    have HRU := Lib.hid hru
    have HCI := Lib.hid hci
    clear hLx hls hbw hru hci
    rcases Nat.lt_or_ge i m with hlt | hge
    · have hlt' : (i : Int) < (m : Int) := by omega
      have hi0 : (0 : Int) ≤ (i : Int) := Int.natCast_nonneg _
      obtain ⟨ad, e0, hca⟩ := Kd.at_bool (Kd.C_below HR0.out HB.out) (i : Int) hi0 hlt'
      obtain ⟨d, hd⟩ : ∃ d, rdOf false l0 (i : Int) = d := ⟨_, rfl⟩
      rw [hd, Int.toNat_natCast] at hca
      subst e0
      obtain ⟨l, hl⟩ : ∃ l, ls.getD i 0 = l := ⟨_, rfl⟩
      have hcl : wr.cell? ⟨gl, i, none⟩ = some (.int .i64 l) := by
        rw [HLs.out.cellAt i (by omega)]
        unfold vals
        rw [List.getElem?_map, List.getElem?_eq_getElem (by omega), ← hl, List.getD_eq_getElem?_getD, List.getElem?_eq_getElem (by omega)]
        rfl
      have hfz := HLs.out.frozenAt i
      have HD := Lib.hid hd
      have HL := Lib.hid hl
      clear hd hl
      cases d with
      | false =>
        go_wp2_with fail
        have hru' := HRU.out
        rw [drop_step l0 i (by omega) HD.out] at hru'
        unfold runF stepF at hru'
        rw [if_neg (by decide)] at hru'
        obtain ⟨cs, hcs⟩ : ∃ cs, wr.heap[gl]? = some (.cells cs 3 (0, 0)) := own_typed HLs.out gl rfl
        have hg := grown_set wr gl i (.int .i64 (-1))
        have st := HLs.out.stored i (.int .i64 (-1))
        rw [vals_set] at st
        exact ⟨⟨i + 1, c, ls.set i (-1), rt, p, M, pv, rfl, hlt, by rw [List.length_set]; exact hlen, by omega, by have := HCI.out; omega, HLx.out.grown hcs hg, st.1, HB.out.setCell HGL.out _, hru'⟩, meas_i hlt⟩
      | true =>
        go_wp2_with fail
        obtain ⟨cs, hcs⟩ : ∃ cs, wr.heap[gl]? = some (.cells cs 3 (0, 0)) := own_typed HLs.out gl rfl
        have hg := grown_set wr gl i (.int .i64 (-1))
        have st := HLs.out.stored i (.int .i64 (-1))
        rw [vals_set] at st
        have HLx1 := Lib.hid (HLx.out.grown hcs hg)
        have HLs1 := Lib.hid st.1
        have HB1 := Lib.hid (HB.out.setCell HGL.out (.int .i64 (-1)) : Below w.heap.size w (wr.setCell ⟨gl, i, none⟩ (.int .i64 (-1))))
        clear hcs hg st
        generalize wr.setCell ⟨gl, i, none⟩ (.int .i64 (-1)) = w1 at *
        obtain ⟨x, hx⟩ : ∃ x, (i : Int) % a1 = x := ⟨_, rfl⟩
        obtain ⟨y, hy⟩ : ∃ y, (i : Int) / a1 = y := ⟨_, rfl⟩
        have hb := xy_bounds hw1 hi0 hlt' hx hy
        have hy1 : wrap64 y = y := wrap64_mid hb.2.2.1 (by have := HL2.out; omega)
        have HXY := Lib.hid hb
        clear hb
        go_quiet (fail)
        simp only [hx, hy1]
        have hbd : Below w1.heap.size w1 (w1.drewN nq) := pw_below_drewN (Below.refl _ _) nq
        have HLx2 := Lib.hid (HLx1.out.below hbd)
        have HLs2 := Lib.hid (HLs1.out.kept (row := none) (grown_below hbd) (by simp [Value.ownBlock]))
        have HB2 := Lib.hid (HB1.out.trans (hbd.mono HB1.out.size))
        clear hbd HLx1 HLs1 HB1
        generalize w1.drewN nq = w2 at *
        have HX := Lib.hid hx
        have HY := Lib.hid hy
        clear hx hy hy1
        go_wp2_with fail
        have hsz2 : w.heap.size ≤ w2.heap.size := HB2.out.size
        have hba : Below w2.heap.size w2 (w2.alloc (.cells #[.int .i64 x, .int .i64 y, .int .i64 1, .int .i64 1, .int .i64 1, .int .i64 x, .int .i64 y] 38)) := (Below.refl _ _).alloc (Nat.le_refl _) _
        have HLx3 := Lib.hid (HLx2.out.below hba)
        have HLs3 := Lib.hid (HLs2.out.kept (row := none) (grown_below hba) (by simp [Value.ownBlock]))
        have HB3 := Lib.hid (HB2.out.trans (hba.mono HB2.out.size))
        have HO3 := Lib.hid (heap_alloc_new w2 (.cells #[.int .i64 x, .int .i64 y, .int .i64 1, .int .i64 1, .int .i64 1, .int .i64 x, .int .i64 y] 38))
        clear hba HLx2 HLs2 HB2
        generalize (w2.alloc (.cells #[.int .i64 x, .int .i64 y, .int .i64 1, .int .i64 1, .int .i64 1, .int .i64 x, .int .i64 y] 38)) = w3 at *
        generalize hbo : w2.heap.size = bo at *
        clear hbo
        have HCE : Hid (∀ j : Nat, j < m → w3.cell? ⟨gl, j, none⟩ = some (.int .i64 ((ls.set i (-1)).getD j 0))) := Lib.hid (fun j hj => row_cell HLs3.out (by rw [List.length_set]; exact hlen) j hj)
        refine (nb_any (ls.set i (-1)) a1 (i : Int) a2 w3 gl m capl (by rw [List.length_set]; exact hlen) HCE.out (by omega) hw1 hw2 hi0 hlt' HL2.out).mono ?_
        rintro e w4 ⟨vn, rfl, hR4, hb4⟩
        have HLx4 := Lib.hid (HLx3.out.below hb4)
        have HLs4 := Lib.hid (HLs3.out.kept (row := none) (grown_below hb4) (by simp [Value.ownBlock]))
        have HB4 := Lib.hid (HB3.out.trans (hb4.mono HB3.out.size))
        have HO4 := Lib.hid ((hb4.block bo (blk_lt HO3.out)).trans HO3.out)
        have hru' := HRU.out
        rw [drop_step l0 i (by omega) HD.out] at hru'
        unfold runF stepF at hru'
        rw [if_pos rfl] at hru'
        obtain ⟨near, hnear⟩ : ∃ near, nbF (ls.set i (-1)) a1 (i : Int) a2 = near := ⟨_, rfl⟩
        rw [hnear] at hR4 hru'
        obtain ⟨An, cn, en⟩ := Kd.R_slice hR4
        subst en
        have HN4 := Lib.hid hR4
        have HZ3 : Hid (gl < w3.heap.size ∧ (∀ k, pv.ownBlock = some k → k < w3.heap.size) ∧ bm < w3.heap.size) := Lib.hid ⟨(by obtain ⟨cs, h⟩ := own_typed HLs3.out gl rfl; exact blk_lt h), fun k hk => Kd.R_lt HLx3.out.R k hk, HLx3.out.m.lt⟩
        have HRU' := Lib.hid hru'
        have HNE := Lib.hid hnear
        clear hR4 hb4 hru' hnear HLx3 HLs3 HB3 HO3 HCE
        generalize w3.heap.size = bN at *
        obtain ⟨Ap, capp, ep⟩ := Kd.R_slice HLx4.out.R
        rw [HLx4.out.P.len] at ep
        cases near with
        | nil =>
          have hru := HRU'.out
          dsimp only at hru
          have HRU2 := Lib.hid hru
          clear HRU' hru
          have hcp4 : w4.cell? ⟨bp, 0, none⟩ = some (.slice Ap rt.length capp) := ep ▸ cell_of_one HLx4.out.hp
          have hcl4 : w4.cell? ⟨gl, i, none⟩ = some (.int .i64 (-1)) := by
            rw [row_cell HLs4.out (by rw [List.length_set]; exact hlen) i hlt, getD_set, if_pos ⟨rfl, by omega⟩]
          have hfz4 := HLs4.out.frozenAt i
          go_wp2_with (first | ((with_reducible refine gate_dst (N := 66) rfl ?_); refine stop_ ?_))
          clear hcp4 hcl4 hfz4
          obtain ⟨cs, hcs⟩ : ∃ cs, w4.heap[gl]? = some (.cells cs 3 (0, 0)) := own_typed HLs4.out gl rfl
          have hg := grown_set w4 gl i (.int .i64 (rt.length : Int))
          have st := HLs4.out.stored i (.int .i64 (rt.length : Int))
          rw [vals_set, List.set_set] at st
          have HLx5 := Lib.hid (HLx4.out.grown hcs hg)
          have HLs5 := Lib.hid st.1
          have HB5 := Lib.hid (HB4.out.setCell HGL.out (.int .i64 (rt.length : Int)) : Below w.heap.size w (w4.setCell ⟨gl, i, none⟩ (.int .i64 (rt.length : Int))))
          have HO5 := Lib.hid ((hg.block bo (blk_lt HO4.out) (fun e => by injection e with e; subst e; rw [HO4.out] at hcs; injection hcs with hcs; injection hcs with _ h; exact absurd h (by decide))).trans HO4.out)
          have HG5 : Hid (gl < w4.heap.size) := Lib.hid (blk_lt hcs)
          have HZ5 := Lib.hid hg.size
          clear hcs hg st HN4
          generalize w4.setCell ⟨gl, i, none⟩ (.int .i64 (rt.length : Int)) = w5 at *
          have hcp5 : w5.cell? ⟨bp, 0, none⟩ = some (.slice Ap rt.length capp) := ep ▸ cell_of_one HLx5.out.hp
          have hpl := HLx5.out.P.len
          refine stop_go ?_
          go_wp2_with (first | ((with_reducible refine gate_builtin (b := .append) (xs := #[.tmp 66, .tmp 69]) rfl ?_); at_builtin; refine Kd.R_append (Kd.int .i64) (w0 := w) w.heap.size rfl (.tmp 66) (.tmp 69) 27 3 (.int .i64 0) 8 rfl Try.underlying27 info3 rfl (by decide) (by omega) (.slice Ap rt.length capp) p (rt.length : Int) [.int .i64 (rt.length : Int)] (fun k => k ≠ gl) (fun _ => False) rfl rfl ?aP (fun _ hk => hk.elim) ?aF ?aO ?aB ?aS ?aL ?_; (case aP => exact rfl); (case aF => exact fun k hk e => by have := HG5.out; have := HZ5.out; omega); (case aO => exact ep ▸ HLx5.out.R); (case aB => exact HB5.out); (case aS => exact HB5.out.size); (case aL => have := HL2.out; omega); intro v6 w6 ho hb hg hat3; obtain ⟨A6, c6, e6⟩ := Kd.R_slice ho; rw [List.length_append, hpl, List.length_singleton] at e6; subst e6; have hbp6 := blk_grown HLx5.out.hp hg (ep ▸ Kd.R_ne HLx5.out.R HLx5.out.hp (by decide)); have HBP6 := Lib.hid hbp6; have hcp6 := cell_of_one hbp6; have hfz6 := blk_frozen hbp6 0; have HO6 := Lib.hid ho; have HB6 := Lib.hid hb; have HG6 := Lib.hid hg; clear ho hb hg hat3 hbp6))
          have HPU := Lib.hid (HLx5.out.push (by rw [ep]; exact HG6.out) HO6.out)
          have HLs7 := Lib.hid ((HLs5.out.kept HG6.out (.inr (fun e => HLx5.out.R.1 gl (by rw [ep]; exact e.symm) rfl))).kept (grown_set w6 bp 0 (.slice A6 (rt.length + 1) c6)) (.inr (fun e => own_ne_type HLx5.out.hp HLs5.out (by decide) e)))
          have HO7 := Lib.hid ((Below.heap_setCell w6 ⟨bp, 0, none⟩ (.slice A6 (rt.length + 1) c6) bo (fun e => by subst e; have h1 := HO5.out; have h2 := HLx5.out.hp; rw [h1] at h2; injection h2 with h2; injection h2 with _ h; exact absurd h (by decide))).trans (blk_grown HO5.out HG6.out (ep ▸ Kd.R_ne HLx5.out.R HO5.out (by decide))))
          have HB7 := Lib.hid (HB6.out.setCell HBP.out (.slice A6 (rt.length + 1) c6) : Below w.heap.size w (w6.setCell ⟨bp, 0, none⟩ (.slice A6 (rt.length + 1) c6)))
          clear HLs5 HO5 HB6 hcp5
          go_wp2_with fail
          clear hcp6 hfz6
          generalize w6.setCell ⟨bp, 0, none⟩ (.slice A6 (rt.length + 1) c6) = w7 at *
          have hcb7 := cell_of_one HPU.out.2.1
          have hcl7 : w7.cell? ⟨gl, i, none⟩ = some (.int .i64 (rt.length : Int)) := by
            rw [row_cell HLs7.out (by rw [List.length_set]; exact hlen) i hlt, getD_set, if_pos ⟨rfl, by omega⟩]
          obtain ⟨w9, hup, m9, hg9⟩ := HPU.out.1.drew.more_ (by have := HCI.out; omega) (by have := HLx5.out.ml; omega) (own a1 i)
          rw [HLx5.out.ml] at hup
          have eo : own a1 i = ⟨⟨x, y, 1, 1⟩, 1, ⟨x, y⟩⟩ := by unfold own; rw [HX.out, HY.out]
          rw [eo] at hup
          replace hup : (Instr.mapUpdate 66 (.map (some bm)) (.int .i64 (rt.length : Int)) (.agg #[.int .i64 x, .int .i64 y, .int .i64 1, .int .i64 1, .int .i64 1, .int .i64 x, .int .i64 y])).run Try.prog w7.drew = .ok () w9 := hup
          have HEO := Lib.hid eo
          have HM9 := Lib.hid m9
          have HG9 := Lib.hid hg9
          clear eo m9 hg9
          refine start_ (n := 7) (S := fun w' => w'.cell? ⟨bb, 0, none⟩ = some (.map (some bm)) ∧ w'.cell? ⟨gl, i, none⟩ = some (.int .i64 (rt.length : Int)) ∧ w'.cell? ⟨bo, 0, none⟩ = some (.int .i64 x) ∧ w'.cell? ⟨bo, 1, none⟩ = some (.int .i64 y) ∧ w'.cell? ⟨bo, 2, none⟩ = some (.int .i64 1) ∧ w'.cell? ⟨bo, 3, none⟩ = some (.int .i64 1) ∧ w'.cell? ⟨bo, 4, none⟩ = some (.int .i64 1) ∧ w'.cell? ⟨bo, 5, none⟩ = some (.int .i64 x) ∧ w'.cell? ⟨bo, 6, none⟩ = some (.int .i64 y)) (ds := [6]) #[false, false, false, false, false, false, false] (by kernel_rfl) rfl rfl ⟨hcb7, hcl7, (blk_cell HO7.out 0), (blk_cell HO7.out 1), (blk_cell HO7.out 2), (blk_cell HO7.out 3), (blk_cell HO7.out 4), (blk_cell HO7.out 5), (blk_cell HO7.out 6)⟩ (fun hHeld => ?_)
          refine pure_ (i := 1) (N := some 72) (v := ?_) (a' := ?_) #[false, true, false, false, false, false, false] rfl rfl (by kernel_rfl) (fun _ _ _ h => h) (Or.inl ⟨by rfl, ?_⟩) ?_ ?_
          rotate_left
          · intro w'
            go_simp
            with_reducible rfl
          rotate_left
          · simp only [Act.put, List.setIfInBounds_toArray, List.set_cons_zero, List.set_cons_succ, i64_w, i32_w]
            rfl
          refine pure_ (i := 2) (N := some 73) (v := ?_) (a' := ?_) #[false, true, true, false, false, false, false] rfl rfl (by kernel_rfl) (fun _ _ _ h => h) (Or.inl ⟨by rfl, ?_⟩) ?_ ?_
          rotate_left
          · intro w'
            go_simp
            with_reducible rfl
          rotate_left
          · simp only [Act.put, List.setIfInBounds_toArray, List.set_cons_zero, List.set_cons_succ, i64_w, i32_w]
            rfl
          refine pure_ (i := 3) (N := some 74) (v := ?_) (a' := ?_) #[false, true, true, true, false, false, false] rfl rfl (by kernel_rfl) (fun _ _ _ h => h) (Or.inl ⟨by rfl, ?_⟩) ?_ ?_
          rotate_left
          · intro w'
            go_simp
            with_reducible rfl
          rotate_left
          · simp only [Act.put, List.setIfInBounds_toArray, List.set_cons_zero, List.set_cons_succ, i64_w, i32_w]
            rfl
          refine take_ (i := 0) (N := some 71) (v := ?_) (a' := ?_) #[true, true, true, true, false, false, false] rfl rfl (by kernel_rfl) (fun _ _ _ h => h) (Or.inl ⟨by rfl, ?_⟩) hHeld ?_ ?_
          rotate_left
          · rintro w' ⟨s0, s1, s2, s3, s4, s5, s6, s7, s8⟩
            go_simp
            with_reducible rfl
          rotate_left
          · simp only [Act.put, List.setIfInBounds_toArray, List.set_cons_zero, List.set_cons_succ, i64_w, i32_w]
            rfl
          refine take_ (i := 4) (N := some 75) (v := ?_) (a' := ?_) #[true, true, true, true, true, false, false] rfl rfl (by kernel_rfl) (fun _ _ _ h => h) (Or.inl ⟨by rfl, ?_⟩) hHeld ?_ ?_
          rotate_left
          · rintro w' ⟨s0, s1, s2, s3, s4, s5, s6, s7, s8⟩
            go_simp
            with_reducible rfl
          rotate_left
          · simp only [Act.put, List.setIfInBounds_toArray, List.set_cons_zero, List.set_cons_succ, i64_w, i32_w]
            rfl
          refine take_ (i := 5) (N := some 76) (v := ?_) (a' := ?_) #[true, true, true, true, true, true, false] rfl rfl (by kernel_rfl) (fun _ _ _ h => h) (Or.inl ⟨by rfl, ?_⟩) hHeld ?_ ?_
          rotate_left
          · rintro w' ⟨s0, s1, s2, s3, s4, s5, s6, s7, s8⟩
            go_simp
            with_reducible rfl
          rotate_left
          · simp only [Act.put, List.setIfInBounds_toArray, List.set_cons_zero, List.set_cons_succ, i64_w, i32_w]
            rfl
          refine last_ (i := 6) (N := none) #[true, true, true, true, true, true, true] rfl rfl (by kernel_rfl) (by decide) (fun K hK => ?_)
          refine skip_ (w1 := ?_) (by rfl) rfl ?_ ?_
          rotate_left
          · go_simp
            rfl
          refine hK.out _ _ ?_
          clear hK K
          refine done_ (by kernel_rfl) ?_

          go_wp2_with fail
          refine ⟨⟨i + 1, c + 1, ls.set i (rt.length : Int), rt ++ [(rt.length : Int)], p ++ [(rt.length : Int)], M ++ [some (own a1 i)], .slice A6 (rt.length + 1) c6, rfl, hlt, by rw [List.length_set]; exact hlen, by rw [List.length_append, List.length_singleton]; omega, by have := HCI.out; omega,
            HPU.out.2.2 w7.drew w9 (own a1 i) (below_drew (Below.refl _ _)) HM9.out HG9.out, HLs7.out.drew.kept HG9.out (.inr (fun e => own_ne_map HPU.out.1 HLs7.out e)), (below_drew HB7.out).grown HG9.out (Nat.le_trans HB7.out.size (below_drew (Below.refl 0 _)).size) (fun j hj => by injection hj with hj; subst hj; exact HBM.out), HRU2.out⟩, meas_i hlt⟩
        | cons a os =>
          have hru := HRU'.out
          dsimp only at hru
          split at hru
          case h_2 => cases hru
          rename_i s0 hst
          split at hst
          case isFalse => cases hst
          rename_i hab
          split at hst
          case h_2 => cases hst
          rename_i x0 hx0'
          split at hst
          case isFalse => cases hst
          rename_i hok
          split at hst
          case h_2 => cases hst
          rename_i s1 hun
          injection hst with hst
          subst hst
          dsimp only at hru
          obtain ⟨an, rfl⟩ := Int.eq_ofNat_of_zero_le hab.1
          rw [Int.toNat_natCast] at hx0' hun
          have hrl : 0 < rt.length := by omega
          obtain ⟨g, cap, epv, hggl, hlu4⟩ := HLx4.out.luw hrl
          have han : an < rt.length := by omega
          have hro := roots_of hlu4.P an han
          obtain ⟨ra, hra⟩ : ∃ ra, rt.getD an 0 = ra := ⟨_, rfl⟩
          rw [hra] at hro hx0' hun
          obtain ⟨ro, rfl⟩ := Int.eq_ofNat_of_zero_le hro.1
          rw [Int.toNat_natCast] at hx0' hun
          have hox := Lib.hid hok.1
          have hoy : Hid (Okb ⟨⟨x, y, 1, 1⟩, 1, ⟨x, y⟩⟩) := Lib.hid (by have h := hok.2; unfold own at h; rw [HX.out, HY.out] at h; exact h)
          have hx0 := Lib.hid hx0'
          have eo : own a1 i = ⟨⟨x, y, 1, 1⟩, 1, ⟨x, y⟩⟩ := by unfold own; rw [HX.out, HY.out]
          rw [eo] at hun
          clear eo
          have HUN := Lib.hid hun
          have HRU2 := Lib.hid hru
          have HRA := Lib.hid hra
          have HAN := Lib.hid han
          have hro9 : Hid (ro ≤ 1000000000) := Lib.hid (by have := HL2.out; omega)
          have hroM : Hid (ro < M.length) := Lib.hid (by have := HLx4.out.ml; omega)
          have hc9 : Hid (c ≤ 1000000000) := Lib.hid (by have := HCI.out; have := HL2.out; omega)
          have HOS : Hid (os.length ≤ 3) := Lib.hid (by have := nb_len (ls.set i (-1)) a1 i a2; rw [HNE.out] at this; simp at this; omega)
          have HGN : Hid (g < bN) := Lib.hid (HZ3.out.2.1 g (by rw [epv]; rfl))
          have HGG : Hid (w.heap.size ≤ g) := Lib.hid (Kd.R_base HLx4.out.R g (by rw [epv]; rfl))
          have HLu4 := Lib.hid hlu4
          clear hru hun hx0' hok hro hra han hlu4 HRU' hab
          obtain ⟨gn, capn, en, hgn, _, _⟩ := Kd.R_form HN4.out (by simp)
          rw [List.length_cons] at en
          injection en with en1 en2 en3
          subst en1
          subst en3
          have hcn4 : w4.cell? ⟨gn, 0, none⟩ = some (.int .i64 (an : Int)) := R_cell0 HN4.out
          have hcl4 : w4.cell? ⟨gl, i, none⟩ = some (.int .i64 (-1)) := by
            rw [row_cell HLs4.out (by rw [List.length_set]; exact hlen) i hlt, getD_set, if_pos ⟨rfl, by omega⟩]
          have hfz4 := HLs4.out.frozenAt i
          have hk0 : ((((an : Int) :: os).length : Int) == 0) = false := by rw [beq_eq_false_iff_ne, List.length_cons]; omega
          go_wp2_with fail
          obtain ⟨cs, hcs⟩ : ∃ cs, w4.heap[gl]? = some (.cells cs 3 (0, 0)) := own_typed HLs4.out gl rfl
          have hg := grown_set w4 gl i (.int .i64 (an : Int))
          have st := HLs4.out.stored i (.int .i64 (an : Int))
          rw [vals_set, List.set_set] at st
          have HLu5 := Lib.hid (HLu4.out.stored_ hcs (fun e => hggl e.symm) hg)
          have HLs5 := Lib.hid st.1
          have HB5 := Lib.hid (HB4.out.setCell HGL.out (.int .i64 (an : Int)) : Below w.heap.size w (w4.setCell ⟨gl, i, none⟩ (.int .i64 (an : Int))))
          have HO5 := Lib.hid ((hg.block bo (blk_lt HO4.out) (fun e => by injection e with e; subst e; rw [HO4.out] at hcs; injection hcs with hcs; injection hcs with _ h; exact absurd h (by decide))).trans HO4.out)
          have HN5 := Lib.hid (R_old HN4.out hg HZ3.out.1)
          clear hcs hg st HN4 HLs4 HB4 HO4 HLu4 hcn4 hcl4 hfz4
          generalize w4.setCell ⟨gl, i, none⟩ (.int .i64 (an : Int)) = w5 at *
          have hcf5 := cell_of_one HLu5.out.U.hf
          have hcn5 : w5.cell? ⟨gn, 0, none⟩ = some (.int .i64 (an : Int)) := R_cell0 HN5.out
          refine start_ (n := 6) (S := fun w' => w'.cell? ⟨bf, 0, none⟩ = some (.func (.func 46) #[] #[.pointer (some ⟨bp, 0, none⟩), .pointer (some ⟨bf, 0, none⟩)]) ∧ w'.cell? ⟨gn, 0, none⟩ = some (.int .i64 (an : Int))) (ds := []) #[false, false, false, false, false, false] (by kernel_rfl) rfl rfl ⟨hcf5, hcn5⟩ (fun hHeld => ?_)
          refine pure_ (i := 1) (N := some 84) (v := ?_) (a' := ?_) #[false, true, false, false, false, false] rfl rfl (by kernel_rfl) (fun _ _ _ h => h) (Or.inl ⟨by rfl, ?_⟩) ?_ ?_
          rotate_left
          · intro w'
            go_simp
            with_reducible rfl
          rotate_left
          · simp only [Act.put, List.setIfInBounds_toArray, List.set_cons_zero, List.set_cons_succ, i64_w, i32_w]
            rfl
          refine pure_ (i := 2) (N := some 85) (v := ?_) (a' := ?_) #[false, true, true, false, false, false] rfl rfl (by kernel_rfl) (fun _ _ _ h => h) (Or.inl ⟨by rfl, ?_⟩) ?_ ?_
          rotate_left
          · intro w'
            go_simp
            with_reducible rfl
          rotate_left
          · simp only [Act.put, List.setIfInBounds_toArray, List.set_cons_zero, List.set_cons_succ, i64_w, i32_w]
            rfl
          refine take_ (i := 0) (N := some 83) (v := ?_) (a' := ?_) #[true, true, true, false, false, false] rfl rfl (by kernel_rfl) (fun _ _ _ h => h) (Or.inl ⟨by rfl, ?_⟩) hHeld ?_ ?_
          rotate_left
          · rintro w' ⟨s0, s1⟩
            go_simp
            with_reducible rfl
          rotate_left
          · simp only [Act.put, List.setIfInBounds_toArray, List.set_cons_zero, List.set_cons_succ, i64_w, i32_w]
            rfl
          refine take_ (i := 3) (N := some 86) (v := ?_) (a' := ?_) #[true, true, true, true, false, false] rfl rfl (by kernel_rfl) (fun _ _ _ h => h) (Or.inl ⟨by rfl, ?_⟩) hHeld ?_ ?_
          rotate_left
          · rintro w' ⟨s0, s1⟩
            go_simp
            with_reducible rfl
          rotate_left
          · simp only [Act.put, List.setIfInBounds_toArray, List.set_cons_zero, List.set_cons_succ, i64_w, i32_w]
            rfl
          refine one_ (i := 4) (N := some 87) #[true, true, true, true, true, false] rfl rfl (by kernel_rfl) (by decide) (fun K hK => ?_)
          refine goesV #[.pointer (some ⟨bp, 0, none⟩), .pointer (some ⟨bf, 0, none⟩)] Try.func46 (by kernel_rfl) rfl #[.int .i64 (an : Int), .pointer (some ⟨bp, 0, none⟩), .pointer (some ⟨bf, 0, none⟩)] (by rfl) rfl rfl (by rfl) (by simp only [List.map_toArray, List.map_cons, List.map_nil, List.append_toArray, List.cons_append, List.nil_append]; rfl) ?_
          with_reducible refine (HLu5.out.drew.find an HAN.out _ HRA).mono ?_
          rintro e w6 ⟨rfl, p6, hlu6, hg6⟩
          refine ⟨_, rfl, ?_⟩
          have HLu6 := Lib.hid hlu6; have HG6 := Lib.hid hg6; clear hlu6 hg6
          refine hK.out _ _ ⟨(cell_of_one HLu6.out.U.hf), (R_cell0 (R_old (Kd.R_drew HN5.out) HG6.out HGN.out))⟩ (fun hHeld => ?_)
          clear hK K
          refine norm_ (a' := ?_) ?_ ?_
          rotate_left
          · show Act.put _ (some 87) _ = _
            simp only [Act.put, List.setIfInBounds_toArray, List.set_cons_zero, List.set_cons_succ, i64_w, i32_w]
            rfl
          refine pure_ (i := 5) (N := some 19) (v := ?_) (a' := ?_) #[true, true, true, true, true, true] rfl rfl (by kernel_rfl) (fun _ _ _ h => h) (Or.inl ⟨by rfl, ?_⟩) ?_ ?_
          rotate_left
          · intro w'
            go_simp
            with_reducible rfl
          rotate_left
          · simp only [Act.put, List.setIfInBounds_toArray, List.set_cons_zero, List.set_cons_succ, i64_w, i32_w]
            rfl
          refine done_ (by kernel_rfl) ?_

          have HO6 := Lib.hid ((HG6.out.block bo (blk_lt HO5.out) (fun e => by obtain ⟨cs, hcs⟩ := HLu5.out.gcells; injection e with e; subst e; have h := HO5.out; rw [h] at hcs; injection hcs with hcs; injection hcs with _ h; exact absurd h (by decide))).trans HO5.out)
          have HN6 := Lib.hid (R_old (Kd.R_drew HN5.out) HG6.out HGN.out)
          have HLs6 := Lib.hid (HLs5.out.drew.kept HG6.out (.inr (fun e => hggl (by simp only [Value.ownBlock] at e; injection e with e; exact e.symm))))
          have HB6 := Lib.hid ((below_drew HB5.out).grown HG6.out (by exact HB5.out.size) (fun j hj => by injection hj with hj; subst hj; exact HGG.out))
          clear HO5 HN5 HLs5 HB5 hcf5 hcn5
          have hcb6 := cell_of_one HLu6.out.hb
          go_wp2_with fail
          refine start_ (n := 8) (S := fun w' => w'.cell? ⟨bb, 0, none⟩ = some (.map (some bm)) ∧ (Instr.lookup 66 (.map (some bm)) (.int .i64 (ro : Int)) false).run Try.prog w' = .ok (bval x0) w' ∧ w'.cell? ⟨bo, 0, none⟩ = some (.int .i64 x) ∧ w'.cell? ⟨bo, 1, none⟩ = some (.int .i64 y) ∧ w'.cell? ⟨bo, 2, none⟩ = some (.int .i64 1) ∧ w'.cell? ⟨bo, 3, none⟩ = some (.int .i64 1) ∧ w'.cell? ⟨bo, 4, none⟩ = some (.int .i64 1) ∧ w'.cell? ⟨bo, 5, none⟩ = some (.int .i64 x) ∧ w'.cell? ⟨bo, 6, none⟩ = some (.int .i64 y)) (ds := [7]) #[false, false, false, false, false, false, false, false] (by kernel_rfl) rfl rfl ⟨hcb6, (HLu6.out.drew.m.look ro hro9.out x0 hx0.out), (blk_cell HO6.out 0), (blk_cell HO6.out 1), (blk_cell HO6.out 2), (blk_cell HO6.out 3), (blk_cell HO6.out 4), (blk_cell HO6.out 5), (blk_cell HO6.out 6)⟩ (fun hHeld => ?_)
          refine pure_ (i := 1) (N := some 89) (v := ?_) (a' := ?_) #[false, true, false, false, false, false, false, false] rfl rfl (by kernel_rfl) (fun _ _ _ h => h) (Or.inl ⟨by rfl, ?_⟩) ?_ ?_
          rotate_left
          · intro w'
            go_simp
            with_reducible rfl
          rotate_left
          · simp only [Act.put, List.setIfInBounds_toArray, List.set_cons_zero, List.set_cons_succ, i64_w, i32_w]
            rfl
          refine pure_ (i := 3) (N := some 91) (v := ?_) (a' := ?_) #[false, true, false, true, false, false, false, false] rfl rfl (by kernel_rfl) (fun _ _ _ h => h) (Or.inl ⟨by rfl, ?_⟩) ?_ ?_
          rotate_left
          · intro w'
            go_simp
            with_reducible rfl
          rotate_left
          · simp only [Act.put, List.setIfInBounds_toArray, List.set_cons_zero, List.set_cons_succ, i64_w, i32_w]
            rfl
          refine take_ (i := 0) (N := some 88) (v := ?_) (a' := ?_) #[true, true, false, true, false, false, false, false] rfl rfl (by kernel_rfl) (fun _ _ _ h => h) (Or.inl ⟨by rfl, ?_⟩) hHeld ?_ ?_
          rotate_left
          · rintro w' ⟨s0, s1, s2, s3, s4, s5, s6, s7, s8⟩
            go_simp
            with_reducible rfl
          rotate_left
          · simp only [Act.put, List.setIfInBounds_toArray, List.set_cons_zero, List.set_cons_succ, i64_w, i32_w]
            rfl
          refine take_ (i := 2) (N := some 90) (v := ?_) (a' := ?_) #[true, true, true, true, false, false, false, false] rfl rfl (by kernel_rfl) (fun _ _ _ h => h) (Or.inl ⟨by rfl, ?_⟩) hHeld ?_ ?_
          rotate_left
          · rintro w' ⟨s0, s1, s2, s3, s4, s5, s6, s7, s8⟩
            go_simp
            with_reducible rfl
          rotate_left
          · simp only [Act.put, List.setIfInBounds_toArray, List.set_cons_zero, List.set_cons_succ, i64_w, i32_w]
            rfl
          refine take_ (i := 4) (N := some 92) (v := ?_) (a' := ?_) #[true, true, true, true, true, false, false, false] rfl rfl (by kernel_rfl) (fun _ _ _ h => h) (Or.inl ⟨by rfl, ?_⟩) hHeld ?_ ?_
          rotate_left
          · rintro w' ⟨s0, s1, s2, s3, s4, s5, s6, s7, s8⟩
            go_simp
            with_reducible rfl
          rotate_left
          · simp only [Act.put, List.setIfInBounds_toArray, List.set_cons_zero, List.set_cons_succ, i64_w, i32_w]
            rfl
          refine take_ (i := 5) (N := some 93) (v := ?_) (a' := ?_) #[true, true, true, true, true, true, false, false] rfl rfl (by kernel_rfl) (fun _ _ _ h => h) (Or.inl ⟨by rfl, ?_⟩) hHeld ?_ ?_
          rotate_left
          · rintro w' ⟨s0, s1, s2, s3, s4, s5, s6, s7, s8⟩
            go_simp
            with_reducible rfl
          rotate_left
          · simp only [Act.put, List.setIfInBounds_toArray, List.set_cons_zero, List.set_cons_succ, i64_w, i32_w]
            rfl
          refine one_ (i := 6) (N := some 94) #[true, true, true, true, true, true, true, false] rfl rfl (by kernel_rfl) (by decide) (fun K hK => ?_)
          refine goes_ Try.func48 (by kernel_rfl) rfl #[bval x0, bval ⟨⟨x, y, 1, 1⟩, 1, ⟨x, y⟩⟩] (by rfl) rfl rfl (by simp only [List.map_toArray, List.map_cons, List.map_nil]; rfl) ?_
          with_reducible refine (joined_any x0 ⟨⟨x, y, 1, 1⟩, 1, ⟨x, y⟩⟩ hox.out hoy.out _).mono ?_
          rintro e w7 ⟨rfl, hb7⟩
          refine ⟨_, rfl, ?_⟩
          have hc7 := (hb7.cell (p := ⟨bb, 0, none⟩) (blk_lt HLu6.out.hb)).trans hcb6
          have m7 := HLu6.out.drew.m.below hb7 HLu6.out.m.lt
          have HB7 := Lib.hid hb7
          obtain ⟨w8, hup, m8, hg8⟩ := m7.put_ hc9.out ro hro9.out hroM.out (joinF x0 ⟨⟨x, y, 1, 1⟩, 1, ⟨x, y⟩⟩)
          have M7 := Lib.hid m7; have M8 := Lib.hid m8; have HG8 := Lib.hid hg8; clear m7 m8 hg8 hb7
          refine hK.out _ _ ⟨hc7, (M7.out.look ro hro9.out x0 hx0.out), ((HB7.out.cell (p := ⟨bo, 0, none⟩) (blk_lt HO6.out)).trans (blk_cell HO6.out 0)), ((HB7.out.cell (p := ⟨bo, 1, none⟩) (blk_lt HO6.out)).trans (blk_cell HO6.out 1)), ((HB7.out.cell (p := ⟨bo, 2, none⟩) (blk_lt HO6.out)).trans (blk_cell HO6.out 2)), ((HB7.out.cell (p := ⟨bo, 3, none⟩) (blk_lt HO6.out)).trans (blk_cell HO6.out 3)), ((HB7.out.cell (p := ⟨bo, 4, none⟩) (blk_lt HO6.out)).trans (blk_cell HO6.out 4)), ((HB7.out.cell (p := ⟨bo, 5, none⟩) (blk_lt HO6.out)).trans (blk_cell HO6.out 5)), ((HB7.out.cell (p := ⟨bo, 6, none⟩) (blk_lt HO6.out)).trans (blk_cell HO6.out 6))⟩ (fun hHeld => ?_)
          clear hK K
          refine norm_ (a' := ?_) ?_ ?_
          rotate_left
          · show Act.put _ (some 94) _ = _
            simp only [Act.put, List.setIfInBounds_toArray, List.set_cons_zero, List.set_cons_succ, i64_w, i32_w]
            rfl
          refine last_ (i := 7) (N := none) #[true, true, true, true, true, true, true, true] rfl rfl (by kernel_rfl) (by decide) (fun K hK => ?_)
          refine skip_ (w1 := ?_) (by rfl) rfl ?_ ?_
          rotate_left
          · go_simp
            rfl
          refine hK.out _ _ ?_
          clear hK K
          refine done_ (by kernel_rfl) ?_

          have HLu8 := Lib.hid ((HLu6.out.drew.below0 HB7.out).turned HG8.out M8.out (by rw [List.length_set]; exact HLu6.out.ml))
          have hls7 := HLs6.out.drew.kept (row := none) (grown_below HB7.out) (by simp [Value.ownBlock])
          have HLs8 := Lib.hid (hls7.kept HG8.out (.inr (fun e => own_ne_map M7.out hls7 e)))
          have HB8 := Lib.hid ((((below_drew HB6.out).trans (HB7.out.mono HB6.out.size)) : Below w.heap.size w w7).grown HG8.out (Nat.le_trans HB6.out.size HB7.out.size) (fun j hj => by injection hj with hj; subst hj; exact HBM.out))
          have HN8 := Lib.hid (R_old (Kd.R_below (Kd.R_drew HN6.out) HB7.out) HG8.out HZ3.out.2.2)
          clear HLs6 HB6 HN6 HO6 hls7 hcb6 hc7 M8 HG8 hup M7 HB7 HLu6
          have hosc : os.length + 1 ≤ cn := R_cap HN8.out
          go_wp2_with fail
          · obtain rfl : os = [] := List.length_eq_zero_iff.1 (by omega)
            refine wp_loop_rounds 1 ?_
            rw [rounds_succ]
            go_wp2_with fail
            have h := HUN.out
            unfold uniteAll at h
            injection h with h
            subst h
            exact ⟨⟨i + 1, c + 1, ls.set i (an : Int), rt, p6, _, _, rfl, hlt, by rw [List.length_set]; exact hlen, by omega, by have := HCI.out; omega, Lx.of g rt.length cap hggl HLu8.out, HLs8.out, HB8.out, HRU2.out⟩, meas_i hlt⟩
          · go_loopw [98] (fun u98 wr => ∃ (j cj : Nat) (pj rtj : List Int) (Mj : List (Option S38)), u98 = .int .i64 (j : Int) ∧ j ≤ os.length ∧ cj ≤ c + 1 + j ∧ Luw w.heap.size wr bp bf bb bm g rt.length cap cj pj rtj Mj ∧
              wr.ownsRow w.heap.size 3 1 (.slice (some ⟨gl, 0, none⟩) m capl) m (vals (ls.set i (an : Int))) ∧ Kd.R (Kd.int .i64) 3 wr bN (fun _ => True) (.slice (some ⟨gn, 0, none⟩) (os.length + 1) cn) ((an : Int) :: os) ∧ Below w.heap.size w wr ∧ uniteAll an (os.drop j) rtj Mj = some s1) (fun u98 _ => os.length - (intV u98).toNat)
            case atStart =>
              exact ⟨0, c + 1, p6, rt, _, rfl, Nat.zero_le _, Nat.le_refl _, HLu8.out, HLs8.out, HN8.out, HB8.out, HUN.out⟩
            case round =>
              obtain ⟨j, cj, pj, rtj, Mj, rfl, hjl, hcj, hLj, hlsj, hNj, hBj, huj⟩ := hrel
              have HLj := Lib.hid hLj
              have HLsj := Lib.hid hlsj
              have HNj := Lib.hid hNj
              have HBj := Lib.hid hBj
              have HUj := Lib.hid huj
              have HCj := Lib.hid hcj
              clear hLj hlsj hNj hBj huj hcj
              rcases Nat.lt_or_ge j os.length with hjt | hjg
              · have hjt' : (j : Int) < (os.length : Int) := by omega
                have hj0 : (0 : Int) ≤ (j : Int) := Int.natCast_nonneg _
                have hu := HUj.out
                rw [List.drop_eq_getElem_cons hjt] at hu
                obtain ⟨o, ho⟩ : ∃ o, os[j] = o := ⟨_, rfl⟩
                rw [ho] at hu
                unfold uniteAll at hu
                split at hu
                case isFalse => cases hu
                rename_i ho0
                split at hu
                case h_2 => cases hu
                rename_i s' hs'
                obtain ⟨ob, rfl⟩ := Int.eq_ofNat_of_zero_le ho0
                rw [Int.toNat_natCast] at hs'
                have hcg0 : wr.cell? ⟨gn, 0, none⟩ = some (.int .i64 (an : Int)) := R_cell0 HNj.out
                have hcg1 : wr.cell? ⟨gn, 1 + j, none⟩ = some (.int .i64 (ob : Int)) := R_cellS HNj.out j hjt ho
                have HU' := Lib.hid hu
                have HS' := Lib.hid hs'
                clear hu hs' ho
                go_wp2_with fail
                refine (unite_any an ob s'.1 s'.2 HS'.out (by omega) (by have := HCj.out; have := HOS.out; have := HCI.out; omega) HLj.out).mono ?_
                rintro e w' ⟨rfl, p', hL', hC'⟩
                have HL' := Lib.hid hL'
                have HC' := Lib.hid hC'
                clear hL' hC'
                go_wp2_with fail
                rw [step_i (show j < 1000000000 by have := HOS.out; omega)]
                refine ⟨⟨j + 1, cj + 1, p', s'.1, s'.2, rfl, hjt, by have := HCj.out; omega, HL'.out, ?_, R_chg HNj.out HC'.out (fun k hk => by have := HGN.out; have := HZ3.out.2.2; rcases hk with rfl | rfl <;> omega), HBj.out.trans (HC'.out.toBelow (fun k hk => by have := HGG.out; have := HBM.out; rcases hk with rfl | rfl <;> omega) HBj.out.size), HU'.out⟩, meas_i hjt⟩
                exact own_chg HLsj.out HC'.out (fun hk => by
                  rcases hk with rfl | rfl
                  · exact hggl rfl
                  · exact own_ne_map HLj.out.m HLsj.out rfl)
              · have hjt' : ¬ (j : Int) < (os.length : Int) := by omega
                go_wp2_with fail
                have h := HUj.out
                rw [List.drop_eq_nil_of_le (by omega)] at h
                unfold uniteAll at h
                injection h with h
                subst h
                have hrj : rtj.length = rt.length := by rw [← HLj.out.P.len, HLj.out.U.len]
                exact ⟨⟨i + 1, cj, ls.set i (an : Int), rtj, pj, Mj, _, rfl, hlt, by rw [List.length_set]; exact hlen, by omega, by have := HCI.out; have := HCj.out; have := HOS.out; omega, Lx.of g rt.length cap hggl HLj.out, HLsj.out, HBj.out, HRU2.out⟩, meas_i hlt⟩
    · have hlt' : ¬ (i : Int) < (m : Int) := by omega
      have hc1 := cell_of_one HLx.out.hb
      have hc2 := cell_of_one HLx.out.hf
      have efin : some (ls, rt, M) = some fin := by
        have h := HRU.out
        rw [List.drop_eq_nil_of_le (by omega)] at h
        unfold runF at h
        exact h
      have hend := HEND.out
      injection efin with efin
      subst efin
      have hin : ∀ l ∈ ls, 0 ≤ l → l < (rt.length : Int) ∧ (M.getD (rt.getD l.toNat 0).toNat none).isSome = true := by
        unfold okEnd at hend
        rw [List.all_eq_true] at hend
        exact fun l hl => of_decide_eq_true (hend l hl)
      have HIN := Lib.hid hin
      clear hin hend
      have key : ∃ g cap, g ≠ gl ∧ w.heap.size ≤ g ∧ (0 < rt.length → ∃ p, Luw w.heap.size wr bp bf bb bm g rt.length cap c p rt M) := by
        rcases Nat.eq_zero_or_pos rt.length with h0 | hp
        · exact ⟨gl + 1, 0, by omega, by have := HGL.out; omega, fun h => by omega⟩
        · obtain ⟨g, cap, e, hg, hL⟩ := HLx.out.luw hp
          exact ⟨g, cap, hg, Kd.R_base HLx.out.R g (by rw [e]; rfl), fun _ => ⟨p, hL⟩⟩
      obtain ⟨g, cap, hgl, hgb, hLu⟩ := key
      have HLu := Lib.hid hLu
      clear hLu
      go_wp2_with fail
      refine (numbered_any w.heap.size wr bp bf bb bm g rt.length cap c gl m capl rt M ls (by have := HCI.out; omega) (by omega) HLu.out HLx.out.m HLx.out.ml HLs.out hlen (by omega) (fun e => hgl e.symm) HIN.out).mono ?_
      rintro e w' ⟨v, rfl, ho, hR, hC⟩
      have HO := Lib.hid ho
      have HR := Lib.hid hR
      have HC := Lib.hid hC
      clear ho hR hC
      go_wp2_with fail
      go_ret2
      refine ⟨_, _, rfl, ?_, Kd.R_lower HR.out HB.out.size, HB.out.trans (HC.out.toBelow (fun j hj => by have := HGL.out; rcases hj with rfl | rfl <;> omega) HB.out.size)⟩
      refine Kd.R_of_own (enc := Value.int .i64) ?_ (fun _ _ => trivial)
      rw [List.length_map, hlen]
      exact HO.out
end Go.Proofs.Ytahibhipffojlaa.Label

namespace Go.Proofs.Ytahibhipffojlaa.M
open Go.Proofs.Ytahibhipffojlaa.Label Go.Proofs.Ytahibhipffojlaa.Num Go.RowKit Go.Proofs.YtahibhipffojlaaW.PrintWords Go.Proofs.YtahibhipffojlaaW.PrintMore
theorem label.calls (A0 : Option Addr) (c0 : Nat) (l0 : List Bool) (a1 : Int) (a2 : Bool) (r1 : List Int) (r2 : List S38) (w : World) (hr0 : Kd.C Kd.bool w A0 l0.length l0) (hc0 : l0.length ≤ c0) (h : label.f l0 a1 a2 = some (r1, r2)) :
    Calls Try.prog 36 #[.slice A0 l0.length c0, .int .i64 a1, .bool a2] w fun e w' => ∃ v0_ v1_ : Value, e = .returned (.tuple #[v0_, v1_]) ∧ Kd.R (Kd.int .i64) 3 w' w.heap.size (fun _ => True) v0_ r1 ∧ Kd.R k38 38 w' w.heap.size (fun _ => True) v1_ r2 ∧ Below w.heap.size w w' := by
  unfold label.f at h
  split at h
  case isFalse => cases h
  rename_i hg
  split at h
  case h_2 => cases h
  rename_i ls rt M hrun
  split at h
  case isFalse => cases h
  rename_i hend
  injection h with h
  injection h with h1 h2
  subst h1 h2
  exact label_walk A0 c0 l0 a1 a2 w hr0 hc0 (ls, rt, M) hg.1 hg.2.1 hg.2.2.1 hg.2.2.2 hrun hend
end Go.Proofs.Ytahibhipffojlaa.M
