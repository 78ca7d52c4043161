/- A store at a key that is there, in the round of a loop over the map: the loop goes on as it stood. -/
import Derived.Maps.RangeWalk
namespace Go.Proofs.Ytdkiembkigadkaa.Map
open Go Go.RowKit Go.ChangeMaps Go.MapKept Go.WideShapes
open Go.WideElems (Fit rd rg pl rd_key rd_val rg_of other_key rd_mk)
open Go.Maps (Keyed)
section
variable {H : Type} {P : Program} {k : TypeId} {R : Value → Option (DataW H × List MemPlace)} {w : World} {b r n : Nat} {D : DataW H} {left : Lit → Bool} {cnt : Nat}

theorem setBlock_inj {w : World} {b : Nat} {o o' : Obj} (h : setBlock w b o = setBlock w b o') (hb : b < w.heap.size) : o = o' := by
  have h1 : (setBlock w b o).heap[b]? = (setBlock w b o').heap[b]? := by rw [h]
  unfold setBlock at h1
  simpa [hb] using h1

theorem ranges_store {t e : TypeId} (h : w.ranges P k R b r n D left cnt) (K : Keyed P k) (ht : P.underlying t = some (.map k e)) {key val : Value} {kl : Lit} {d : DataW H} {ps : List MemPlace}
    (hkey : keyOf P k key = some kl) (hin : Maps.has D kl = true) (hn : n < maxLen) (hv : R val = some (d, ps)) :
    ∃ w', (Instr.mapUpdate t (.map (some b)) key val).run P w = .ok () w' ∧ w'.ranges P k R b r n (D.put kl d) left cnt ∧ w.grownBy w' (some b) := by
  have hne := h.ne
  have hbl := h.owns.lt
  obtain ⟨es, clock, since, seen, c0, hb, F, hs, rfl, hr, hold, rfl, hl1, hl2, hsc, hsk⟩ := h
  obtain ⟨es', clock', hrun, F', hput, _⟩ := Maps.fit_store (R' := R) K ht hb F (Nat.lt_of_le_of_lt hs hn) (fun _ _ _ _ hz => hz) hkey hv
  rcases K.find w hkey es.toList F.keys with ⟨h1, h2⟩ | ⟨j, e0, h1, h2, h3⟩
  · exfalso
    obtain ⟨p, hp, hpk⟩ := List.any_eq_true.1 hin
    obtain ⟨x, hx, rfl⟩ := List.mem_map.1 (mem_sorted.1 hp)
    obtain ⟨y, hy⟩ := F.reads x hx
    have hk2 := WideAt.sameKey_eq hpk
    rw [rg_of hy] at hk2
    have hk3 := rd_key hy
    rw [hk2] at hk3
    exact h2 x hx (K.inj hk3 hkey)
  · have hj : es[j]? = some e0 := by simpa using h2
    have hrun' : (Instr.mapUpdate t (.map (some b)) key val).run P w = .ok () (setBlock w b (.map (es.modify j (fun e' => { e' with key := key, val := val })) clock)) := by
      simp [Instr.mapUpdate, run_underlying ht, MapKept.run_getObj_map hb, K.check w false hkey, h1, hj, h3, K.stays w hkey, MapKept.run_setObj_map _ hb, Result.andThen, setBlock]
    rw [hrun'] at hrun
    have hobj := setBlock_inj (Result.ok.inj hrun).2 hbl
    injection hobj with hes hcl
    subst hes hcl
    have hlist : (es.modify j (fun e' => { e' with key := key, val := val })).toList = es.toList.set j { e0 with key := key, val := val } := by rw [Array.toList_modify, modify_eq_set _ _ _ _ h2]
    have hjl : j < es.toList.length := (List.getElem?_eq_some_iff.1 h2).1
    have e0in : e0 ∈ es.toList := List.mem_of_getElem? h2
    have hrg0 : (rg P k R e0).1 = kl := by
      obtain ⟨y, hy⟩ := F.reads e0 e0in
      rw [rg_of hy]
      have := rd_key hy
      rw [h3, hkey] at this
      exact (Option.some.inj this).symm
    have hrg1 : (rg P k R { e0 with key := key, val := val }).1 = kl := by rw [rg_of (rd_mk hkey hv)]
    have who : ∀ x ∈ es.toList.set j { e0 with key := key, val := val }, ∃ x0 ∈ es.toList, x.born = x0.born ∧ (rg P k R x).1 = (rg P k R x0).1 := by
      intro x hx
      rcases List.mem_or_eq_of_mem_set hx with hx | rfl
      · exact ⟨x, hx, rfl, rfl⟩
      · exact ⟨e0, e0in, rfl, by rw [hrg0, hrg1]⟩
    refine ⟨_, hrun', ⟨es.modify j (fun e' => { e' with key := key, val := val }), clock, since, seen, c0, heap_setBlock_same hb _, F', by simpa using hs, by rw [DataW.put_eq, hput], (heap_setBlock_other hb _ hne).trans hr, ?_, ?_, ?_, ?_, hsc, hsk⟩, ⟨rfl, rfl, rfl, by simp [setBlock], fun i _ hi => heap_setBlock_other hb _ (fun e => hi (by rw [e]))⟩⟩
    · intro x hx
      rw [hlist] at hx
      obtain ⟨x0, hx0, e1, _⟩ := who x hx
      rw [e1]
      exact hold x0 hx0
    · have e1 : ∀ a : Array MapEntry, (leftOf a seen).size = ((a.toList.map MapEntry.born).filter fun e => !seen.contains e).length := fun a => by
        unfold leftOf
        rw [← Array.length_toList, Array.toList_filter, List.filter_map, List.length_map]
        rfl
      rw [e1, e1, hlist, List.map_set]
      congr 2
      refine List.ext_getElem? fun i => ?_
      rw [List.getElem?_set]
      split
      · next q =>
        subst q
        rw [List.getElem?_map, h2]
        simp
        simpa using hjl
      · rfl
    · intro x hx
      rw [hlist] at hx
      obtain ⟨x0, hx0, e1, e2⟩ := who x hx
      rw [e1, e2]
      exact hl1 x0 hx0
    · intro kl0 hk0
      obtain ⟨x, hx, e1⟩ := hl2 kl0 hk0
      by_cases q : x.key = key
      · refine ⟨{ e0 with key := key, val := val }, ?_, ?_⟩
        · rw [hlist]; exact List.mem_iff_getElem.2 ⟨j, by simpa using hjl, by simp⟩
        · obtain ⟨y, hy⟩ := F.reads x hx
          rw [rg_of hy] at e1
          have := rd_key hy
          rw [q, hkey] at this
          rw [hrg1, ← e1]
          exact Option.some.inj this
      · refine ⟨x, ?_, e1⟩
        rw [hlist]
        obtain ⟨i, hi, ex⟩ := List.getElem_of_mem hx
        refine List.mem_iff_getElem.2 ⟨i, by simpa using hi, ?_⟩
        rw [List.getElem_set_ne]
        · exact ex
        · rintro rfl
          rw [List.getElem?_eq_getElem hi, ex] at h2
          rw [Option.some.inj h2] at q
          exact q h3
end
end Go.Proofs.Ytdkiembkigadkaa.Map
