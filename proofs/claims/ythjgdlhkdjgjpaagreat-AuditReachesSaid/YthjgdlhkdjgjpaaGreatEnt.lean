/-
  Own layer: a map's entry taken by 'mapEntry' and written by 'entryStore' (several assignments at once).
-/
import Derived.Test.YthjgdlhkdjgjpaaGreatMap
namespace Go.Pse
open Go.RowKit
section
variable {κ υ : Type} [DecidableEq κ] {ek : κ → Value} {ev : υ → Value}
/-- The map that v leads to, with an entry for the key a, of the stamp st, that is still to be written; but for that it holds ps. -/
def entA (ek : κ → Value) (ev : υ → Value) (v : Value) (ps : List (κ × υ)) (a : κ) (st : Int) : As where
  h w S := Keyd ps ∧ ∃ b es c i en, v = .map (some b) ∧ w.heap[b]? = some (.map es c) ∧ (es.toList.map (·.born)).Nodup ∧ (∀ e ∈ es.toList, e.born < c) ∧ es[i]? = some en ∧ st = (en.born : Int) ∧
    (∀ u, (es.toList.set i { en with val := ev u }).map (fun e => (e.key, e.val)) = (ins ps a u).map (enP ek ev)) ∧ ∀ k, S k ↔ k.1 = b
  loc := fun {w w' S} ⟨hk, h⟩ hs => ⟨hk, by
    obtain ⟨b, es, c, i, en, h1, h2, h3, h4, h5, h6, h7, h8⟩ := h
    exact ⟨b, es, c, i, en, h1, (heap_of_lk fun i => hs (b, i) ((h8 (b, i)).2 rfl)).trans h2, h3, h4, h5, h6, h7, h8⟩⟩
  lt := fun {w S q} ⟨_, h⟩ hb => by
    obtain ⟨b, es, c, i, en, h1, h2, h3, h4, h5, h6, h7, h8⟩ := h
    rw [(h8 _).1 hb]; exact (Array.getElem?_eq_some_iff.1 h2).1

variable {P : Program} {ops : Array Oper} {Q : Exit → Act → World → Prop} {E : World} {l m : List As} {n : Nat} {F : Env} {K : Act → World → Prop}
variable {d : Nat} {T : TypeId} {p : String} {e : Array Edge} {t : TypeId} {x y z : Operand} {v : Value}

theorem x_mapEntry {kt et : TypeId} {b : Nat} {ps : List (κ × υ)} {a : κ} {zv : Value} (hx : evl F x = some (.map (some b))) (hy : evl F y = some (ek a)) (hd : Nat.blt d n = true) (Ke : Ky P kt ek) (ht : P.underlying t = some (.map kt et)) (hz : ((P.info? et).bind (·.zero)) = some zv)
    (hp : Pick (mapV ek ev (.map (some b)) ps) l m) (k : ∀ u st, Jk E (entA ek ev (.map (some b)) ps a st :: m) n ((d, .tuple #[u, .int .i64 st]) :: F) K) : Jop P ops Q ⟨some d, .mapEntry t x y, T, p, e, none⟩ E l n F K := fun w A H hF => by
  have hw : Region.wanted (⟨some d, .mapEntry t x y, T, p, e, none⟩ : Oper) (yielded ops A.tmps) = true := rfl
  rw [if_pos hw]
  unfold Oper.wp
  have H' := H.pick hp
  obtain ⟨S, hk, h⟩ := H'.head
  rcases h with ⟨h, _⟩ | ⟨b', es, ck, h1, h2, h3, h4, h5, h6⟩
  · cases h
  · cases h1
    have hg : (getObj b).run P w = .ok (.map es ck) w := by simp [getObj, Sem.run, h2]
    have hs : ∀ o, (setObj b o).run P w = .ok () { w with heap := w.heap.setIfInBounds b o } := fun o => by simp [setObj, Sem.run, h2]
    have hf := Ke.find a es.toList (ps.map Prod.fst) w (keys_of h3)
    have hz' : (zeroValue et).run P w = .ok zv w := by
      cases hi : P.info? et with
      | none => rw [hi] at hz; cases hz
      | some i => rw [hi] at hz; simp only [Option.bind_some] at hz; simp [zeroValue, typeInfo, program, Sem.run, hi, hz]
    have upd : ∀ (es' : Array MapEntry) (ck' i : Nat) (en : MapEntry), (es'.toList.map (·.born)).Nodup → (∀ e ∈ es'.toList, e.born < ck') → es'[i]? = some en →
        (∀ u, (es'.toList.set i { en with val := ev u }).map (fun e => (e.key, e.val)) = (ins ps a u).map (enP ek ev)) →
        Sep E { w with heap := w.heap.setIfInBounds b (.map es' ck') } (entA ek ev (.map (some b)) ps a (en.born : Int) :: m) := fun es' ck' i en g1 g2 g3 g4 => by
      refine H'.rep .here put_same fun S' hS' => ?_
      obtain ⟨_, hS'⟩ := hS'
      have hSb : ∀ k, S' k ↔ k.1 = b := by
        rcases hS' with ⟨h, _⟩ | ⟨b', _, _, h, _, _, _, _, h8⟩
        · cases h
        · cases h; exact h8
      exact ⟨⟨S', ⟨hk, b, es', ck', i, en, rfl, put_in h2, g1, g2, g3, rfl, g4, hSb⟩, fun _ h => .inl h⟩, fun k _ hk => put_out fun h => hk ((hSb k).2 h)⟩
    cases hxi : (ps.map Prod.fst).findIdx? (fun c => decide (c = a)) with
    | none =>
      rw [hxi] at hf
      have hn := look_idx hxi
      have hrun : (execOp A.eval ⟨some d, .mapEntry t x y, T, p, e, none⟩).run P w = .ok (.value (.tuple #[zv, goInt ck])) { w with heap := w.heap.setIfInBounds b (.map (es.push { key := ek a, val := zv, born := ck }) (ck + 1)) } := by
        simp [execOp, hF.evl hx, hF.evl hy, Instr.mapEntry, run_underlying ht, hg, Ke.check, hf, hs, hz']
      rw [hrun]
      refine k _ _ _ _ (upd _ _ es.size { key := ek a, val := zv, born := ck } ?_ ?_ (by simp) fun u => ?_) (hF.put hd)
      · simp only [Array.toList_push, List.map_append, List.map_cons, List.map_nil]
        rw [List.nodup_append]
        refine ⟨h4, by simp, fun q hq r hr => ?_⟩
        obtain ⟨en, hen, rfl⟩ := List.mem_map.1 hq
        have := h5 en hen
        simp at hr
        subst hr
        omega
      · intro en hen
        simp only [Array.toList_push, List.mem_append, List.mem_singleton] at hen
        rcases hen with hen | rfl
        · have := h5 en hen; omega
        · simp
      · rw [Array.toList_push, List.set_append_right _ _ (by simp)]
        unfold ins
        rw [if_neg (by simp [hn])]
        simp [h3, enP]
    | some i =>
      rw [hxi] at hf
      obtain ⟨q, g1, g2, g3⟩ := look_at hxi
      obtain ⟨en, e1, e2, e3⟩ := entry_at h3 g1
      simp only [e1, Option.map_some] at hf
      have e1' : es[i]? = some en := by simpa using e1
      have hil := (Array.getElem?_eq_some_iff.1 e1').1
      have hrun : (execOp A.eval ⟨some d, .mapEntry t x y, T, p, e, none⟩).run P w = .ok (.value (.tuple #[en.val, goInt en.born])) { w with heap := w.heap.setIfInBounds b (.map (es.modify i fun e => { e with key := ek a }) ck) } := by
        simp [execOp, hF.evl hx, hF.evl hy, Instr.mapEntry, run_underlying ht, hg, Ke.check, hf, hs, e1', e2, g2, Instr.keyThatStays, Ke.same]
      rw [hrun]
      have hmod : (es.modify i fun e => { e with key := ek a }).toList = es.toList.set i { en with key := ek a } := by
        have hl2 : i < es.toList.length := by simpa using hil
        rw [Array.toList_modify]
        apply List.ext_getElem?
        intro j
        rw [List.getElem?_set, List.getElem?_modify]
        by_cases hij : i = j
        · subst hij; rw [if_pos rfl, if_pos hl2, e1]; simp
        · simp [hij]
      have hb : (es.modify i fun e => { e with key := ek a })[i]? = some { en with key := ek a } := by
        rw [← Array.getElem?_toList, hmod, List.getElem?_set_self (by simpa using hil)]
      refine k _ _ _ _ (upd _ _ i { en with key := ek a } ?_ ?_ hb fun u => ?_) (hF.put hd)
      · rw [hmod, List.map_set]
        have : (es.toList.map (·.born)).set i en.born = es.toList.map (·.born) := by
          apply List.ext_getElem?
          intro j
          rw [List.getElem?_set]
          by_cases hij : i = j
          · subst hij
            have := (Array.getElem?_eq_some_iff.1 e1').2
            simp [hil, this]
          · simp [hij]
        rw [this]; exact h4
      · intro f hf'
        rw [hmod] at hf'
        rcases List.mem_or_eq_of_mem_set hf' with hf' | rfl
        · exact h5 f hf'
        · exact h5 en (List.mem_of_getElem? e1)
      · rw [hmod, List.set_set, ins_at hk g1 g2, List.map_set, List.map_set, h3]; rfl
omit [DecidableEq κ] in
theorem born_idx {es : Array MapEntry} {i : Nat} {en : MapEntry} (hn : (es.toList.map (·.born)).Nodup) (hi : es[i]? = some en) : es.findIdx? (fun e => (e.born : Int) == (en.born : Int)) = some i := by
  rw [Array.findIdx?_eq_some_iff_getElem]
  obtain ⟨h1, h2⟩ := Array.getElem?_eq_some_iff.1 hi
  refine ⟨h1, by simp [h2], fun j hj => ?_⟩
  intro hc
  have hb : es[j].born = en.born := by have := eq_of_beq hc; omega
  have : j = i := nodup_idx hn (x := en.born) (by rw [List.getElem?_map, Array.getElem?_toList, Array.getElem?_eq_getElem (by omega), Option.map_some, hb]) (by rw [List.getElem?_map, Array.getElem?_toList, hi]; rfl)
  omega
theorem x_entryStore {b : Nat} {ps : List (κ × υ)} {a : κ} {c : υ} {st : Int} (hx : evl F x = some (.map (some b))) (hy : evl F y = some (.int .i64 st)) (hz : evl F z = some (ev c))
    (hp : Pick (entA ek ev (.map (some b)) ps a st) l m) (k : Jk E (mapV ek ev (.map (some b)) (ins ps a c) :: m) n F K) : Jop P ops Q ⟨none, .entryStore t x y z, T, p, e, none⟩ E l n F K := fun w A H hF => by
  have hw : Region.wanted (⟨none, .entryStore t x y z, T, p, e, none⟩ : Oper) (yielded ops A.tmps) = true := rfl
  rw [if_pos hw]
  unfold Oper.wp
  have H' := H.pick hp
  obtain ⟨S, hk, b', es, ck, i, en, h1, h2, h3, h4, h5, h6, h7, h8⟩ := H'.head
  cases h1
  have hg : (getObj b).run P w = .ok (.map es ck) w := by simp [getObj, Sem.run, h2]
  have hs : ∀ o, (setObj b o).run P w = .ok () { w with heap := w.heap.setIfInBounds b o } := fun o => by simp [setObj, Sem.run, h2]
  have hil := (Array.getElem?_eq_some_iff.1 h5).1
  have hrun : (execOp A.eval ⟨none, .entryStore t x y z, T, p, e, none⟩).run P w = .ok .skip { w with heap := w.heap.setIfInBounds b (.map (es.modify i fun e => { e with val := ev c }) ck) } := by
    have hf := born_idx h3 h5
    rw [← h6] at hf
    simp [execOp, hF.evl hx, hF.evl hy, hF.evl hz, Instr.entryStore, hg, asInt, asIntOf, hf, hs]
  rw [hrun]
  have e1 : es.toList[i]? = some en := by simpa using h5
  have hmod : (es.modify i fun e => { e with val := ev c }).toList = es.toList.set i { en with val := ev c } := by
    have hl2 : i < es.toList.length := by simpa using hil
    rw [Array.toList_modify]
    apply List.ext_getElem?
    intro j
    rw [List.getElem?_set, List.getElem?_modify]
    by_cases hij : i = j
    · subst hij; rw [if_pos rfl, if_pos hl2, e1]; simp
    · simp [hij]
  refine k _ _ (H'.rep .here put_same fun S' hS' => ?_) hF
  have hSb : ∀ k, S' k ↔ k.1 = b := by
    obtain ⟨_, b', _, _, _, _, h, _, _, _, _, _, _, hx⟩ := hS'
    cases h; exact hx
  refine ⟨⟨S', ⟨hk.ins a c, .inr ⟨b, _, ck, rfl, put_in h2, ?_, ?_, ?_, hSb⟩⟩, fun _ h => .inl h⟩, fun k _ hk => put_out fun h => hk ((hSb k).2 h)⟩
  · rw [hmod]; exact h7 c
  · rw [hmod, List.map_set]
    have : (es.toList.map (·.born)).set i en.born = es.toList.map (·.born) := by
      apply List.ext_getElem?
      intro j
      rw [List.getElem?_set]
      by_cases hij : i = j
      · subst hij
        have := (Array.getElem?_eq_some_iff.1 h5).2
        simp [hil, this]
      · simp [hij]
    rw [this]; exact h3
  · intro f hf'
    rw [hmod] at hf'
    rcases List.mem_or_eq_of_mem_set hf' with hf' | rfl
    · exact h4 f hf'
    · exact h4 en (List.mem_of_getElem? e1)
end
end Go.Pse
