/-
  Own texts, merged: Iter, Ent, Cd, C1, C2, C3, C4, C5, C6, Seq, Sort, Srt, C7, C8, SortF, C10, C11, C12, C13, C13b, C16, C17.
-/
import Derived.Test.YtclgdnpndlognaaGreatBC0
import Derived.Laws.IdiomRangeMap
import Derived.RangeFuncIn
import Derived.RangeFuncSeq
import Derived.RangeFuncRecord
import Derived.RangeFuncLeaves
import Derived.RangeFuncCalls
import Derived.TacticsIn
import Derived.Sort.Row
import Derived.Sort.Grow
import Derived.Shelf.SlGeneric
import Derived.Shelf.SortM.Plain
import Derived.Shelf.SortM.SortNone
import Derived.Shelf.SlSortCmp.NoneTotal
import Derived.Ground.SlgmProg
import Derived.Ground.SlsfProg
import Derived.Test.YtclgdnpndlognaaGreatProg
set_option linter.unusedVariables false
set_option linter.unusedSimpArgs false
set_option maxRecDepth 100000
set_option maxHeartbeats 4000000
namespace Go.Pse
open Go.RowKit
variable {P : Program}
theorem run_nextR (w : World) (ty : TypeId) {b r since c0 : Nat} {seen : Array Nat} {es : Array MapEntry} {clock : Nat} (hb : w.heap[b]? = some (.map es clock)) (hr : w.heap[r]? = some (.mapIter (some b) since seen c0))
    (hold : ∀ x ∈ es.toList, x.born < since) (hsc : since ≤ c0) :
    ((∀ e ∈ es.toList, seen.contains e.born = true) ∧ (Instr.next (.pointer (some ⟨r, 0, none⟩)) false ty).run P w = .ok (.tuple #[.bool false]) w) ∨
    ∃ e ∈ es.toList, seen.contains e.born = false ∧ ∃ dn, w.drawn ≤ dn ∧ (Instr.next (.pointer (some ⟨r, 0, none⟩)) false ty).run P w = .ok (.tuple #[.bool true, e.key, e.val]) { w with drawn := dn, heap := w.heap.setIfInBounds r (.mapIter (some b) since (seen.push e.born) clock) } := by
  simp only [Instr.next, getObj, Sem.run_bind, Sem.run, hr, hb, Result.andThen, next_test_false seen es since c0 hold hsc, Bool.false_eq_true, if_false]
  have hL : ∀ x, x ∈ Array.filter (fun e => !seen.contains e.born) es ↔ x ∈ es.toList ∧ seen.contains x.born = false := fun x => by simp
  generalize Array.filter (fun e => !seen.contains e.born) es = L at hL ⊢
  have e1 : L.filter (fun x => decide (x.born < since)) = L := Array.filter_eq_self.2 (fun x hx => by simpa using hold x ((hL x).1 hx).1)
  have e2 : L.filter (fun x => decide (x.born ≥ since)) = #[] := by
    rw [Array.filter_eq_empty_iff]
    intro x hx
    have := hold x ((hL x).1 hx).1
    simp; omega
  simp only [e1, e2, Array.append_empty]
  by_cases h0 : L.size = 0
  · left
    have h1 : L = #[] := Array.eq_empty_of_size_eq_zero h0
    subst h1
    refine ⟨fun e he => ?_, by simp [choose, Sem.run, Question.forced]⟩
    cases hc : seen.contains e.born with
    | true => rfl
    | false => exact absurd ((hL e).2 ⟨he, hc⟩) (by simp)
  · right
    have hne : L.isEmpty = false := by simp [Array.isEmpty, h0]
    simp only [hne, Bool.false_eq_true, if_false, Array.empty_append, Array.size_map]
    obtain ⟨j, dn, hj, hdn, hrun⟩ : ∃ (j dn : Nat), j < L.size ∧ w.drawn ≤ dn ∧ (choose (Question.mapNext L.size)).run P w = .ok j { w with drawn := dn } := by
      by_cases hf : L.size ≤ 1
      · exact ⟨0, w.drawn, by omega, Nat.le_refl _, by simp [choose, Sem.run, Question.forced, hf]⟩
      · exact ⟨_, w.drawn + 1, Nat.mod_lt _ (by omega), Nat.le_succ _, by
          simp only [choose, Sem.run, Question.forced, decide_eq_true_eq, hf, if_false, Question.cut]
          rfl⟩
    have hm := (hL L[j]).1 (Array.getElem_mem hj)
    refine ⟨L[j], hm.1, hm.2, dn, hdn, ?_⟩
    have hset : ∀ (o' : Obj), (setObj r o').run P { w with drawn := dn } = .ok () { w with drawn := dn, heap := w.heap.setIfInBounds r o' } := fun o' => by
      simp [setObj, Sem.run, hr]
    simp only [hrun, Array.getElem?_map, Array.getElem?_eq_getElem hj, Option.map_some, Sem.run_bind, hset, Result.andThen]
    rfl
section
variable {κ υ : Type} [DecidableEq κ] {ek : κ → Value} {ev : υ → Value}
def rangeA (ek : κ → Value) (ev : υ → Value) (v : Value) (r : Nat) (ps : List (κ × υ)) (done : List κ) : As where
  h w S := Keyd ps ∧ ((v = .map none ∧ ps = [] ∧ w.heap[r]? = some (.mapIter none 0 #[] 0) ∧ ∀ k, S k ↔ k.1 = r) ∨
    ∃ b es c since seen last, v = .map (some b) ∧ w.heap[b]? = some (.map es c) ∧ w.heap[r]? = some (.mapIter (some b) since seen last) ∧ es.toList.map (fun e => (e.key, e.val)) = ps.map (enP ek ev) ∧ (es.toList.map (·.born)).Nodup ∧ (∀ e ∈ es.toList, e.born < c) ∧
      (∀ e ∈ es.toList, e.born < since) ∧ since ≤ last ∧ since ≤ c ∧ (∀ (i : Nat) e p, es.toList[i]? = some e → ps[i]? = some p → (seen.contains e.born = true ↔ p.1 ∈ done)) ∧ (∀ a, done.getLast? = some a → last = c ∧ ∀ (i : Nat) e p, es.toList[i]? = some e → ps[i]? = some p → p.1 = a → seen.back? = some e.born) ∧ ∀ k, S k ↔ k.1 = b ∨ k.1 = r)
  loc := fun {w w' S} ⟨hk, h⟩ hs => ⟨hk, by
    rcases h with ⟨h1, h2, h3, h4⟩ | ⟨b, es, c, since, seen, last, h1, h2, h3, h4, h5, h6, h7, h8, h9, h10, h12, h11⟩
    · exact .inl ⟨h1, h2, (heap_of_lk fun i => hs (r, i) ((h4 (r, i)).2 rfl)).trans h3, h4⟩
    · exact .inr ⟨b, es, c, since, seen, last, h1, (heap_of_lk fun i => hs (b, i) ((h11 (b, i)).2 (.inl rfl))).trans h2, (heap_of_lk fun i => hs (r, i) ((h11 (r, i)).2 (.inr rfl))).trans h3, h4, h5, h6, h7, h8, h9, h10, h12, h11⟩⟩
  lt := fun {w S q} ⟨hk, h⟩ hb => by
    rcases h with ⟨h1, h2, h3, h4⟩ | ⟨b, es, c, since, seen, last, h1, h2, h3, h4, h5, h6, h7, h8, h9, h10, h12, h11⟩
    · rw [(h4 _).1 hb]; exact (Array.getElem?_eq_some_iff.1 h3).1
    · rcases (h11 _).1 hb with h | h
      · rw [h]; exact (Array.getElem?_eq_some_iff.1 h2).1
      · rw [h]; exact (Array.getElem?_eq_some_iff.1 h3).1
variable {P : Program} {ops : Array Oper} {Q : Exit → Act → World → Prop} {E : World} {l l' m : List As} {n : Nat} {F : Env} {K : Act → World → Prop}
variable {d : Nat} {T : TypeId} {p : String} {e : Array Edge} {g : Option (Nat × Bool)} {dst : Option Tmp} {t : TypeId} {x y z : Operand} {u v : Value}
variable {ps : List (κ × υ)}
omit [DecidableEq κ] in
theorem x_range {kt et : TypeId} (hx : evl F x = some v) (ht : P.underlying t = some (.map kt et)) (hp : Pick (mapV ek ev v ps) l m) (hd : Nat.blt d n = true)
    (k : ∀ r, Jk E (rangeA ek ev v r ps [] :: m) n ((d, .pointer (some ⟨r, 0, none⟩)) :: F) K) : Jop P ops Q ⟨some d, .range t x, T, p, e, none⟩ E l n F K := fun w A H hF => by
  have hw : Region.wanted (⟨some d, .range t x, T, p, e, none⟩ : Oper) (yielded ops A.tmps) = true := rfl
  rw [if_pos hw]
  unfold Oper.wp
  have H' := H.pick hp
  obtain ⟨S, hk, h⟩ := H'.head
  rcases h with ⟨rfl, rfl, _⟩ | ⟨b, es, c, rfl, h2, h3, h4, h5, h6⟩
  · have hrun : (execOp A.eval ⟨some d, .range t x, T, p, e, none⟩).run P w = .ok (.value (.pointer (some ⟨w.heap.size, 0, none⟩))) (w.alloc (.mapIter none 0 #[] 0)) := by
      simp [execOp, hF.evl hx, run_range_nilMap w t kt et ht]
    rw [hrun]
    refine k _ _ _ (H'.rep .here alloc_same fun S' hS' => ⟨⟨fun q => q.1 = w.heap.size, ⟨hk, .inl ⟨rfl, rfl, heap_alloc_new w _, fun _ => Iff.rfl⟩⟩, fun b hb => .inr (by omega)⟩, fun b hb _ => lk_of_heap (alloc_old hb)⟩) (hF.put hd)
  · have hrun : (execOp A.eval ⟨some d, .range t x, T, p, e, none⟩).run P w = .ok (.value (.pointer (some ⟨w.heap.size, 0, none⟩))) (w.alloc (.mapIter (some b) c #[] c)) := by
      simp [execOp, hF.evl hx, run_range_map w t kt et b es c ht h2]
    rw [hrun]
    have hb := (Array.getElem?_eq_some_iff.1 h2).1
    refine k _ _ _ (H'.rep .here alloc_same fun S' hS' => ⟨⟨fun q => q.1 = b ∨ q.1 = w.heap.size, ⟨hk, .inr ⟨b, es, c, c, #[], c, rfl, (alloc_old hb).trans h2, heap_alloc_new w _, h3, h4, h5, h5, Nat.le_refl _, Nat.le_refl _, fun _ _ _ _ _ => by simp, fun _ h => (by cases h), fun _ => Iff.rfl⟩⟩, fun q hq => ?_⟩, fun b hb _ => lk_of_heap (alloc_old hb)⟩) (hF.put hd)
    obtain ⟨_, hS'⟩ := hS'
    rcases hS' with ⟨h, _⟩ | ⟨b', _, _, h, _, _, _, _, h8⟩
    · cases h
    · cases h
      rcases hq with hq | hq
      · exact .inl ((h8 _).2 hq)
      · exact .inr (by omega)
variable {r : Nat} {done : List κ}
theorem x_next (hx : evl F x = some (.pointer (some ⟨r, 0, none⟩))) (hp : Pick (rangeA ek ev v r ps done) l m) (hd : Nat.blt d n = true)
    (k1 : ∀ a u, (a, u) ∈ ps → a ∉ done → Jk E (rangeA ek ev v r ps (done ++ [a]) :: m) n ((d, .tuple #[.bool true, ek a, ev u]) :: F) K)
    (k0 : (∀ q ∈ ps, q.1 ∈ done) → Jk E (rangeA ek ev v r ps done :: m) n ((d, .tuple #[.bool false]) :: F) K) :
    Jop P ops Q ⟨some d, .next x false, T, p, e, none⟩ E l n F K := fun w A H hF => by
  have hw : Region.wanted (⟨some d, .next x false, T, p, e, none⟩ : Oper) (yielded ops A.tmps) = true := rfl
  rw [if_pos hw]
  unfold Oper.wp
  have H' := H.pick hp
  obtain ⟨S, hk, h⟩ := H'.head
  rcases h with ⟨rfl, rfl, h3, h4⟩ | ⟨b, es, c, since, seen, last, rfl, h2, h3, h4, h5, h6, h7, h8, h9, h10, h12, h11⟩
  · have hrun : (execOp A.eval ⟨some d, .next x false, T, p, e, none⟩).run P w = .ok (.value (.tuple #[.bool false])) w := by
      simp [execOp, hF.evl hx, Instr.next, getObj, Sem.run, h3]
    rw [hrun]
    exact k0 (fun q hq => by cases hq) _ _ H' (hF.put hd)
  · rcases run_nextR (P := P) w T h2 h3 h7 h8 with ⟨g1, g2⟩ | ⟨en, g1, g2, dn, g3, g4⟩
    · have hrun : (execOp A.eval ⟨some d, .next x false, T, p, e, none⟩).run P w = .ok (.value (.tuple #[.bool false])) w := by
        simp [execOp, hF.evl hx, g2]
      rw [hrun]
      refine k0 (fun q hq => ?_) _ _ H' (hF.put hd)
      obtain ⟨i, hi⟩ := List.getElem?_of_mem hq
      obtain ⟨en, e1, _⟩ := entry_at h4 hi
      exact (h10 i en q e1 hi).1 (g1 en (List.mem_of_getElem? e1))
    · obtain ⟨i, hi⟩ := List.getElem?_of_mem g1
      have hil : i < ps.length := by
        have := congrArg List.length h4
        simp at this
        have h0 := (List.getElem?_eq_some_iff.1 hi).1
        simp at h0
        omega
      obtain ⟨q, hq⟩ : ∃ q, ps[i]? = some q := ⟨_, List.getElem?_eq_getElem hil⟩
      obtain ⟨en', e1, e2, e3⟩ := entry_at h4 hq
      rw [hi] at e1
      cases e1
      have hrun : (execOp A.eval ⟨some d, .next x false, T, p, e, none⟩).run P w = .ok (.value (.tuple #[.bool true, ek q.1, ev q.2])) { w with drawn := dn, heap := w.heap.setIfInBounds r (.mapIter (some b) since (seen.push en.born) c) } := by
        simp [execOp, hF.evl hx, g4, e2, e3]
      rw [hrun]
      have hnd : q.1 ∉ done := fun hd => by have := (h10 i en q hi hq).2 hd; rw [g2] at this; cases this
      have hbr : b ≠ r := fun hh => by subst hh; rw [h2] at h3; cases h3
      refine k1 q.1 q.2 (List.mem_of_getElem? hq) hnd _ _ (H'.rep .here ⟨rfl, rfl, ⟨rfl, g3⟩, by simp⟩ fun S' hS' => ?_) (hF.put hd)
      obtain ⟨_, hS'⟩ := hS'
      have hSb : ∀ k, S' k ↔ k.1 = b ∨ k.1 = r := by
        rcases hS' with ⟨h, _⟩ | ⟨b', _, _, _, _, _, h, _, _, _, _, _, _, _, _, _, _, hx⟩
        · cases h
        · cases h; exact hx
      have out : ∀ q : Loc, q.1 ≠ r → lk { w with drawn := dn, heap := w.heap.setIfInBounds r (.mapIter (some b) since (seen.push en.born) c) } q = lk w q := fun q hq => lk_of_heap <| by
        show (w.heap.setIfInBounds r _)[q.1]? = _
        rw [Array.getElem?_setIfInBounds_ne (fun e => hq e.symm)]
      refine ⟨⟨S', ⟨hk, .inr ⟨b, es, c, since, seen.push en.born, c, rfl, ?_, ?_, h4, h5, h6, h7, h9, h9, fun j ej pj hj hpj => ?_, fun a ha => ⟨rfl, fun j ej pj hj hpj hpa => ?_⟩, hSb⟩⟩, fun _ h => .inl h⟩, fun k _ hk => out k fun h => hk ((hSb k).2 (.inr h))⟩
      · show (w.heap.setIfInBounds r _)[b]? = _
        rw [Array.getElem?_setIfInBounds_ne (fun e => hbr e.symm)]; exact h2
      · show (w.heap.setIfInBounds r _)[r]? = _
        rw [Array.getElem?_setIfInBounds_self_of_lt (Array.getElem?_eq_some_iff.1 h3).1]
      · rw [Array.contains_push, List.mem_append, Bool.or_eq_true, h10 j ej pj hj hpj, List.mem_singleton, beq_iff_eq]
        have : en.born = ej.born ↔ pj.1 = q.1 := by
          constructor
          · intro hh
            have : i = j := nodup_idx h5 (by rw [List.getElem?_map, hi]; rfl) (by rw [List.getElem?_map, hj, Option.map_some]; exact congrArg some hh.symm)
            subst this
            rw [hq] at hpj; cases hpj; rfl
          · intro hh
            have : i = j := nodup_idx hk (by rw [List.getElem?_map, hq]; rfl) (by rw [List.getElem?_map, hpj, Option.map_some, hh])
            subst this
            rw [hi] at hj; cases hj; rfl
        rw [eq_comm (a := ej.born), this]
      · rw [List.getLast?_append, List.getLast?_singleton] at ha
        simp at ha
        subst ha
        have : i = j := nodup_idx hk (by rw [List.getElem?_map, hq]; rfl) (by rw [List.getElem?_map, hpj, Option.map_some, hpa])
        subst this
        rw [hi] at hj; cases hj
        simp
omit [DecidableEq κ] in
theorem v_entry {a : κ} {c : υ} (hx : evl F x = some (.pointer (some ⟨r, 0, none⟩))) (hh : Has (rangeA ek ev v r ps done) l) (hl : done.getLast? = some a) (hm : (a, c) ∈ ps) :
    Vl P ⟨dst, .entry x, T, p, e, g⟩ E l F n (.tuple #[ek a, ev c]) := fun w A H hF => by
  obtain ⟨S, hk, h⟩ := H.has hh
  rcases h with ⟨rfl, rfl, h3, h4⟩ | ⟨b, es, ck, since, seen, last, rfl, h2, h3, h4, h5, h6, h7, h8, h9, h10, h12, h11⟩
  · cases hm
  · obtain ⟨i, hi⟩ := List.getElem?_of_mem hm
    obtain ⟨en, e1, e2, e3⟩ := entry_at h4 hi
    obtain ⟨rfl, g2⟩ := h12 a hl
    have g3 := g2 i en _ e1 hi rfl
    have hf : es.find? (·.born == en.born) = some en := by rw [← Array.find?_toList]; exact find_born en es.toList h5 (List.mem_of_getElem? e1)
    simp [execOp, hF.evl hx, Instr.entry, getObj, Sem.run, h3, h2, g3, hf, e2, e3]
omit [DecidableEq κ] in
theorem J_rangeEnd (k : Jk E (mapV ek ev v ps :: l) n F K) : Jk E (rangeA ek ev v r ps done :: l) n F K :=
  J_imp (fun w S ⟨hk, h⟩ => by
    rcases h with ⟨h1, h2, h3, h4⟩ | ⟨b, es, c, since, seen, last, h1, h2, h3, h4, h5, h6, h7, h8, h9, h10, h12, h11⟩
    · exact ⟨fun _ => False, ⟨hk, .inl ⟨h1, h2, fun _ h => h⟩⟩, fun _ h => h.elim⟩
    · exact ⟨fun q => q.1 = b, ⟨hk, .inr ⟨b, es, c, h1, h2, h4, h5, h6, fun _ => Iff.rfl⟩⟩, fun q hq => (h11 q).2 (.inl hq)⟩) k
omit [DecidableEq κ] in
theorem J_rangeKeyd (hh : Has (rangeA ek ev v r ps done) l) (k : Keyd ps → Jk E l n F K) : Jk E l n F K :=
  J_know (fun _ H => let ⟨_, hk, _⟩ := H.has hh; hk) k
omit [DecidableEq κ] in
end
/-! ### plain: keys that come one by one -/
section
variable {κ υ : Type} [DecidableEq κ]
def Come (ps : List (κ × υ)) (done : List κ) : Prop := done.Nodup ∧ ∀ a ∈ done, a ∈ ps.map Prod.fst
variable {ps : List (κ × υ)}
omit [DecidableEq κ] in
theorem Come.nil : Come ps [] := ⟨List.nodup_nil, fun _ h => by cases h⟩
variable {done : List κ}
omit [DecidableEq κ] in
theorem Come.step {a : κ} {u : υ} (h : Come ps done) (hm : (a, u) ∈ ps) (hn : a ∉ done) : Come ps (done ++ [a]) := by
  refine ⟨?_, fun c hc => ?_⟩
  · rw [List.nodup_append]
    refine ⟨h.1, by simp, fun x hx y hy => ?_⟩
    simp at hy; subst hy; exact fun e => hn (e ▸ hx)
  · rcases List.mem_append.1 hc with hc | hc
    · exact h.2 c hc
    · simp at hc; subst hc; exact List.mem_map.2 ⟨_, hm, rfl⟩
omit [DecidableEq κ] in
theorem Come.perm (h : Come ps done) (hk : Keyd ps) (ha : ∀ q ∈ ps, q.1 ∈ done) : done.Perm (ps.map Prod.fst) :=
  (List.perm_ext_iff_of_nodup h.1 hk).2 fun a => ⟨h.2 a, fun hm => by obtain ⟨q, hq, rfl⟩ := List.mem_map.1 hm; exact ha q hq⟩
theorem Come.len (h : Come ps done) (hk : Keyd ps) : done.length ≤ ps.length := by
  have hp : done.Perm ((ps.map Prod.fst).filter fun a => decide (a ∈ done)) := (List.perm_ext_iff_of_nodup h.1 (List.Nodup.sublist List.filter_sublist hk)).2 fun a => by
    rw [List.mem_filter]
    exact ⟨fun ha => ⟨h.2 a ha, by simpa using ha⟩, fun ha => by simpa using ha.2⟩
  have := hp.length_eq
  have h2 := List.length_filter_le (fun a => decide (a ∈ done)) (ps.map Prod.fst)
  simp only [List.length_map] at h2
  omega
theorem Come.lt {a : κ} {u : υ} (h : Come ps done) (hk : Keyd ps) (hm : (a, u) ∈ ps) (hn : a ∉ done) : done.length < ps.length := by
  have := (h.step hm hn).len hk
  simp at this
  omega
theorem look_mem (hk : Keyd ps) {a : κ} {u : υ} (hm : (a, u) ∈ ps) : look ps a = some u := by
  induction ps with
  | nil => cases hm
  | cons q ps ih =>
    rw [look_cons]
    obtain ⟨h1, h2⟩ := List.nodup_cons.1 hk
    rcases List.mem_cons.1 hm with rfl | hm
    · simp
    · have : ¬ q.1 = a := fun e => h1 (List.mem_map.2 ⟨_, hm, e.symm⟩)
      rw [if_neg this]; exact ih h2 hm
theorem mem_look {a : κ} {u : υ} (h : look ps a = some u) : (a, u) ∈ ps := by
  induction ps with
  | nil => cases h
  | cons q ps ih =>
    rw [look_cons] at h
    split at h
    · rename_i e; cases h; subst e; simp
    · exact List.mem_cons_of_mem _ (ih h)
end
/-! ### pointers against nil -/
section
variable {P : Program} {n : Nat} {F : Env} {T : TypeId} {p : String} {e : Array Edge} {g : Option (Nat × Bool)} {dst : Option Tmp} {t et ty : TypeId} {x : Operand}
theorem ptr_guard {op : BinOp} {y : Operand} {a b : Option Addr} (w : World) : (eqGuard op t x y (.pointer a) (.pointer b)).run P w = .ok () w := by
  unfold eqGuard
  cases op <;> rfl
theorem run_eqPtr {a : Option Addr} (ht : P.underlying t = some (.pointer et)) (w : World) : (Op.equal t (.pointer a) (.pointer none)).run P w = .ok a.isNone w := by
  have h0 : ∀ D, (Op.equalIn (D + 1) t (.pointer a) (.pointer none)).run P w = .ok a.isNone w := fun D => by
    cases a <;> simp [Op.equalIn, run_underlying ht]
  exact h0 9999
theorem p_eqNilPtr {a : Option Addr} (ht : P.underlying t = some (.pointer et)) (hx : evl F x = some (.pointer a)) : Pur P ⟨dst, .binOp .eql t x (.const (.pointer none)) ty, T, p, e, g⟩ F n (.bool a.isNone) :=
  p_eqv hx rfl (fun w => ptr_guard w) (fun w => by simp only [binOp, Sem.run_bind, run_eqPtr ht]; rfl)
theorem p_neNilPtr {a : Option Addr} (ht : P.underlying t = some (.pointer et)) (hx : evl F x = some (.pointer a)) : Pur P ⟨dst, .binOp .neq t x (.const (.pointer none)) ty, T, p, e, g⟩ F n (.bool a.isSome) :=
  p_nev hx rfl (fun w => ptr_guard w) (fun w => by
    simp only [binOp, Sem.run_bind, run_eqPtr ht]
    cases a <;> rfl)
end
end Go.Pse
namespace Go.Pse
open Go.RowKit
section
variable {κ υ : Type} [DecidableEq κ] {ek : κ → Value} {ev : υ → Value}
def entA (ek : κ → Value) (ev : υ → Value) (v : Value) (ps : List (κ × υ)) (a : κ) (st : Int) : As where
  h w S := Keyd ps ∧ ∃ b es c i en, v = .map (some b) ∧ w.heap[b]? = some (.map es c) ∧ (es.toList.map (·.born)).Nodup ∧ (∀ e ∈ es.toList, e.born < c) ∧ es[i]? = some en ∧ st = (en.born : Int) ∧
    (∀ u, (es.toList.set i { en with val := ev u }).map (fun e => (e.key, e.val)) = (ins ps a u).map (enP ek ev)) ∧ ∀ k, S k ↔ k.1 = b
  loc := fun {w w' S} ⟨hk, h⟩ hs => ⟨hk, by
    obtain ⟨b, es, c, i, en, h1, h2, h3, h4, h5, h6, h7, h8⟩ := h
    exact ⟨b, es, c, i, en, h1, (heap_of_lk fun i => hs (b, i) ((h8 (b, i)).2 rfl)).trans h2, h3, h4, h5, h6, h7, h8⟩⟩
  lt := fun {w S q} ⟨_, h⟩ hb => by
    obtain ⟨b, es, c, i, en, h1, h2, h3, h4, h5, h6, h7, h8⟩ := h
    rw [(h8 _).1 hb]; exact (Array.getElem?_eq_some_iff.1 h2).1
variable {P : Program} {ops : Array Oper} {Q : Exit → Act → World → Prop} {E : World} {l m : List As} {n : Nat} {F : Env} {K : Act → World → Prop}
variable {d : Nat} {T : TypeId} {p : String} {e : Array Edge} {t : TypeId} {x y z : Operand} {v : Value}
variable {ps : List (κ × υ)}
theorem x_mapEntry {kt et : TypeId} {b : Nat} {a : κ} {zv : Value} (hx : evl F x = some (.map (some b))) (hy : evl F y = some (ek a)) (hd : Nat.blt d n = true) (Ke : Ky P kt ek) (ht : P.underlying t = some (.map kt et)) (hz : ((P.info? et).bind (·.zero)) = some zv)
    (hp : Pick (mapV ek ev (.map (some b)) ps) l m) (k : ∀ u st, Jk E (entA ek ev (.map (some b)) ps a st :: m) n ((d, .tuple #[u, .int .i64 st]) :: F) K) : Jop P ops Q ⟨some d, .mapEntry t x y, T, p, e, none⟩ E l n F K := fun w A H hF => by
  have hw : Region.wanted (⟨some d, .mapEntry t x y, T, p, e, none⟩ : Oper) (yielded ops A.tmps) = true := rfl
  rw [if_pos hw]
  unfold Oper.wp
  have H' := H.pick hp
  obtain ⟨S, hk, h⟩ := H'.head
  rcases h with ⟨h, _⟩ | ⟨b', es, ck, h1, h2, h3, h4, h5, h6⟩
  · cases h
  · cases h1
    have hg : (getObj b).run P w = .ok (.map es ck) w := by simp [getObj, Sem.run, h2]
    have hs : ∀ o, (setObj b o).run P w = .ok () { w with heap := w.heap.setIfInBounds b o } := fun o => by simp [setObj, Sem.run, h2]
    have hf := Ke.find a es.toList (ps.map Prod.fst) w (keys_of h3)
    have hz' : (zeroValue et).run P w = .ok zv w := by
      cases hi : P.info? et with
      | none => rw [hi] at hz; cases hz
      | some i => rw [hi] at hz; simp only [Option.bind_some] at hz; simp [zeroValue, typeInfo, program, Sem.run, hi, hz]
    have upd : ∀ (es' : Array MapEntry) (ck' i : Nat) (en : MapEntry), (es'.toList.map (·.born)).Nodup → (∀ e ∈ es'.toList, e.born < ck') → es'[i]? = some en →
        (∀ u, (es'.toList.set i { en with val := ev u }).map (fun e => (e.key, e.val)) = (ins ps a u).map (enP ek ev)) →
        Sep E { w with heap := w.heap.setIfInBounds b (.map es' ck') } (entA ek ev (.map (some b)) ps a (en.born : Int) :: m) := fun es' ck' i en g1 g2 g3 g4 => by
      refine H'.rep .here put_same fun S' hS' => ?_
      obtain ⟨_, hS'⟩ := hS'
      have hSb : ∀ k, S' k ↔ k.1 = b := by
        rcases hS' with ⟨h, _⟩ | ⟨b', _, _, h, _, _, _, _, h8⟩
        · cases h
        · cases h; exact h8
      exact ⟨⟨S', ⟨hk, b, es', ck', i, en, rfl, put_in h2, g1, g2, g3, rfl, g4, hSb⟩, fun _ h => .inl h⟩, fun k _ hk => put_out fun h => hk ((hSb k).2 h)⟩
    cases hxi : (ps.map Prod.fst).findIdx? (fun c => decide (c = a)) with
    | none =>
      rw [hxi] at hf
      have hn := look_idx hxi
      have hrun : (execOp A.eval ⟨some d, .mapEntry t x y, T, p, e, none⟩).run P w = .ok (.value (.tuple #[zv, goInt ck])) { w with heap := w.heap.setIfInBounds b (.map (es.push { key := ek a, val := zv, born := ck }) (ck + 1)) } := by
        simp [execOp, hF.evl hx, hF.evl hy, Instr.mapEntry, run_underlying ht, hg, Ke.check, hf, hs, hz']
      rw [hrun]
      refine k _ _ _ _ (upd _ _ es.size { key := ek a, val := zv, born := ck } ?_ ?_ (by simp) fun u => ?_) (hF.put hd)
      · simp only [Array.toList_push, List.map_append, List.map_cons, List.map_nil]
        rw [List.nodup_append]
        refine ⟨h4, by simp, fun q hq r hr => ?_⟩
        obtain ⟨en, hen, rfl⟩ := List.mem_map.1 hq
        have := h5 en hen
        simp at hr
        subst hr
        omega
      · intro en hen
        simp only [Array.toList_push, List.mem_append, List.mem_singleton] at hen
        rcases hen with hen | rfl
        · have := h5 en hen; omega
        · simp
      · rw [Array.toList_push, List.set_append_right _ _ (by simp)]
        unfold ins
        rw [if_neg (by simp [hn])]
        simp [h3, enP]
    | some i =>
      rw [hxi] at hf
      obtain ⟨q, g1, g2, g3⟩ := look_at hxi
      obtain ⟨en, e1, e2, e3⟩ := entry_at h3 g1
      simp only [e1, Option.map_some] at hf
      have e1' : es[i]? = some en := by simpa using e1
      have hil := (Array.getElem?_eq_some_iff.1 e1').1
      have hrun : (execOp A.eval ⟨some d, .mapEntry t x y, T, p, e, none⟩).run P w = .ok (.value (.tuple #[en.val, goInt en.born])) { w with heap := w.heap.setIfInBounds b (.map (es.modify i fun e => { e with key := ek a }) ck) } := by
        simp [execOp, hF.evl hx, hF.evl hy, Instr.mapEntry, run_underlying ht, hg, Ke.check, hf, hs, e1', e2, g2, Instr.keyThatStays, Ke.same]
      rw [hrun]
      have hmod : (es.modify i fun e => { e with key := ek a }).toList = es.toList.set i { en with key := ek a } := by
        have hl2 : i < es.toList.length := by simpa using hil
        rw [Array.toList_modify]
        apply List.ext_getElem?
        intro j
        rw [List.getElem?_set, List.getElem?_modify]
        by_cases hij : i = j
        · subst hij; rw [if_pos rfl, if_pos hl2, e1]; simp
        · simp [hij]
      have hb : (es.modify i fun e => { e with key := ek a })[i]? = some { en with key := ek a } := by
        rw [← Array.getElem?_toList, hmod, List.getElem?_set_self (by simpa using hil)]
      refine k _ _ _ _ (upd _ _ i { en with key := ek a } ?_ ?_ hb fun u => ?_) (hF.put hd)
      · rw [hmod, List.map_set]
        have : (es.toList.map (·.born)).set i en.born = es.toList.map (·.born) := by
          apply List.ext_getElem?
          intro j
          rw [List.getElem?_set]
          by_cases hij : i = j
          · subst hij
            have := (Array.getElem?_eq_some_iff.1 e1').2
            simp [hil, this]
          · simp [hij]
        rw [this]; exact h4
      · intro f hf'
        rw [hmod] at hf'
        rcases List.mem_or_eq_of_mem_set hf' with hf' | rfl
        · exact h5 f hf'
        · exact h5 en (List.mem_of_getElem? e1)
      · rw [hmod, List.set_set, ins_at hk g1 g2, List.map_set, List.map_set, h3]; rfl
variable {i : Nat}
omit [DecidableEq κ] in
theorem born_idx {es : Array MapEntry} {en : MapEntry} (hn : (es.toList.map (·.born)).Nodup) (hi : es[i]? = some en) : es.findIdx? (fun e => (e.born : Int) == (en.born : Int)) = some i := by
  rw [Array.findIdx?_eq_some_iff_getElem]
  obtain ⟨h1, h2⟩ := Array.getElem?_eq_some_iff.1 hi
  refine ⟨h1, by simp [h2], fun j hj => ?_⟩
  intro hc
  have hb : es[j].born = en.born := by have := eq_of_beq hc; omega
  have : j = i := nodup_idx hn (x := en.born) (by rw [List.getElem?_map, Array.getElem?_toList, Array.getElem?_eq_getElem (by omega), Option.map_some, hb]) (by rw [List.getElem?_map, Array.getElem?_toList, hi]; rfl)
  omega
theorem x_entryStore {b : Nat} {a : κ} {c : υ} {st : Int} (hx : evl F x = some (.map (some b))) (hy : evl F y = some (.int .i64 st)) (hz : evl F z = some (ev c))
    (hp : Pick (entA ek ev (.map (some b)) ps a st) l m) (k : Jk E (mapV ek ev (.map (some b)) (ins ps a c) :: m) n F K) : Jop P ops Q ⟨none, .entryStore t x y z, T, p, e, none⟩ E l n F K := fun w A H hF => by
  have hw : Region.wanted (⟨none, .entryStore t x y z, T, p, e, none⟩ : Oper) (yielded ops A.tmps) = true := rfl
  rw [if_pos hw]
  unfold Oper.wp
  have H' := H.pick hp
  obtain ⟨S, hk, b', es, ck, i, en, h1, h2, h3, h4, h5, h6, h7, h8⟩ := H'.head
  cases h1
  have hg : (getObj b).run P w = .ok (.map es ck) w := by simp [getObj, Sem.run, h2]
  have hs : ∀ o, (setObj b o).run P w = .ok () { w with heap := w.heap.setIfInBounds b o } := fun o => by simp [setObj, Sem.run, h2]
  have hil := (Array.getElem?_eq_some_iff.1 h5).1
  have hrun : (execOp A.eval ⟨none, .entryStore t x y z, T, p, e, none⟩).run P w = .ok .skip { w with heap := w.heap.setIfInBounds b (.map (es.modify i fun e => { e with val := ev c }) ck) } := by
    have hf := born_idx h3 h5
    rw [← h6] at hf
    simp [execOp, hF.evl hx, hF.evl hy, hF.evl hz, Instr.entryStore, hg, asInt, asIntOf, hf, hs]
  rw [hrun]
  have e1 : es.toList[i]? = some en := by simpa using h5
  have hmod : (es.modify i fun e => { e with val := ev c }).toList = es.toList.set i { en with val := ev c } := by
    have hl2 : i < es.toList.length := by simpa using hil
    rw [Array.toList_modify]
    apply List.ext_getElem?
    intro j
    rw [List.getElem?_set, List.getElem?_modify]
    by_cases hij : i = j
    · subst hij; rw [if_pos rfl, if_pos hl2, e1]; simp
    · simp [hij]
  refine k _ _ (H'.rep .here put_same fun S' hS' => ?_) hF
  have hSb : ∀ k, S' k ↔ k.1 = b := by
    obtain ⟨_, b', _, _, _, _, h, _, _, _, _, _, _, hx⟩ := hS'
    cases h; exact hx
  refine ⟨⟨S', ⟨hk.ins a c, .inr ⟨b, _, ck, rfl, put_in h2, ?_, ?_, ?_, hSb⟩⟩, fun _ h => .inl h⟩, fun k _ hk => put_out fun h => hk ((hSb k).2 h)⟩
  · rw [hmod]; exact h7 c
  · rw [hmod, List.map_set]
    have : (es.toList.map (·.born)).set i en.born = es.toList.map (·.born) := by
      apply List.ext_getElem?
      intro j
      rw [List.getElem?_set]
      by_cases hij : i = j
      · subst hij
        have := (Array.getElem?_eq_some_iff.1 h5).2
        simp [hil, this]
      · simp [hij]
    rw [this]; exact h3
  · intro f hf'
    rw [hmod] at hf'
    rcases List.mem_or_eq_of_mem_set hf' with hf' | rfl
    · exact h4 f hf'
    · exact h4 en (List.mem_of_getElem? e1)
end
end Go.Pse
namespace Go.Pse
open Go.RowKit Go.Proofs
/-! ### plain: the kinds of things that a kernel holds -/
structure Cap where
  kind : Int
  obj : Int
  size : Int
  badge : Int
  rights : Int
  deriving DecidableEq
def encC (c : Cap) : List Value := [.int .i64 c.kind, .int .i64 c.obj, .int .i64 c.size, .int .i64 c.badge, .int .i64 c.rights]
abbrev Place := Int × Int
abbrev SV := Cap × Place
abbrev kI : Int × Int → Value := fun a => Value.agg #[.int .i64 a.1, .int .i64 a.2]
abbrev kZ : Int → Value := fun a => .int .i64 a
abbrev evZ : Int → Value := fun a => .int .i64 a
abbrev evB : Bool → Value := fun b => .bool b
abbrev evA : Nat → Value := fun b => .pointer (some ⟨b, 0, none⟩)
abbrev evS : SV → Value := fun s => .agg #[.int .i64 s.1.kind, .int .i64 s.1.obj, .int .i64 s.1.size, .int .i64 s.1.badge, .int .i64 s.1.rights, .int .i64 s.2.1, .int .i64 s.2.2]
structure Th where
  unit : Int
  space : Int
  ring : Int
  root : Cap
  deriving DecidableEq
abbrev evT : Th → Value := fun t => .agg #[.int .i64 t.unit, .int .i64 t.space, .int .i64 t.ring, .int .i64 t.root.kind, .int .i64 t.root.obj, .int .i64 t.root.size, .int .i64 t.root.badge, .int .i64 t.root.rights]
abbrev evL : Int × Int → Value := fun b => .agg #[.int .i64 b.1, .int .u32 b.2]
structure Sqe where
  op : Int
  flags : Int
  tag : Int
  cap : Int
  a : Int
  b : Int
  c : Int
  time : Int
  deriving DecidableEq
structure Rq where
  id : ID
  e : Sqe
  prev : Int
  soft : Bool
  started : Bool
  deriving DecidableEq
def encQ (r : Rq) : List Value := [.int .i64 r.id.1, .int .i64 r.id.2, .int .i64 r.e.op, .int .i64 r.e.flags, .int .u32 r.e.tag, .int .u32 r.e.cap, .int .u32 r.e.a, .int .u32 r.e.b, .int .u32 r.e.c, .int .u32 r.e.time, .int .i64 r.prev, .bool r.soft, .bool r.started]
abbrev evQ : Rq → Value := fun r => .agg (encQ r).toArray
abbrev Msg := ID × Int × Int × Bool
abbrev Rcv := ID × Int
def encM (m : Msg) : List Value := [.int .i64 m.1.1, .int .i64 m.1.2, .int .u32 m.2.1, .int .i64 m.2.2.1, .bool m.2.2.2]
def encR (r : Rcv) : List Value := [.int .i64 r.1.1, .int .i64 r.1.2, .int .i64 r.2]
abbrev Tm := Int × ID
def encT (t : Tm) : List Value := [.int .u64 t.1, .int .i64 t.2.1, .int .i64 t.2.2]
abbrev Deed := ID × Int × Int × Int × Int × Bool
def encD (d : Deed) : List Value := [.int .i64 d.1.1, .int .i64 d.1.2, .int .u32 d.2.1, .int .i64 d.2.2.1, .int .i64 d.2.2.2.1, .int .u32 d.2.2.2.2.1, .bool d.2.2.2.2.2]
abbrev Cqe := Int × Int × Int × Int
def encX (c : Cqe) : List Value := [.int .u32 c.1, .int .i32 c.2.1, .int .u32 c.2.2.1, .int .u32 c.2.2.2]
structure Rg where
  sq : Int
  cq : Int
  sb : Int
  cb : Int
  head : Int
  tail : Int
  over : List Cqe
def c0 : Cap := ⟨0, 0, 0, 0, 0⟩
def s0 : SV := (c0, (0, 0))
def t0 : Th := ⟨0, 0, 0, c0⟩
def ptrOf (o : Option Nat) : Value := .pointer (o.map fun b => ⟨b, 0, none⟩)
def slP (_ _ : Nat) (_ : List (Place × SV)) (_ : Option Nat) : Prop := True
def slL (b o : Nat) (ps : List (Place × SV)) (ob : Option Nat) : List As := [fld b o [.map ob], mapV kI evS (.map ob) ps]
def slA (b o : Nat) (ps : List (Place × SV)) : As := As.ex fun g : (Option Nat) => As.all (As.pure (slP b o ps g) :: slL b o ps g)
variable {E : World} {l : List As} {n : Nat} {F : Env} {K : Act → World → Prop}
theorem J_slO {b o : Nat} {ps : List (Place × SV)} (k : ∀ ob, slP b o ps ob → Jk E (fld b o [.map ob] :: mapV kI evS (.map ob) ps :: l) n F K) : Jk E (slA b o ps :: l) n F K := J_unfold (f := fun g : (Option Nat) => As.all (As.pure (slP b o ps g) :: slL b o ps g)) (fun _ => rfl) (fun g h => k g h)
variable {m : List As}
theorem J_slS {b o : Nat} {ps : List (Place × SV)} (ob : Option Nat) (hs : Picks [fld b o [.map ob], mapV kI evS (.map ob) ps] l m) (h : slP b o ps ob) (k : Jk E (slA b o ps :: m) n F K) : Jk E l n F K := J_fold (f := fun g : (Option Nat) => As.all (As.pure (slP b o ps g) :: slL b o ps g)) (ob) rfl hs h k
def mkP (_ _ : Nat) (_ : List (Place × Int)) (_ : Option Nat) : Prop := True
def mkL (b o : Nat) (ps : List (Place × Int)) (ob : Option Nat) : List As := [fld b o [.map ob], mapV kI evZ (.map ob) ps]
def mkA (b o : Nat) (ps : List (Place × Int)) : As := As.ex fun g : (Option Nat) => As.all (As.pure (mkP b o ps g) :: mkL b o ps g)
theorem J_mkO {b o : Nat} {ps : List (Place × Int)} (k : ∀ ob, mkP b o ps ob → Jk E (fld b o [.map ob] :: mapV kI evZ (.map ob) ps :: l) n F K) : Jk E (mkA b o ps :: l) n F K := J_unfold (f := fun g : (Option Nat) => As.all (As.pure (mkP b o ps g) :: mkL b o ps g)) (fun _ => rfl) (fun g h => k g h)
theorem J_mkS {b o : Nat} {ps : List (Place × Int)} (ob : Option Nat) (hs : Picks [fld b o [.map ob], mapV kI evZ (.map ob) ps] l m) (h : mkP b o ps ob) (k : Jk E (mkA b o ps :: m) n F K) : Jk E l n F K := J_fold (f := fun g : (Option Nat) => As.all (As.pure (mkP b o ps g) :: mkL b o ps g)) (ob) rfl hs h k
abbrev M1 := Int × Int
def spP (_ _ : Nat) (_ : List (Place × M1)) (_ : Option Nat) : Prop := True
def spL (b o : Nat) (ps : List (Place × M1)) (ob : Option Nat) : List As := [fld b o [.map ob], mapV kI kI (.map ob) ps]
def spA (b o : Nat) (ps : List (Place × M1)) : As := As.ex fun g : (Option Nat) => As.all (As.pure (spP b o ps g) :: spL b o ps g)
theorem J_spO {b o : Nat} {ps : List (Place × M1)} (k : ∀ ob, spP b o ps ob → Jk E (fld b o [.map ob] :: mapV kI kI (.map ob) ps :: l) n F K) : Jk E (spA b o ps :: l) n F K := J_unfold (f := fun g : (Option Nat) => As.all (As.pure (spP b o ps g) :: spL b o ps g)) (fun _ => rfl) (fun g h => k g h)
theorem J_spS {b o : Nat} {ps : List (Place × M1)} (ob : Option Nat) (hs : Picks [fld b o [.map ob], mapV kI kI (.map ob) ps] l m) (h : spP b o ps ob) (k : Jk E (spA b o ps :: m) n F K) : Jk E l n F K := J_fold (f := fun g : (Option Nat) => As.all (As.pure (spP b o ps g) :: spL b o ps g)) (ob) rfl hs h k
def rtP (_ _ : Nat) (_ : List (ID × Rq)) (_ : Option Nat) : Prop := True
def rtL (b o : Nat) (ps : List (ID × Rq)) (ob : Option Nat) : List As := [fld b o [.map ob], mapV kI evQ (.map ob) ps]
def rtA (b o : Nat) (ps : List (ID × Rq)) : As := As.ex fun g : (Option Nat) => As.all (As.pure (rtP b o ps g) :: rtL b o ps g)
theorem J_rtO {b o : Nat} {ps : List (ID × Rq)} (k : ∀ ob, rtP b o ps ob → Jk E (fld b o [.map ob] :: mapV kI evQ (.map ob) ps :: l) n F K) : Jk E (rtA b o ps :: l) n F K := J_unfold (f := fun g : (Option Nat) => As.all (As.pure (rtP b o ps g) :: rtL b o ps g)) (fun _ => rfl) (fun g h => k g h)
theorem J_rtS {b o : Nat} {ps : List (ID × Rq)} (ob : Option Nat) (hs : Picks [fld b o [.map ob], mapV kI evQ (.map ob) ps] l m) (h : rtP b o ps ob) (k : Jk E (rtA b o ps :: m) n F K) : Jk E l n F K := J_fold (f := fun g : (Option Nat) => As.all (As.pure (rtP b o ps g) :: rtL b o ps g)) (ob) rfl hs h k
def rqP (_ _ : Nat) (_ : List ID) (_ : Value) : Prop := True
def rqL (b o : Nat) (xs : List ID) (v : Value) : List As := [fld b o [v], row 208 2 v (xs.map encI)]
def rqA (b o : Nat) (xs : List ID) : As := As.ex fun g : (Value) => As.all (As.pure (rqP b o xs g) :: rqL b o xs g)
variable {xs : List ID}
theorem J_rqO {b o : Nat} (k : ∀ v, rqP b o xs v → Jk E (fld b o [v] :: row 208 2 v (xs.map encI) :: l) n F K) : Jk E (rqA b o xs :: l) n F K := J_unfold (f := fun g : (Value) => As.all (As.pure (rqP b o xs g) :: rqL b o xs g)) (fun _ => rfl) (fun g h => k g h)
theorem J_rqS {b o : Nat} (v : Value) (hs : Picks [fld b o [v], row 208 2 v (xs.map encI)] l m) (h : rqP b o xs v) (k : Jk E (rqA b o xs :: m) n F K) : Jk E l n F K := J_fold (f := fun g : (Value) => As.all (As.pure (rqP b o xs g) :: rqL b o xs g)) (v) rfl hs h k
def tmrP (_ _ : Nat) (_ : List Tm) (_ : Value) : Prop := True
def tmrL (b o : Nat) (xs : List Tm) (v : Value) : List As := [fld b o [v], row 308 3 v (xs.map encT)]
def tmrA (b o : Nat) (xs : List Tm) : As := As.ex fun g : (Value) => As.all (As.pure (tmrP b o xs g) :: tmrL b o xs g)
theorem J_tmrO {b o : Nat} {xs : List Tm} (k : ∀ v, tmrP b o xs v → Jk E (fld b o [v] :: row 308 3 v (xs.map encT) :: l) n F K) : Jk E (tmrA b o xs :: l) n F K := J_unfold (f := fun g : (Value) => As.all (As.pure (tmrP b o xs g) :: tmrL b o xs g)) (fun _ => rfl) (fun g h => k g h)
theorem J_tmrS {b o : Nat} {xs : List Tm} (v : Value) (hs : Picks [fld b o [v], row 308 3 v (xs.map encT)] l m) (h : tmrP b o xs v) (k : Jk E (tmrA b o xs :: m) n F K) : Jk E l n F K := J_fold (f := fun g : (Value) => As.all (As.pure (tmrP b o xs g) :: tmrL b o xs g)) (v) rfl hs h k
def jnlP (_ _ : Nat) (_ : List Deed) (_ : Value) : Prop := True
def jnlL (b o : Nat) (xs : List Deed) (v : Value) : List As := [fld b o [v], row 45 7 v (xs.map encD)]
def jnlA (b o : Nat) (xs : List Deed) : As := As.ex fun g : (Value) => As.all (As.pure (jnlP b o xs g) :: jnlL b o xs g)
theorem J_jnlO {b o : Nat} {xs : List Deed} (k : ∀ v, jnlP b o xs v → Jk E (fld b o [v] :: row 45 7 v (xs.map encD) :: l) n F K) : Jk E (jnlA b o xs :: l) n F K := J_unfold (f := fun g : (Value) => As.all (As.pure (jnlP b o xs g) :: jnlL b o xs g)) (fun _ => rfl) (fun g h => k g h)
theorem J_jnlS {b o : Nat} {xs : List Deed} (v : Value) (hs : Picks [fld b o [v], row 45 7 v (xs.map encD)] l m) (h : jnlP b o xs v) (k : Jk E (jnlA b o xs :: m) n F K) : Jk E l n F K := J_fold (f := fun g : (Value) => As.all (As.pure (jnlP b o xs g) :: jnlL b o xs g)) (v) rfl hs h k
def encU (b : Int) : List Value := [.int .u8 b]
def memF (x : Value × List Int) : As := row 5 1 x.1 (x.2.map encU)
def memP (b : Nat) (ms : List (List Int)) (v : Value) (xs : List (Value × List Int)) : Prop := xs.map Prod.snd = ms
def memL (b : Nat) (ms : List (List Int)) (v : Value) (xs : List (Value × List Int)) : List As := [blk b 292 [v], row 73 1 v (xs.map fun x => [x.1]), each memF xs]
def memA (b : Nat) (ms : List (List Int)) : As := As.ex fun g : (Value) × (List (Value × List Int)) => As.all (As.pure (memP b ms g.1 g.2) :: memL b ms g.1 g.2)
theorem J_memO {b : Nat} {ms : List (List Int)} (k : ∀ v xs, memP b ms v xs → Jk E (blk b 292 [v] :: row 73 1 v (xs.map fun x => [x.1]) :: each memF xs :: l) n F K) : Jk E (memA b ms :: l) n F K := J_unfold (f := fun g : (Value) × (List (Value × List Int)) => As.all (As.pure (memP b ms g.1 g.2) :: memL b ms g.1 g.2)) (fun _ => rfl) (fun g h => k g.1 g.2 h)
theorem J_memS {b : Nat} {ms : List (List Int)} (v : Value) (xs : List (Value × List Int)) (hs : Picks [blk b 292 [v], row 73 1 v (xs.map fun x => [x.1]), each memF xs] l m) (h : memP b ms v xs) (k : Jk E (memA b ms :: m) n F K) : Jk E l n F K := J_fold (f := fun g : (Value) × (List (Value × List Int)) => As.all (As.pure (memP b ms g.1 g.2) :: memL b ms g.1 g.2)) (v, xs) rfl hs h k
def rgP (_ _ : Nat) (_ : Rg) (_ : Value) : Prop := True
def rgL (b mb : Nat) (r : Rg) (v : Value) : List As := [blk b 217 [.pointer (some ⟨mb, 0, none⟩), .int .i64 r.sq, .int .i64 r.cq, .int .i64 r.sb, .int .i64 r.cb, .int .u32 r.head, .int .u32 r.tail, v], row 93 4 v (r.over.map encX)]
def rgA (b mb : Nat) (r : Rg) : As := As.ex fun g : (Value) => As.all (As.pure (rgP b mb r g) :: rgL b mb r g)
theorem J_rgO {b mb : Nat} {r : Rg} (k : ∀ v, rgP b mb r v → Jk E (blk b 217 [.pointer (some ⟨mb, 0, none⟩), .int .i64 r.sq, .int .i64 r.cq, .int .i64 r.sb, .int .i64 r.cb, .int .u32 r.head, .int .u32 r.tail, v] :: row 93 4 v (r.over.map encX) :: l) n F K) : Jk E (rgA b mb r :: l) n F K := J_unfold (f := fun g : (Value) => As.all (As.pure (rgP b mb r g) :: rgL b mb r g)) (fun _ => rfl) (fun g h => k g h)
theorem J_rgS {b mb : Nat} {r : Rg} (v : Value) (hs : Picks [blk b 217 [.pointer (some ⟨mb, 0, none⟩), .int .i64 r.sq, .int .i64 r.cq, .int .i64 r.sb, .int .i64 r.cb, .int .u32 r.head, .int .u32 r.tail, v], row 93 4 v (r.over.map encX)] l m) (h : rgP b mb r v) (k : Jk E (rgA b mb r :: m) n F K) : Jk E l n F K := J_fold (f := fun g : (Value) => As.all (As.pure (rgP b mb r g) :: rgL b mb r g)) (v) rfl hs h k
def Who (xs : List ID) (ps : List (ID × Bool)) : Prop := xs.Nodup ∧ ∀ i, look ps i = if i ∈ xs then some true else none
theorem Who.nil : Who [] [] := ⟨List.nodup_nil, fun i => by simp [look_nil]⟩
def lsP (b o : Nat) (xs : List ID) (v : Value) (ob : Option Nat) (ps : List (ID × Bool)) : Prop := Who xs ps
def lsL (b o : Nat) (xs : List ID) (v : Value) (ob : Option Nat) (ps : List (ID × Bool)) : List As := [fld b o [v, .map ob], row 36 2 v (xs.map encI), mapV kI evB (.map ob) ps]
def lsA (b o : Nat) (xs : List ID) : As := As.ex fun g : (Value) × (Option Nat) × (List (ID × Bool)) => As.all (As.pure (lsP b o xs g.1 g.2.1 g.2.2) :: lsL b o xs g.1 g.2.1 g.2.2)
theorem J_lsO {b o : Nat} (k : ∀ v ob ps, lsP b o xs v ob ps → Jk E (fld b o [v, .map ob] :: row 36 2 v (xs.map encI) :: mapV kI evB (.map ob) ps :: l) n F K) : Jk E (lsA b o xs :: l) n F K := J_unfold (f := fun g : (Value) × (Option Nat) × (List (ID × Bool)) => As.all (As.pure (lsP b o xs g.1 g.2.1 g.2.2) :: lsL b o xs g.1 g.2.1 g.2.2)) (fun _ => rfl) (fun g h => k g.1 g.2.1 g.2.2 h)
theorem J_lsS {b o : Nat} (v : Value) (ob : Option Nat) (ps : List (ID × Bool)) (hs : Picks [fld b o [v, .map ob], row 36 2 v (xs.map encI), mapV kI evB (.map ob) ps] l m) (h : lsP b o xs v ob ps) (k : Jk E (lsA b o xs :: m) n F K) : Jk E l n F K := J_fold (f := fun g : (Value) × (Option Nat) × (List (ID × Bool)) => As.all (As.pure (lsP b o xs g.1 g.2.1 g.2.2) :: lsL b o xs g.1 g.2.1 g.2.2)) (v, ob, ps) rfl hs h k
def ntP (_ _ : Nat) (_ : Int) (_ : List ID)  : Prop := True
def ntL (b o : Nat) (w : Int) (xs : List ID)  : List As := [fld b o [.int .u32 w], lsA b (o + 1) xs]
def ntA (b o : Nat) (w : Int) (xs : List ID) : As := As.ex fun g : Unit => As.all (As.pure (ntP b o w xs ) :: ntL b o w xs )
theorem J_ntO {b o : Nat} {w : Int} (k : ∀ (_ : Unit), ntP b o w xs  → Jk E (fld b o [.int .u32 w] :: lsA b (o + 1) xs :: l) n F K) : Jk E (ntA b o w xs :: l) n F K := J_unfold (f := fun g : Unit => As.all (As.pure (ntP b o w xs ) :: ntL b o w xs )) (fun _ => rfl) (fun g h => k () h)
theorem J_ntS {b o : Nat} {w : Int}  (hs : Picks [fld b o [.int .u32 w], lsA b (o + 1) xs] l m) (h : ntP b o w xs ) (k : Jk E (ntA b o w xs :: m) n F K) : Jk E l n F K := J_fold (f := fun g : Unit => As.all (As.pure (ntP b o w xs ) :: ntL b o w xs )) () rfl hs h k
def epP (_ : Nat) (_ : List Msg) (_ : List Rcv) (_ : Value) (_ : Value) : Prop := True
def epL (b : Nat) (out : List Msg) (inn : List Rcv) (vo : Value) (vi : Value) : List As := [blk b 222 [vo, vi], row 374 5 vo (out.map encM), row 246 3 vi (inn.map encR)]
def epA (b : Nat) (out : List Msg) (inn : List Rcv) : As := As.ex fun g : (Value) × (Value) => As.all (As.pure (epP b out inn g.1 g.2) :: epL b out inn g.1 g.2)
theorem J_epO {b : Nat} {out : List Msg} {inn : List Rcv} (k : ∀ vo vi, epP b out inn vo vi → Jk E (blk b 222 [vo, vi] :: row 374 5 vo (out.map encM) :: row 246 3 vi (inn.map encR) :: l) n F K) : Jk E (epA b out inn :: l) n F K := J_unfold (f := fun g : (Value) × (Value) => As.all (As.pure (epP b out inn g.1 g.2) :: epL b out inn g.1 g.2)) (fun _ => rfl) (fun g h => k g.1 g.2 h)
theorem J_epS {b : Nat} {out : List Msg} {inn : List Rcv} (vo : Value) (vi : Value) (hs : Picks [blk b 222 [vo, vi], row 374 5 vo (out.map encM), row 246 3 vi (inn.map encR)] l m) (h : epP b out inn vo vi) (k : Jk E (epA b out inn :: m) n F K) : Jk E l n F K := J_fold (f := fun g : (Value) × (Value) => As.all (As.pure (epP b out inn g.1 g.2) :: epL b out inn g.1 g.2)) (vo, vi) rfl hs h k
def rpA (b : Nat) (c : ID × Bool) : As := blk b 243 [.int .i64 c.1.1, .int .i64 c.1.2, .bool c.2]
theorem J_ntNew {b : Nat} (k : Jk E (ntA b 0 0 [] :: l) n F K) : Jk E (blk b 229 [.int .u32 0, .slice none 0 0, .map none] :: l) n F K :=
  J_fld (J_split [.int .u32 0] [.slice none 0 0, .map none] rfl (J_nil (el := 36) (sz := 2) (J_mapNil (ek := kI) (ev := evB) (J_lsS (b := b) (o := 0 + 1) (xs := []) (.slice none 0 0) none [] (.cons (.there (.there (.there .here))) (.cons (.there .here) (.cons .here .nil))) Who.nil
    (J_ntS (b := b) (o := 0) (w := 0) (xs := []) (.cons (.there .here) (.cons .here .nil)) trivial k)))))
theorem J_epNew {b : Nat} (k : Jk E (epA b [] [] :: l) n F K) : Jk E (blk b 222 [.slice none 0 0, .slice none 0 0] :: l) n F K :=
  J_nil (el := 374) (sz := 5) (J_nil (el := 246) (sz := 3) (J_epS (b := b) (out := []) (inn := []) (.slice none 0 0) (.slice none 0 0) (.cons (.there (.there .here)) (.cons (.there .here) (.cons .here .nil))) trivial k))
structure KS where
 ct : Int
 cu : Int
 cs : Int
 cc : Int
 sh : Bool
 mb : Nat
 mem : List (List Int)
 sl : List (Place × SV)
 mr : List (Place × Int)
 mp : List (Place × M1)
 q : List ID
 rt : List (ID × Rq)
 tm : List Tm
 jn : List Deed
 nt : List (Int × Nat × Int × List ID)
 ep : List (Int × Nat × List Msg × List Rcv)
 rp : List (Int × Nat × ID × Bool)
 rg : List (Int × Nat × Rg)
 th : List (Int × Th)
 sp : List (Int × Bool)
 pr : List (Int × Int)
 be : List (Int × (Int × Int))
 tk : List (Int × Int)
 now : Int
def ptrs {α : Type} (xs : List (Int × Nat × α)) : List (Int × Nat) := xs.map fun x => (x.1, x.2.1)
def ntF (x : Int × Nat × Int × List ID) : As := ntA x.2.1 0 x.2.2.1 x.2.2.2
def epF (x : Int × Nat × List Msg × List Rcv) : As := epA x.2.1 x.2.2.1 x.2.2.2
def rpF (x : Int × Nat × ID × Bool) : As := rpA x.2.1 x.2.2
def rgF (mb : Nat) (x : Int × Nat × Rg) : As := rgA x.2.1 mb x.2.2
def coP (_ : Nat) (_ : KS) (_ : Nat) (_ : Nat) (_ : Nat) (_ : Nat) (_ : Nat) (_ : Nat) (_ : Nat) (_ : Nat) (_ : Nat) : Prop := True
def coL (p : Nat) (s : KS) (bn : Nat) (be : Nat) (br : Nat) (bg : Nat) (bt : Nat) (bs : Nat) (bp : Nat) (bl : Nat) (bk : Nat) : List As := [fld p 0 [.int .i64 s.ct, .int .i64 s.cu, .int .i64 s.cs, .int .i64 s.cc, .bool s.sh, .pointer (some ⟨s.mb, 0, none⟩)], memA s.mb s.mem, slA p 6 s.sl, mkA p 7 s.mr, spA p 8 s.mp, rqA p 9 s.q, rtA p 10 s.rt, tmrA p 11 s.tm, jnlA p 12 s.jn, fld p 13 [.map (some bn), .map (some be), .map (some br), .map (some bg), .map (some bt), .map (some bs), .map (some bp), .map (some bl), .map (some bk)], mapV kZ evA (.map (some bn)) (ptrs s.nt), each ntF s.nt, mapV kZ evA (.map (some be)) (ptrs s.ep), each epF s.ep, mapV kZ evA (.map (some br)) (ptrs s.rp), each rpF s.rp, mapV kZ evA (.map (some bg)) (ptrs s.rg), each (rgF s.mb) s.rg, mapV kZ evT (.map (some bt)) s.th, mapV kZ evB (.map (some bs)) s.sp, mapV kZ evZ (.map (some bp)) s.pr, mapV kZ evL (.map (some bl)) s.be, mapV kZ evZ (.map (some bk)) s.tk, fld p 22 [.int .u64 s.now]]
def coA (p : Nat) (s : KS) : As := As.ex fun g : (Nat) × (Nat) × (Nat) × (Nat) × (Nat) × (Nat) × (Nat) × (Nat) × (Nat) => As.all (As.pure (coP p s g.1 g.2.1 g.2.2.1 g.2.2.2.1 g.2.2.2.2.1 g.2.2.2.2.2.1 g.2.2.2.2.2.2.1 g.2.2.2.2.2.2.2.1 g.2.2.2.2.2.2.2.2) :: coL p s g.1 g.2.1 g.2.2.1 g.2.2.2.1 g.2.2.2.2.1 g.2.2.2.2.2.1 g.2.2.2.2.2.2.1 g.2.2.2.2.2.2.2.1 g.2.2.2.2.2.2.2.2)
variable {s : KS}
theorem J_coO {p : Nat} (k : ∀ bn be br bg bt bs bp bl bk, coP p s bn be br bg bt bs bp bl bk → Jk E (fld p 0 [.int .i64 s.ct, .int .i64 s.cu, .int .i64 s.cs, .int .i64 s.cc, .bool s.sh, .pointer (some ⟨s.mb, 0, none⟩)] :: memA s.mb s.mem :: slA p 6 s.sl :: mkA p 7 s.mr :: spA p 8 s.mp :: rqA p 9 s.q :: rtA p 10 s.rt :: tmrA p 11 s.tm :: jnlA p 12 s.jn :: fld p 13 [.map (some bn), .map (some be), .map (some br), .map (some bg), .map (some bt), .map (some bs), .map (some bp), .map (some bl), .map (some bk)] :: mapV kZ evA (.map (some bn)) (ptrs s.nt) :: each ntF s.nt :: mapV kZ evA (.map (some be)) (ptrs s.ep) :: each epF s.ep :: mapV kZ evA (.map (some br)) (ptrs s.rp) :: each rpF s.rp :: mapV kZ evA (.map (some bg)) (ptrs s.rg) :: each (rgF s.mb) s.rg :: mapV kZ evT (.map (some bt)) s.th :: mapV kZ evB (.map (some bs)) s.sp :: mapV kZ evZ (.map (some bp)) s.pr :: mapV kZ evL (.map (some bl)) s.be :: mapV kZ evZ (.map (some bk)) s.tk :: fld p 22 [.int .u64 s.now] :: l) n F K) : Jk E (coA p s :: l) n F K := J_unfold (f := fun g : (Nat) × (Nat) × (Nat) × (Nat) × (Nat) × (Nat) × (Nat) × (Nat) × (Nat) => As.all (As.pure (coP p s g.1 g.2.1 g.2.2.1 g.2.2.2.1 g.2.2.2.2.1 g.2.2.2.2.2.1 g.2.2.2.2.2.2.1 g.2.2.2.2.2.2.2.1 g.2.2.2.2.2.2.2.2) :: coL p s g.1 g.2.1 g.2.2.1 g.2.2.2.1 g.2.2.2.2.1 g.2.2.2.2.2.1 g.2.2.2.2.2.2.1 g.2.2.2.2.2.2.2.1 g.2.2.2.2.2.2.2.2)) (fun _ => rfl) (fun g h => k g.1 g.2.1 g.2.2.1 g.2.2.2.1 g.2.2.2.2.1 g.2.2.2.2.2.1 g.2.2.2.2.2.2.1 g.2.2.2.2.2.2.2.1 g.2.2.2.2.2.2.2.2 h)
theorem J_coS {p : Nat} (bn : Nat) (be : Nat) (br : Nat) (bg : Nat) (bt : Nat) (bs : Nat) (bp : Nat) (bl : Nat) (bk : Nat) (hs : Picks [fld p 0 [.int .i64 s.ct, .int .i64 s.cu, .int .i64 s.cs, .int .i64 s.cc, .bool s.sh, .pointer (some ⟨s.mb, 0, none⟩)], memA s.mb s.mem, slA p 6 s.sl, mkA p 7 s.mr, spA p 8 s.mp, rqA p 9 s.q, rtA p 10 s.rt, tmrA p 11 s.tm, jnlA p 12 s.jn, fld p 13 [.map (some bn), .map (some be), .map (some br), .map (some bg), .map (some bt), .map (some bs), .map (some bp), .map (some bl), .map (some bk)], mapV kZ evA (.map (some bn)) (ptrs s.nt), each ntF s.nt, mapV kZ evA (.map (some be)) (ptrs s.ep), each epF s.ep, mapV kZ evA (.map (some br)) (ptrs s.rp), each rpF s.rp, mapV kZ evA (.map (some bg)) (ptrs s.rg), each (rgF s.mb) s.rg, mapV kZ evT (.map (some bt)) s.th, mapV kZ evB (.map (some bs)) s.sp, mapV kZ evZ (.map (some bp)) s.pr, mapV kZ evL (.map (some bl)) s.be, mapV kZ evZ (.map (some bk)) s.tk, fld p 22 [.int .u64 s.now]] l m) (h : coP p s bn be br bg bt bs bp bl bk) (k : Jk E (coA p s :: m) n F K) : Jk E l n F K := J_fold (f := fun g : (Nat) × (Nat) × (Nat) × (Nat) × (Nat) × (Nat) × (Nat) × (Nat) × (Nat) => As.all (As.pure (coP p s g.1 g.2.1 g.2.2.1 g.2.2.2.1 g.2.2.2.2.1 g.2.2.2.2.2.1 g.2.2.2.2.2.2.1 g.2.2.2.2.2.2.2.1 g.2.2.2.2.2.2.2.2) :: coL p s g.1 g.2.1 g.2.2.1 g.2.2.2.1 g.2.2.2.2.1 g.2.2.2.2.2.1 g.2.2.2.2.2.2.1 g.2.2.2.2.2.2.2.1 g.2.2.2.2.2.2.2.2)) (bn, be, br, bg, bt, bs, bp, bl, bk) rfl hs h k
end Go.Pse
namespace Go.Pse
open Go.RowKit Go.Proofs
def cutI (n lo hi : Int) : Int := if hi < (if n < lo then lo else n) then hi else if n < lo then lo else n
variable {E : World} {l : List As} {lo hi : Int}
theorem cCut {n : Int} :
    Con Tryz.prog 91 #[.int .i64 n, .int .i64 lo, .int .i64 hi] E l (fun _ : Unit => .int .i64 (cutI n lo hi)) (fun _ => l) := by
  refine Con.body (n := 12) Tryz.func91 Z Z _ (env_ok 3 Z) <| sr <| ag Z Z <| nx <| mv Z Z <| mv Z Z <| L_pur Z (p_max Z Z) <| mv Z Z <| L_pur Z (p_min Z Z) <| ag Z Z <| nq <| J_ret <| J_return (()) Tryz.results91 (.tmp Z .nil) ?_ ?_
  · first | rfl | (simp_all [one, cutI]; done) | (simp_all [one, cutI] <;> omega) | (simp_all [one, cutI] <;> grind)
  · exact SU
def okPrio (n : Int) : Bool := decide (0 ≤ n) && decide (n < 8)
theorem qRight {n : Int} :
    Con Tryz.prog 205 #[.int .i64 n] E l (fun _ : Unit => .bool (okPrio n)) (fun _ => l) := by
  refine Con.body (n := 9) Tryz.func205 Z Z _ (env_ok 1 Z) <| sr <| ag Z Z <| nx <| mv Z Z <| L_pur Z (p_geq Z Z) <| mv Z Z <| J_gsplit (t := 5) Z (fun h5 => ?_) (fun h5 => ?_)
  refine gp Z Z Z (p_move Z) Z <| gp Z Z Z (p_lss Z Z) Z <| L_pur Z (p_pick_t Z Z) <| ag Z Z <| nq <| J_ret <| J_return (()) Tryz.results205 (.tmp Z .nil) ?_ ?_
  · first | rfl | (simp_all [one, okPrio]; done) | (simp_all [one, okPrio] <;> omega) | (simp_all [one, okPrio] <;> grind)
  · exact SU
  refine gz Z Z Z Z Z <| gz Z Z Z Z Z <| L_pur Z (p_pick_f Z Z) <| ag Z Z <| nq <| J_ret <| J_return (()) Tryz.results205 (.tmp Z .nil) ?_ ?_
  · first | rfl | (simp_all [one, okPrio]; done) | (simp_all [one, okPrio] <;> omega) | (simp_all [one, okPrio] <;> grind)
  · exact SU
def okUnit (n : Int) : Bool := decide (1 ≤ n) && decide (n ≤ 64)
theorem sUnit {n : Int} :
    Con Tryz.prog 203 #[.int .i64 n] E l (fun _ : Unit => .bool (okUnit n)) (fun _ => l) := by
  refine Con.body (n := 9) Tryz.func203 Z Z _ (env_ok 1 Z) <| sr <| ag Z Z <| nx <| mv Z Z <| L_pur Z (p_geq Z Z) <| mv Z Z <| J_gsplit (t := 5) Z (fun h5 => ?_) (fun h5 => ?_)
  refine gp Z Z Z (p_move Z) Z <| gp Z Z Z (p_leq Z Z) Z <| L_pur Z (p_pick_t Z Z) <| ag Z Z <| nq <| J_ret <| J_return (()) Tryz.results203 (.tmp Z .nil) ?_ ?_
  · first | rfl | (simp_all [one, okUnit]; done) | (simp_all [one, okUnit] <;> omega) | (simp_all [one, okUnit] <;> grind)
  · exact SU
  refine gz Z Z Z Z Z <| gz Z Z Z Z Z <| L_pur Z (p_pick_f Z Z) <| ag Z Z <| nq <| J_ret <| J_return (()) Tryz.results203 (.tmp Z .nil) ?_ ?_
  · first | rfl | (simp_all [one, okUnit]; done) | (simp_all [one, okUnit] <;> omega) | (simp_all [one, okUnit] <;> grind)
  · exact SU
def inB (n lo hi : Int) : Bool := decide (lo ≤ n) && decide (n ≤ hi)
theorem cIn {n : Int} :
    Con Tryz.prog 147 #[.int .i64 n, .int .i64 lo, .int .i64 hi] E l (fun _ : Unit => .bool (inB n lo hi)) (fun _ => l) := by
  refine Con.body (n := 15) Tryz.func147 Z Z _ (env_ok 3 Z) <| sr <| ag Z Z <| nx <| mv Z Z <| mv Z Z <| L_pur Z (p_geq Z Z) <| mv Z Z <| J_gsplit (t := 10) Z (fun h10 => ?_) (fun h10 => ?_)
  refine gp Z Z Z (p_move Z) Z <| gp Z Z Z (p_move Z) Z <| L_op <| G_on Z Z Z <| J_pur (p_leq Z Z) Z Z Z <| L_pur Z (p_pick_t Z Z) <| ag Z Z <| nq <| J_ret <| J_return (()) Tryz.results147 (.tmp Z .nil) ?_ ?_
  · first | rfl | (simp_all [one, inB]; done) | (simp_all [one, inB] <;> omega) | (simp_all [one, inB] <;> grind)
  · exact SU
  refine gz Z Z Z Z Z <| gz Z Z Z Z Z <| gz Z Z Z Z Z <| L_pur Z (p_pick_f Z Z) <| ag Z Z <| nq <| J_ret <| J_return (()) Tryz.results147 (.tmp Z .nil) ?_ ?_
  · first | rfl | (simp_all [one, inB]; done) | (simp_all [one, inB] <;> omega) | (simp_all [one, inB] <;> grind)
  · exact SU
def canP (p : Place) : Bool := decide (1 ≤ p.1) && decide (p.1 ≤ 64) && decide (0 ≤ p.2) && decide (p.2 < 16)
theorem sCan {p : Place} :
    Con Tryz.prog 102 #[.agg (encI p).toArray] E l (fun _ : Unit => .bool (canP p)) (fun _ => l) := by
  refine Con.body (n := 21) Tryz.func102 Z Z _ (env_ok 1 Z) <| sr <| L_op <| x_box Z Z Z fun b1 => ag Z Z <| nx <| fa Z Z fa108_0 <| L_val Z (v_load Z ty3 HS (by exact rfl)) <| L_pur Z (p_geq Z Z) <| mv Z Z <| J_gsplit (t := 6) Z (fun h6 => ?_) (fun h6 => ?_)
  refine gp Z Z Z (p_fieldAddr Z fa108_0) Z <| L_op <| G_on Z Z Z <| J_val (v_load Z ty3 HS (by exact rfl)) Z Z Z <| gp Z Z Z (p_leq Z Z) Z <| L_pur Z (p_pick_t Z Z) <| mv Z Z <| J_gsplit (t := 11) Z (fun h11 => ?_) (fun h11 => ?_)
  refine gp Z Z Z (p_fieldAddr Z fa108_1) Z <| L_op <| G_on Z Z Z <| J_val (v_load Z ty3 HS (by exact rfl)) Z Z Z <| gp Z Z Z (p_geq Z Z) Z <| L_pur Z (p_pick_t Z Z) <| mv Z Z <| J_gsplit (t := 16) Z (fun h16 => ?_) (fun h16 => ?_)
  refine gp Z Z Z (p_fieldAddr Z fa108_1) Z <| L_op <| G_on Z Z Z <| J_val (v_load Z ty3 HS (by exact rfl)) Z Z Z <| gp Z Z Z (p_lss Z Z) Z <| L_pur Z (p_pick_t Z Z) <| ag Z Z <| nq <| J_ret <| J_return (()) Tryz.results102 (.tmp Z .nil) ?_ ?_
  · first | rfl | (simp_all [one, canP]; done) | (simp_all [one, canP] <;> omega) | (simp_all [one, canP] <;> grind)
  · exact SU
  refine gz Z Z Z Z Z <| gz Z Z Z Z Z <| gz Z Z Z Z Z <| L_pur Z (p_pick_f Z Z) <| ag Z Z <| nq <| J_ret <| J_return (()) Tryz.results102 (.tmp Z .nil) ?_ ?_
  · first | rfl | (simp_all [one, canP]; done) | (simp_all [one, canP] <;> omega) | (simp_all [one, canP] <;> grind)
  · exact SU
  refine gz Z Z Z Z Z <| gz Z Z Z Z Z <| gz Z Z Z Z Z <| L_pur Z (p_pick_f Z Z) <| mv Z Z <| gz Z Z Z Z Z <| gz Z Z Z Z Z <| gz Z Z Z Z Z <| L_pur Z (p_pick_f Z Z) <| ag Z Z <| nq <| J_ret <| J_return (()) Tryz.results102 (.tmp Z .nil) ?_ ?_
  · first | rfl | (simp_all [one, canP]; done) | (simp_all [one, canP] <;> omega) | (simp_all [one, canP] <;> grind)
  · exact SU
  refine gz Z Z Z Z Z <| gz Z Z Z Z Z <| gz Z Z Z Z Z <| L_pur Z (p_pick_f Z Z) <| mv Z Z <| gz Z Z Z Z Z <| gz Z Z Z Z Z <| gz Z Z Z Z Z <| L_pur Z (p_pick_f Z Z) <| mv Z Z <| gz Z Z Z Z Z <| gz Z Z Z Z Z <| gz Z Z Z Z Z <| L_pur Z (p_pick_f Z Z) <| ag Z Z <| nq <| J_ret <| J_return (()) Tryz.results102 (.tmp Z .nil) ?_ ?_
  · first | rfl | (simp_all [one, canP]; done) | (simp_all [one, canP] <;> omega) | (simp_all [one, canP] <;> grind)
  · exact SU
def shl1 (n : Int) : Int := IntKind.i64.wrap (1 * 2 ^ n.toNat)
theorem shl1_small : ∀ k : Nat, k ≤ 8 → shl1 (k : Int) = 2 ^ k ∧ (2 : Int) ^ k ≤ 256 ∧ (1 : Int) ≤ 2 ^ k := by decide
def checkC (c : Cap) : Bool := inB c.kind 1 9 && inB c.rights 0 7 && inB c.obj 1 64 &&
  (if c.kind = 1 then inB c.size 1 (64 - c.obj + 1) && decide (c.badge = 0)
   else if c.kind = 2 then inB c.size 0 8 && inB c.badge 0 (shl1 c.size - 1)
   else if c.kind = 4 ∨ c.kind = 5 then decide (c.size = 0) && inB c.badge 0 2147483647
   else decide (c.size = 0) && decide (c.badge = 0))
theorem cCheck {c : Cap} :
    Con Tryz.prog 104 #[.agg (encC c).toArray] E l (fun _ : Unit => .bool (checkC c)) (fun _ => l) := by
  refine Con.body (n := 68) Tryz.func104 Z Z _ (env_ok 1 Z) <| sr <| L_op <| x_box Z Z Z fun b1 => ag Z Z <| nxx <| fa Z Z fa110_0 <| L_val Z (v_load Z ty3 HS (by exact rfl)) <| xo fc147 (A3 Z Z Z) Z (cIn) fun _ => L_pur Z (p_not Z) <| mv Z Z <| J_gsplit (t := 7) Z (fun h7 => ?_) (fun h7 => ?_)
  refine gz Z Z Z Z Z <| gz Z Z Z Z Z <| gz Z Z Z Z Z <| gz Z Z Z Z Z <| L_pur Z (p_pick_t Z Z) <| mv Z Z <| gz Z Z Z Z Z <| gz Z Z Z Z Z <| gz Z Z Z Z Z <| gz Z Z Z Z Z <| L_pur Z (p_pick_t Z Z) <| nq <| C_true Z <| sr <| ag Z Z <| nq <| J_ret <| Q_then_ret <| J_return (()) Tryz.results104 (.tmp Z .nil) ?_ ?_
  · first | rfl | (simp_all [one, checkC]; done) | (simp_all [one, checkC] <;> omega) | (simp_all [one, checkC] <;> grind)
  · exact SU
  refine gp Z Z Z (p_fieldAddr Z fa110_4) Z <| L_op <| G_on Z Z Z <| J_val (v_load Z ty3 HS (by exact rfl)) Z Z Z <| L_op <| G_on Z Z Z <| xc fc147 (A3 Z Z Z) Z (cIn) fun _ => gp Z Z Z (p_not Z) Z <| L_pur Z (p_pick_f Z Z) <| mv Z Z <| J_gsplit (t := 13) Z (fun h13 => ?_) (fun h13 => ?_)
  refine gz Z Z Z Z Z <| gz Z Z Z Z Z <| gz Z Z Z Z Z <| gz Z Z Z Z Z <| L_pur Z (p_pick_t Z Z) <| nq <| C_true Z <| sr <| ag Z Z <| nq <| J_ret <| Q_then_ret <| J_return (()) Tryz.results104 (.tmp Z .nil) ?_ ?_
  · first | rfl | (simp_all [one, checkC]; done) | (simp_all [one, checkC] <;> omega) | (simp_all [one, checkC] <;> grind)
  · exact SU
  refine gp Z Z Z (p_fieldAddr Z fa110_1) Z <| L_op <| G_on Z Z Z <| J_val (v_load Z ty3 HS (by exact rfl)) Z Z Z <| L_op <| G_on Z Z Z <| xc fc147 (A3 Z Z Z) Z (cIn) fun _ => gp Z Z Z (p_not Z) Z <| L_pur Z (p_pick_f Z Z) <| nq <| C_split Z (fun h18 => ?_) (fun h18 => ?_)
  refine sr <| ag Z Z <| nq <| J_ret <| Q_then_ret <| J_return (()) Tryz.results104 (.tmp Z .nil) ?_ ?_
  · first | rfl | (simp_all [one, checkC]; done) | (simp_all [one, checkC] <;> omega) | (simp_all [one, checkC] <;> grind)
  · exact SU
  have ho : 1 ≤ c.obj ∧ c.obj ≤ 64 := by simpa [inB] using h18
  refine J_skip <| Q_then <| J_seq <| sr <| fa Z Z fa110_0 <| L_val Z (v_load Z ty3 HS (by exact rfl)) <| nq <| J_block <| sr <| L_pur Z (p_eql Z Z) <| ag Z Z <| nq <| C_split Z (fun h21 => ?_) (fun h21 => ?_)
  refine sr <| fa Z Z fa110_2 <| L_val Z (v_load Z ty3 HS (by exact rfl)) <| fa Z Z fa110_1 <| L_val Z (v_load Z ty3 HS (by exact rfl)) <| L_pur Z (p_sub64 Z Z (by omega)) <| L_pur Z (p_add64 Z Z (by omega)) <| xo fc147 (A3 Z Z Z) Z (cIn) fun _ => mv Z Z <| J_gsplit (t := 30) Z (fun h30 => ?_) (fun h30 => ?_)
  refine gp Z Z Z (p_fieldAddr Z fa110_3) Z <| L_op <| G_on Z Z Z <| J_val (v_load Z ty3 HS (by exact rfl)) Z Z Z <| gp Z Z Z (p_eql Z Z) Z <| L_pur Z (p_pick_t Z Z) <| ag Z Z <| nq <| J_ret <| Q_blk_ret <| Q_then_ret <| J_return (()) Tryz.results104 (.tmp Z .nil) ?_ ?_
  · first | rfl | (simp_all [one, checkC]; done) | (simp_all [one, checkC] <;> omega) | (simp_all [one, checkC] <;> grind)
  · exact SU
  refine gz Z Z Z Z Z <| gz Z Z Z Z Z <| gz Z Z Z Z Z <| L_pur Z (p_pick_f Z Z) <| ag Z Z <| nq <| J_ret <| Q_blk_ret <| Q_then_ret <| J_return (()) Tryz.results104 (.tmp Z .nil) ?_ ?_
  · first | rfl | (simp_all [one, checkC]; done) | (simp_all [one, checkC] <;> omega) | (simp_all [one, checkC] <;> grind)
  · exact SU
  refine sr <| L_pur Z (p_eql Z Z) <| ag Z Z <| nq <| C_split Z (fun h35 => ?_) (fun h35 => ?_)
  refine J_seq <| J_drawL none mixed <| ip 0 Z Z Z Z (p_fieldAddr Z fa110_2) <| iv 1 Z Z Z Z (fun _ => v_load Z ty3 HS (by exact rfl)) <| i1 2 Z <| xc fc147 (A3 Z Z Z) Z (cIn) fun _ => ip 3 Z Z Z Z (p_move Z) <| J_gsplit (t := 40) Z (fun h40 => ?_) (fun h40 => ?_)
  have hsz : 0 ≤ c.size ∧ c.size ≤ 8 := by simpa [inB] using h40
  obtain ⟨k, hk⟩ : ∃ k : Nat, c.size = k := ⟨c.size.toNat, by omega⟩
  obtain ⟨g1, g2, g3⟩ := shl1_small k (by omega)
  have g4 : shl1 c.size = 2 ^ k := by rw [hk]; exact g1
  have g5 : (IntKind.i64.bits : Int) = 64 := rfl
  refine I_takeOn (i := 4) Z Z Z Z Z Z Z (by kernel_rfl) (fun _ _ _ _ h => h) (fun _ => Pur.vl (p_fieldAddr Z fa110_3)) <| I_takeOn (i := 5) Z Z Z Z Z Z Z (by kernel_rfl) (fun _ _ _ _ h => h) (fun _ => v_load Z ty3 HS (by exact rfl)) <| I_takeOn (i := 6) Z Z Z Z Z Z Z (by kernel_rfl) (fun _ _ _ _ h => h) (fun _ => Pur.vl (p_fieldAddr Z fa110_2)) <| I_takeOn (i := 7) Z Z Z Z Z Z Z (by kernel_rfl) (fun _ _ _ _ h => h) (fun _ => v_load Z ty3 HS (by exact rfl)) <| I_takeOn (i := 8) Z Z Z Z Z Z Z (by kernel_rfl) (fun _ _ _ _ h => h) (fun _ => Pur.vl (p_shl Z Z (by omega) (by omega))) <| J_slot (t := 45) (v := .int .i64 (shl1 c.size)) Z Z <| I_takeOn (i := 9) Z Z Z Z Z Z Z (by kernel_rfl) (fun _ _ _ _ h => h) (fun _ => Pur.vl (p_sub64 Z Z (by omega))) <| i1 10 Z <| G_on Z Z Z <| xc fc147 (A3 Z Z Z) Z (cIn) fun _ => ip 11 Z Z Z Z (p_pick_t Z Z) <| ip 12 Z Z Z Z (p_assign Z) ?_
  refine i0 <| Q_then <| J_ret <| Q_blk_ret <| Q_then_ret <| J_return (()) Tryz.results104 (.tmp Z .nil) ?_ ?_
  · first | rfl | (simp_all [one, checkC]; done) | (simp_all [one, checkC] <;> omega) | (simp_all [one, checkC] <;> grind)
  · exact SU
  refine I_takeOff (i := 4) Z Z Z Z Z Z Z Z (by kernel_rfl) (fun _ _ _ _ h => h) <| I_takeOff (i := 5) Z Z Z Z Z Z Z Z (by kernel_rfl) (fun _ _ _ _ h => h) <| I_takeOff (i := 6) Z Z Z Z Z Z Z Z (by kernel_rfl) (fun _ _ _ _ h => h) <| I_takeOff (i := 7) Z Z Z Z Z Z Z Z (by kernel_rfl) (fun _ _ _ _ h => h) <| I_takeOff (i := 8) Z Z Z Z Z Z Z Z (by kernel_rfl) (fun _ _ _ _ h => h) <| I_takeOff (i := 9) Z Z Z Z Z Z Z Z (by kernel_rfl) (fun _ _ _ _ h => h) <| I_takeOff (i := 10) Z Z Z Z Z Z Z Z (by kernel_rfl) (fun _ _ _ _ h => h) <| ip 11 Z Z Z Z (p_pick_f Z Z) <| ip 12 Z Z Z Z (p_assign Z) <| i0 <| Q_then <| J_ret <| Q_blk_ret <| Q_then_ret <| J_return (()) Tryz.results104 (.tmp Z .nil) ?_ ?_
  · first | rfl | (simp_all [one, checkC]; done) | (simp_all [one, checkC] <;> omega) | (simp_all [one, checkC] <;> grind)
  · exact SU
  refine J_seq <| sr <| L_pur Z (p_eql Z Z) <| ag Z Z <| nq <| C_split Z (fun h49 => ?_) (fun h49 => ?_)
  refine J_skip <| Q_then <| C_split Z (fun h49 => ?_) (fun h49 => ?_)
  refine sr <| fa Z Z fa110_2 <| L_val Z (v_load Z ty3 HS (by exact rfl)) <| L_pur Z (p_eql Z Z) <| mv Z Z <| J_gsplit (t := 55) Z (fun h55 => ?_) (fun h55 => ?_)
  refine gp Z Z Z (p_fieldAddr Z fa110_3) Z <| L_op <| G_on Z Z Z <| J_val (v_load Z ty3 HS (by exact rfl)) Z Z Z <| L_op <| G_on Z Z Z <| xc fc147 (A3 Z Z Z) Z (cIn) fun _ => L_pur Z (p_pick_t Z Z) <| ag Z Z <| nq <| J_ret <| Q_blk_ret <| Q_then_ret <| J_return (()) Tryz.results104 (.tmp Z .nil) ?_ ?_
  · first | rfl | (simp_all [one, checkC]; done) | (simp_all [one, checkC] <;> omega) | (simp_all [one, checkC] <;> grind)
  · exact SU
  refine gz Z Z Z Z Z <| gz Z Z Z Z Z <| gz Z Z Z Z Z <| L_pur Z (p_pick_f Z Z) <| ag Z Z <| nq <| J_ret <| Q_blk_ret <| Q_then_ret <| J_return (()) Tryz.results104 (.tmp Z .nil) ?_ ?_
  · first | rfl | (simp_all [one, checkC]; done) | (simp_all [one, checkC] <;> omega) | (simp_all [one, checkC] <;> grind)
  · exact SU
  refine J_skip <| Q_blk_normal <| qx <| fa Z Z fa110_2 <| L_val Z (v_load Z ty3 HS (by exact rfl)) <| L_pur Z (p_eql Z Z) <| mv Z Z <| J_gsplit (t := 63) Z (fun h63 => ?_) (fun h63 => ?_)
  refine gp Z Z Z (p_fieldAddr Z fa110_3) Z <| L_op <| G_on Z Z Z <| J_val (v_load Z ty3 HS (by exact rfl)) Z Z Z <| gp Z Z Z (p_eql Z Z) Z <| L_pur Z (p_pick_t Z Z) <| ag Z Z <| nq <| J_ret <| J_return (()) Tryz.results104 (.tmp Z .nil) ?_ ?_
  · first | rfl | (simp_all [one, checkC]; done) | (simp_all [one, checkC] <;> omega) | (simp_all [one, checkC] <;> grind)
  · exact SU
  refine gz Z Z Z Z Z <| gz Z Z Z Z Z <| gz Z Z Z Z Z <| L_pur Z (p_pick_f Z Z) <| ag Z Z <| nq <| J_ret <| J_return (()) Tryz.results104 (.tmp Z .nil) ?_ ?_
  · first | rfl | (simp_all [one, checkC]; done) | (simp_all [one, checkC] <;> omega) | (simp_all [one, checkC] <;> grind)
  · exact SU
  refine J_region <| L_pur Z (p_eql Z Z) <| ag Z Z <| nq <| C_split Z (fun h49 => ?_) (fun h49 => ?_)
  refine sr <| fa Z Z fa110_2 <| L_val Z (v_load Z ty3 HS (by exact rfl)) <| L_pur Z (p_eql Z Z) <| mv Z Z <| J_gsplit (t := 55) Z (fun h55 => ?_) (fun h55 => ?_)
  refine gp Z Z Z (p_fieldAddr Z fa110_3) Z <| L_op <| G_on Z Z Z <| J_val (v_load Z ty3 HS (by exact rfl)) Z Z Z <| L_op <| G_on Z Z Z <| xc fc147 (A3 Z Z Z) Z (cIn) fun _ => L_pur Z (p_pick_t Z Z) <| ag Z Z <| nq <| J_ret <| Q_blk_ret <| Q_then_ret <| J_return (()) Tryz.results104 (.tmp Z .nil) ?_ ?_
  · first | rfl | (simp_all [one, checkC]; done) | (simp_all [one, checkC] <;> omega) | (simp_all [one, checkC] <;> grind)
  · exact SU
  refine gz Z Z Z Z Z <| gz Z Z Z Z Z <| gz Z Z Z Z Z <| L_pur Z (p_pick_f Z Z) <| ag Z Z <| nq <| J_ret <| Q_blk_ret <| Q_then_ret <| J_return (()) Tryz.results104 (.tmp Z .nil) ?_ ?_
  · first | rfl | (simp_all [one, checkC]; done) | (simp_all [one, checkC] <;> omega) | (simp_all [one, checkC] <;> grind)
  · exact SU
  refine J_skip <| Q_blk_normal <| qx <| fa Z Z fa110_2 <| L_val Z (v_load Z ty3 HS (by exact rfl)) <| L_pur Z (p_eql Z Z) <| mv Z Z <| J_gsplit (t := 63) Z (fun h63 => ?_) (fun h63 => ?_)
  refine gp Z Z Z (p_fieldAddr Z fa110_3) Z <| L_op <| G_on Z Z Z <| J_val (v_load Z ty3 HS (by exact rfl)) Z Z Z <| gp Z Z Z (p_eql Z Z) Z <| L_pur Z (p_pick_t Z Z) <| ag Z Z <| nq <| J_ret <| J_return (()) Tryz.results104 (.tmp Z .nil) ?_ ?_
  · first | rfl | (simp_all [one, checkC]; done) | (simp_all [one, checkC] <;> omega) | (simp_all [one, checkC] <;> grind)
  · exact SU
  refine gz Z Z Z Z Z <| gz Z Z Z Z Z <| gz Z Z Z Z Z <| L_pur Z (p_pick_f Z Z) <| ag Z Z <| nq <| J_ret <| J_return (()) Tryz.results104 (.tmp Z .nil) ?_ ?_
  · first | rfl | (simp_all [one, checkC]; done) | (simp_all [one, checkC] <;> omega) | (simp_all [one, checkC] <;> grind)
  · exact SU
end Go.Pse
namespace Go.Pse
open Go.RowKit Go.Proofs
def slPutOk (ps : List (Place × SV)) (p : Place) (c : Cap) (q : Place) : Bool := canP p && !(look ps p).isSome && checkC c && (decide (q = (0, 0)) || (look ps q).isSome)
def slPut (ps : List (Place × SV)) (p : Place) (c : Cap) (q : Place) : List (Place × SV) := if slPutOk ps p c q then ins ps p (c, q) else ps
variable {E : World} {l m : List As}
theorem slHas {b o : Nat} {ps : List (Place × SV)} (hp : Pick (slA b o ps) l m) {p : Place} :
    Con Tryz.prog 103 #[.pointer (some ⟨b, o, none⟩), .agg (encI p).toArray] E l (fun _ : Unit => .bool (look ps p).isSome) (fun _ => slA b o ps :: m) := by
  refine Con.body (n := 17) Tryz.func103 Z Z _ (env_ok 2 Z) <| J_pick hp <| J_slO fun ob _ => sr <| L_op <| x_box Z Z Z fun b3 => ag Z Z <| nq <| J_seq <| J_drawL none mixed <| ip 0 Z Z Z Z (p_move Z) <| ip 1 Z Z Z Z (p_nilCheck Z) <| ip 2 Z Z Z Z (p_fieldAddr Z fa126_0) <| iv 3 Z Z Z Z (fun _ => v_loadL Z ty124 HS Z (by exact rfl)) <| iv 4 Z Z Z Z (fun _ => v_loadA Z ty108 HS CT) <| iv 5 Z Z Z Z (fun _ => v_lookOk (ek := kI) (ev := evS) (a := p) Z Z ky108 Tryz.underlying124 zv195 HS) <| J_slot (t := 13) (v := .tuple #[evS ((look ps p).getD s0), .bool (look ps p).isSome]) Z (by cases look ps p <;> rfl) <| ip 6 Z Z Z Z (p_move Z) <| ip 7 Z Z Z Z (p_extract Z Z) <| ip 8 Z Z Z Z (p_extract Z Z) <| i1 9 Z <| x_alloc ty195 Z fun b5 => i1 10 Z <| x_store Z Z ty195 Z SM SM RO PT ?_
  refine ip 11 Z Z Z Z (p_assign Z) <| i0 <| qx <| mv Z Z <| ag Z Z <| nq <| J_ret <| J_slS (b := b) (o := o) (ps := ps) _ PX trivial ?_
  exact J_return (()) Tryz.results103 (.tmp Z .nil) Z SU
theorem slLays {b o : Nat} {ps : List (Place × SV)} (hp : Pick (slA b o ps) l m) {p : Place} {s : SV} :
  Con Tryz.prog 105 #[.pointer (some ⟨b, o, none⟩), .agg (encI p).toArray, .agg (encC s.1 ++ encI s.2).toArray] E l (fun _ : Unit => .tuple #[]) (fun _ => slA b o (ins ps p s) :: m) := by
 refine Con.body (n := 21) Tryz.func105 Z Z _ (env_ok 3 Z) <| J_pick hp <| J_slO fun ob _ => sr <| L_op <| x_box Z Z Z fun b4 => L_op <| x_box Z Z Z fun b5 => nxx <| mv Z Z <| nc Z Z <| fa Z Z fa126_0 <| L_val Z (v_loadL Z ty124 HS Z (by exact rfl)) <| L_pur Z (p_eqNilMap Tryz.underlying124 Z) <| nq <| C_split Z (fun h10 => ?_) (fun h10 => ?_)
 obtain rfl : ob = none := by simpa using h10
 refine J_mapNone (ps := ps) HS fun hps => ?_
 subst hps
 refine J_region <| mv Z Z <| L_op <| x_makeMap (ek := kI) (ev := evS) Z fun b12 => nc Z Z <| fa Z Z fa126_0 <| L_op <| x_storeL Z Z ty124 Z SM SM Z RO Z PT <| nq <| J_drawT 6 mixed (by kernel_rfl) <| sm Z Z <| sp Z (p_nilCheck Z) <| sp Z (p_fieldAddr Z fa126_0) <| S_val Z (v_loadL Z ty124 HS Z (by exact rfl)) <| S_val Z (v_loadA Z ty108 HS CT) <| S_val Z (v_loadA Z ty195 HS CT) <| S_nil <| L_op <| x_mapUpdate (ek := kI) (ev := evS) (a := p) (c := s) Z Z Z ky108 Tryz.underlying124 PC <| L_nil <| J_endnormal <| J_slS (b := b) (o := o) (ps := ins [] p s) _ PX trivial ?_
 exact J_return (()) Tryz.results105 .nil Z SU
 obtain ⟨bm, rfl⟩ : ∃ bm, ob = some bm := by cases ob with | none => simp at h10 | some x => exact ⟨x, rfl⟩
 refine J_skip <| Q_then <| J_drawT 6 mixed (by kernel_rfl) <| sm Z Z <| sp Z (p_nilCheck Z) <| sp Z (p_fieldAddr Z fa126_0) <| S_val Z (v_loadL Z ty124 HS Z (by exact rfl)) <| S_val Z (v_loadA Z ty108 HS CT) <| S_val Z (v_loadA Z ty195 HS CT) <| S_nil <| L_op <| x_mapUpdate (ek := kI) (ev := evS) (a := p) (c := s) Z Z Z ky108 Tryz.underlying124 PC <| L_nil <| J_endnormal <| J_slS (b := b) (o := o) (ps := ins ps p s) _ PX trivial ?_
 exact J_return (()) Tryz.results105 .nil Z SU
theorem slPutC {b o : Nat} {ps : List (Place × SV)} (hp : Pick (slA b o ps) l m) {p : Place} {c : Cap} {q : Place} :
    Con Tryz.prog 58 #[.pointer (some ⟨b, o, none⟩), .agg (encI p).toArray, .agg (encC c).toArray, .agg (encI q).toArray] E l (fun _ : Unit => .bool (slPutOk ps p c q)) (fun _ => slA b o (slPut ps p c q) :: m) := by
  refine Con.body (n := 39) Tryz.func58 Z Z _ (env_ok 4 Z) ?_
  obtain ⟨q1, q2⟩ := q
  refine J_pick hp <| sr <| L_op <| x_box Z Z Z fun b5 => L_op <| x_box Z Z Z fun b6 => L_op <| x_box Z Z Z fun b7 => ag Z Z <| nxx <| L_val Z (v_loadA Z ty108 HS CT) <| xo fc102 (A1 Z) Z (sCan) fun _ => L_pur Z (p_not Z) <| mv Z Z <| J_gsplit (t := 12) Z (fun h12 => ?_) (fun h12 => ?_)
  refine gz Z Z Z Z Z <| gz Z Z Z Z Z <| gz Z Z Z Z Z <| L_pur Z (p_pick_t Z Z) <| mv Z Z <| gz Z Z Z Z Z <| gz Z Z Z Z Z <| gz Z Z Z Z Z <| L_pur Z (p_pick_t Z Z) <| mv Z Z <| gz Z Z Z Z Z <| gz Z Z Z Z Z <| gz Z Z Z Z Z <| gz Z Z Z Z Z <| L_op <| G_offU Z Z Z Z Z <| L_op <| G_offU Z Z Z Z Z <| L_op <| G_offU Z Z Z Z Z <| L_op <| G_offU Z Z Z Z Z <| gz Z Z Z Z Z <| L_pur Z (p_pick_t Z Z) <| nq <| C_true Z <| sr <| ag Z Z <| nq <| J_ret <| Q_then_ret <| J_pick (A := slA b o _) PC <| J_asTo (B := slA b o (slPut ps p c (q1, q2))) (by first | (simp_all [slPut, slPutOk, Prod.ext_iff]; done) | (simp_all [slPut, slPutOk, Prod.ext_iff] <;> grind)) <| J_return (()) Tryz.results58 (.tmp Z .nil) ?_ ?_
  · first | rfl | (simp_all [one, slPutOk, Prod.ext_iff]; done) | (simp_all [one, slPutOk, Prod.ext_iff] <;> omega) | (simp_all [one, slPutOk, Prod.ext_iff] <;> grind)
  · exact SU
  refine gp Z Z Z (p_move Z) Z <| L_op <| G_on Z Z Z <| J_val (v_loadA Z ty108 HS CT) Z Z Z <| L_op <| G_on Z Z Z <| xc fc103 (A2 Z Z) Z (slHas (ps := ps) PC) fun _ => L_pur Z (p_pick_f Z Z) <| mv Z Z <| J_gsplit (t := 17) Z (fun h17 => ?_) (fun h17 => ?_)
  refine gz Z Z Z Z Z <| gz Z Z Z Z Z <| gz Z Z Z Z Z <| L_pur Z (p_pick_t Z Z) <| mv Z Z <| gz Z Z Z Z Z <| gz Z Z Z Z Z <| gz Z Z Z Z Z <| gz Z Z Z Z Z <| L_op <| G_offU Z Z Z Z Z <| L_op <| G_offU Z Z Z Z Z <| L_op <| G_offU Z Z Z Z Z <| L_op <| G_offU Z Z Z Z Z <| gz Z Z Z Z Z <| L_pur Z (p_pick_t Z Z) <| nq <| C_true Z <| sr <| ag Z Z <| nq <| J_ret <| Q_then_ret <| J_pick (A := slA b o _) PC <| J_asTo (B := slA b o (slPut ps p c (q1, q2))) (by first | (simp_all [slPut, slPutOk, Prod.ext_iff]; done) | (simp_all [slPut, slPutOk, Prod.ext_iff] <;> grind)) <| J_return (()) Tryz.results58 (.tmp Z .nil) ?_ ?_
  · first | rfl | (simp_all [one, slPutOk, Prod.ext_iff]; done) | (simp_all [one, slPutOk, Prod.ext_iff] <;> omega) | (simp_all [one, slPutOk, Prod.ext_iff] <;> grind)
  · exact SU
  refine L_op <| G_on Z Z Z <| J_val (v_loadA Z ty110 HS CT) Z Z Z <| L_op <| G_on Z Z Z <| xc fc104 (A1 Z) Z (cCheck) fun _ => gp Z Z Z (p_not Z) Z <| L_pur Z (p_pick_f Z Z) <| mv Z Z <| J_gsplit (t := 22) Z (fun h22 => ?_) (fun h22 => ?_)
  refine gz Z Z Z Z Z <| gz Z Z Z Z Z <| gz Z Z Z Z Z <| gz Z Z Z Z Z <| L_op <| G_offU Z Z Z Z Z <| L_op <| G_offU Z Z Z Z Z <| L_op <| G_offU Z Z Z Z Z <| L_op <| G_offU Z Z Z Z Z <| gz Z Z Z Z Z <| L_pur Z (p_pick_t Z Z) <| nq <| C_true Z <| sr <| ag Z Z <| nq <| J_ret <| Q_then_ret <| J_pick (A := slA b o _) PC <| J_asTo (B := slA b o (slPut ps p c (q1, q2))) (by first | (simp_all [slPut, slPutOk, Prod.ext_iff]; done) | (simp_all [slPut, slPutOk, Prod.ext_iff] <;> grind)) <| J_return (()) Tryz.results58 (.tmp Z .nil) ?_ ?_
  · first | rfl | (simp_all [one, slPutOk, Prod.ext_iff]; done) | (simp_all [one, slPutOk, Prod.ext_iff] <;> omega) | (simp_all [one, slPutOk, Prod.ext_iff] <;> grind)
  · exact SU
  refine L_op <| G_on Z Z Z <| J_val (v_loadA Z ty108 HS CT) Z Z Z <| gp Z Z Z (bld108 .nil (by repeat constructor)) Z <| gp Z Z Z (p_nev Z Z (fun w => eg108 _ _ _ _ _ w) (fun w => nev108 _ _ _ _ w)) Z <| L_op <| G_on Z Z Z <| J_pur (p_move Z) Z Z Z <| J_gsplit (t := 26) Z (fun h26 => ?_) (fun h26 => ?_)
  refine gp Z Z Z (p_move Z) Z <| L_op <| G_on Z Z Z <| J_val (v_loadA Z ty108 HS CT) Z Z Z <| L_op <| G_on Z Z Z <| xc fc103 (A2 Z Z) Z (slHas (ps := ps) PC) fun _ => gp Z Z Z (p_not Z) Z <| gp Z Z Z (p_pick_t Z Z) Z <| L_pur Z (p_pick_f Z Z) <| nq <| C_split Z (fun h32 => ?_) (fun h32 => ?_)
  refine sr <| ag Z Z <| nq <| J_ret <| Q_then_ret <| J_pick (A := slA b o _) PC <| J_asTo (B := slA b o (slPut ps p c (q1, q2))) (by first | (simp_all [slPut, slPutOk, Prod.ext_iff]; done) | (simp_all [slPut, slPutOk, Prod.ext_iff] <;> grind)) <| J_return (()) Tryz.results58 (.tmp Z .nil) ?_ ?_
  · first | rfl | (simp_all [one, slPutOk, Prod.ext_iff]; done) | (simp_all [one, slPutOk, Prod.ext_iff] <;> omega) | (simp_all [one, slPutOk, Prod.ext_iff] <;> grind)
  · exact SU
  refine J_skip <| qx <| mv Z Z <| L_val Z (v_loadA Z ty108 HS CT) <| L_val Z (v_loadA Z ty110 HS CT) <| L_val Z (v_loadA Z ty108 HS CT) <| L_pur Z (bld195 (.cons Z (.cons Z .nil)) (by repeat constructor)) <| xo fc105 (A3 Z Z Z) Z (slLays (ps := ps) (p := p) (s := (c, (q1, q2))) PC) fun _ => nx <| ag Z Z <| nq <| J_ret <| J_pick (A := slA b o _) PC <| J_asTo (B := slA b o (slPut ps p c (q1, q2))) (by first | (simp_all [slPut, slPutOk, Prod.ext_iff]; done) | (simp_all [slPut, slPutOk, Prod.ext_iff] <;> grind)) <| J_return (()) Tryz.results58 (.tmp Z .nil) ?_ ?_
  · first | rfl | (simp_all [one, slPutOk, Prod.ext_iff]; done) | (simp_all [one, slPutOk, Prod.ext_iff] <;> omega) | (simp_all [one, slPutOk, Prod.ext_iff] <;> grind)
  · exact SU
  refine gz Z Z Z Z Z <| gz Z Z Z Z Z <| gz Z Z Z Z Z <| gz Z Z Z Z Z <| gp Z Z Z (p_pick_f Z Z) Z <| L_pur Z (p_pick_f Z Z) <| nq <| C_false Z <| J_skip <| qx <| mv Z Z <| L_val Z (v_loadA Z ty108 HS CT) <| L_val Z (v_loadA Z ty110 HS CT) <| L_val Z (v_loadA Z ty108 HS CT) <| L_pur Z (bld195 (.cons Z (.cons Z .nil)) (by repeat constructor)) <| xo fc105 (A3 Z Z Z) Z (slLays (ps := ps) (p := p) (s := (c, (q1, q2))) PC) fun _ => nx <| ag Z Z <| nq <| J_ret <| J_pick (A := slA b o _) PC <| J_asTo (B := slA b o (slPut ps p c (q1, q2))) (by first | (simp_all [slPut, slPutOk, Prod.ext_iff]; done) | (simp_all [slPut, slPutOk, Prod.ext_iff] <;> grind)) <| J_return (()) Tryz.results58 (.tmp Z .nil) ?_ ?_
  · first | rfl | (simp_all [one, slPutOk, Prod.ext_iff]; done) | (simp_all [one, slPutOk, Prod.ext_iff] <;> omega) | (simp_all [one, slPutOk, Prod.ext_iff] <;> grind)
  · exact SU
def spSetOk (ps : List (Place × M1)) (p : Place) (f : M1) : Bool := !(decide (p.2 < 0) || decide (p.2 ≥ 8) || !okUnit p.1 || !okUnit f.1 || decide (f.2 < 1) || decide (f.2 > 3)) && !(look ps p).isSome
def spSet (ps : List (Place × M1)) (p : Place) (f : M1) : List (Place × M1) := if spSetOk ps p f then ins ps p f else ps
theorem spSetC {b o : Nat} {ps : List (Place × M1)} (hp : Pick (spA b o ps) l m) {p : Place} {f : M1} :
    Con Tryz.prog 142 #[.pointer (some ⟨b, o, none⟩), .agg (encI p).toArray, .agg (encI f).toArray] E l (fun _ : Unit => .bool (spSetOk ps p f)) (fun _ => spA b o (spSet ps p f) :: m) := by
  refine Con.body (n := 64) Tryz.func142 Z Z _ (env_ok 3 Z) <| J_pick hp <| J_spO fun ob _ => sr <| L_op <| x_box Z Z Z fun b4 => L_op <| x_box Z Z Z fun b5 => ag Z Z <| nxx <| fa Z Z fa199_1 <| L_val Z (v_load Z ty3 HS (by exact rfl)) <| L_pur Z (p_lss Z Z) <| mv Z Z <| J_gsplit (t := 12) Z (fun h12 => ?_) (fun h12 => ?_)
  refine gz Z Z Z Z Z <| gz Z Z Z Z Z <| gz Z Z Z Z Z <| L_pur Z (p_pick_t Z Z) <| mv Z Z <| gz Z Z Z Z Z <| gz Z Z Z Z Z <| gz Z Z Z Z Z <| gz Z Z Z Z Z <| L_pur Z (p_pick_t Z Z) <| mv Z Z <| gz Z Z Z Z Z <| gz Z Z Z Z Z <| gz Z Z Z Z Z <| gz Z Z Z Z Z <| L_pur Z (p_pick_t Z Z) <| mv Z Z <| gz Z Z Z Z Z <| gz Z Z Z Z Z <| gz Z Z Z Z Z <| L_pur Z (p_pick_t Z Z) <| mv Z Z <| gz Z Z Z Z Z <| gz Z Z Z Z Z <| gz Z Z Z Z Z <| L_pur Z (p_pick_t Z Z) <| nq <| C_true Z <| sr <| ag Z Z <| nq <| J_ret <| Q_then_ret <| J_spS (b := b) (o := o) (ps := ps) _ PX trivial <| J_asTo (B := spA b o (spSet ps p f)) (by first | (simp_all [spSet, spSetOk]; done) | (simp_all [spSet, spSetOk] <;> grind)) <| J_return (()) Tryz.results142 (.tmp Z .nil) ?_ ?_
  · first | rfl | (simp_all [one, spSetOk]; done) | (simp_all [one, spSetOk] <;> omega) | (simp_all [one, spSetOk] <;> grind)
  · exact SU
  refine gp Z Z Z (p_fieldAddr Z fa199_1) Z <| L_op <| G_on Z Z Z <| J_val (v_load Z ty3 HS (by exact rfl)) Z Z Z <| gp Z Z Z (p_geq Z Z) Z <| L_pur Z (p_pick_f Z Z) <| mv Z Z <| J_gsplit (t := 17) Z (fun h17 => ?_) (fun h17 => ?_)
  refine gz Z Z Z Z Z <| gz Z Z Z Z Z <| gz Z Z Z Z Z <| gz Z Z Z Z Z <| L_pur Z (p_pick_t Z Z) <| mv Z Z <| gz Z Z Z Z Z <| gz Z Z Z Z Z <| gz Z Z Z Z Z <| gz Z Z Z Z Z <| L_pur Z (p_pick_t Z Z) <| mv Z Z <| gz Z Z Z Z Z <| gz Z Z Z Z Z <| gz Z Z Z Z Z <| L_pur Z (p_pick_t Z Z) <| mv Z Z <| gz Z Z Z Z Z <| gz Z Z Z Z Z <| gz Z Z Z Z Z <| L_pur Z (p_pick_t Z Z) <| nq <| C_true Z <| sr <| ag Z Z <| nq <| J_ret <| Q_then_ret <| J_spS (b := b) (o := o) (ps := ps) _ PX trivial <| J_asTo (B := spA b o (spSet ps p f)) (by first | (simp_all [spSet, spSetOk]; done) | (simp_all [spSet, spSetOk] <;> grind)) <| J_return (()) Tryz.results142 (.tmp Z .nil) ?_ ?_
  · first | rfl | (simp_all [one, spSetOk]; done) | (simp_all [one, spSetOk] <;> omega) | (simp_all [one, spSetOk] <;> grind)
  · exact SU
  refine gp Z Z Z (p_fieldAddr Z fa199_0) Z <| L_op <| G_on Z Z Z <| J_val (v_load Z ty3 HS (by exact rfl)) Z Z Z <| L_op <| G_on Z Z Z <| xc fc203 (A1 Z) Z (sUnit) fun _ => gp Z Z Z (p_not Z) Z <| L_pur Z (p_pick_f Z Z) <| mv Z Z <| J_gsplit (t := 23) Z (fun h23 => ?_) (fun h23 => ?_)
  refine gz Z Z Z Z Z <| gz Z Z Z Z Z <| gz Z Z Z Z Z <| gz Z Z Z Z Z <| L_pur Z (p_pick_t Z Z) <| mv Z Z <| gz Z Z Z Z Z <| gz Z Z Z Z Z <| gz Z Z Z Z Z <| L_pur Z (p_pick_t Z Z) <| mv Z Z <| gz Z Z Z Z Z <| gz Z Z Z Z Z <| gz Z Z Z Z Z <| L_pur Z (p_pick_t Z Z) <| nq <| C_true Z <| sr <| ag Z Z <| nq <| J_ret <| Q_then_ret <| J_spS (b := b) (o := o) (ps := ps) _ PX trivial <| J_asTo (B := spA b o (spSet ps p f)) (by first | (simp_all [spSet, spSetOk]; done) | (simp_all [spSet, spSetOk] <;> grind)) <| J_return (()) Tryz.results142 (.tmp Z .nil) ?_ ?_
  · first | rfl | (simp_all [one, spSetOk]; done) | (simp_all [one, spSetOk] <;> omega) | (simp_all [one, spSetOk] <;> grind)
  · exact SU
  refine gp Z Z Z (p_fieldAddr Z fa204_0) Z <| L_op <| G_on Z Z Z <| J_val (v_load Z ty3 HS (by exact rfl)) Z Z Z <| L_op <| G_on Z Z Z <| xc fc203 (A1 Z) Z (sUnit) fun _ => gp Z Z Z (p_not Z) Z <| L_pur Z (p_pick_f Z Z) <| mv Z Z <| J_gsplit (t := 29) Z (fun h29 => ?_) (fun h29 => ?_)
  refine gz Z Z Z Z Z <| gz Z Z Z Z Z <| gz Z Z Z Z Z <| L_pur Z (p_pick_t Z Z) <| mv Z Z <| gz Z Z Z Z Z <| gz Z Z Z Z Z <| gz Z Z Z Z Z <| L_pur Z (p_pick_t Z Z) <| nq <| C_true Z <| sr <| ag Z Z <| nq <| J_ret <| Q_then_ret <| J_spS (b := b) (o := o) (ps := ps) _ PX trivial <| J_asTo (B := spA b o (spSet ps p f)) (by first | (simp_all [spSet, spSetOk]; done) | (simp_all [spSet, spSetOk] <;> grind)) <| J_return (()) Tryz.results142 (.tmp Z .nil) ?_ ?_
  · first | rfl | (simp_all [one, spSetOk]; done) | (simp_all [one, spSetOk] <;> omega) | (simp_all [one, spSetOk] <;> grind)
  · exact SU
  refine gp Z Z Z (p_fieldAddr Z fa204_1) Z <| L_op <| G_on Z Z Z <| J_val (v_load Z ty3 HS (by exact rfl)) Z Z Z <| gp Z Z Z (p_lss Z Z) Z <| L_pur Z (p_pick_f Z Z) <| mv Z Z <| J_gsplit (t := 34) Z (fun h34 => ?_) (fun h34 => ?_)
  refine gz Z Z Z Z Z <| gz Z Z Z Z Z <| gz Z Z Z Z Z <| L_pur Z (p_pick_t Z Z) <| nq <| C_true Z <| sr <| ag Z Z <| nq <| J_ret <| Q_then_ret <| J_spS (b := b) (o := o) (ps := ps) _ PX trivial <| J_asTo (B := spA b o (spSet ps p f)) (by first | (simp_all [spSet, spSetOk]; done) | (simp_all [spSet, spSetOk] <;> grind)) <| J_return (()) Tryz.results142 (.tmp Z .nil) ?_ ?_
  · first | rfl | (simp_all [one, spSetOk]; done) | (simp_all [one, spSetOk] <;> omega) | (simp_all [one, spSetOk] <;> grind)
  · exact SU
  refine gp Z Z Z (p_fieldAddr Z fa204_1) Z <| L_op <| G_on Z Z Z <| J_val (v_load Z ty3 HS (by exact rfl)) Z Z Z <| gp Z Z Z (p_gtr Z Z) Z <| L_pur Z (p_pick_f Z Z) <| nq <| C_split Z (fun h38 => ?_) (fun h38 => ?_)
  refine sr <| ag Z Z <| nq <| J_ret <| Q_then_ret <| J_spS (b := b) (o := o) (ps := ps) _ PX trivial <| J_asTo (B := spA b o (spSet ps p f)) (by first | (simp_all [spSet, spSetOk]; done) | (simp_all [spSet, spSetOk] <;> grind)) <| J_return (()) Tryz.results142 (.tmp Z .nil) ?_ ?_
  · first | rfl | (simp_all [one, spSetOk]; done) | (simp_all [one, spSetOk] <;> omega) | (simp_all [one, spSetOk] <;> grind)
  · exact SU
  refine J_skip <| Q_then <| J_seq <| J_seq <| J_drawL none mixed <| ip 0 Z Z Z Z (p_move Z) <| ip 1 Z Z Z Z (p_nilCheck Z) <| ip 2 Z Z Z Z (p_fieldAddr Z fa132_0) <| iv 3 Z Z Z Z (fun _ => v_loadL Z ty130 HS Z (by exact rfl)) <| iv 4 Z Z Z Z (fun _ => v_loadA Z ty199 HS CT) <| iv 5 Z Z Z Z (fun _ => v_lookOk (ek := kI) (ev := kI) (a := p) Z Z ky199 Tryz.underlying130 zv204 HS) <| J_slot (t := 45) (v := .tuple #[kI ((look ps p).getD (0, 0)), .bool (look ps p).isSome]) Z (by cases look ps p <;> rfl) <| ip 6 Z Z Z Z (p_move Z) <| ip 7 Z Z Z Z (p_extract Z Z) <| ip 8 Z Z Z Z (p_extract Z Z) <| i1 9 Z <| x_alloc ty204 Z fun b7 => i1 10 Z <| x_store Z Z ty204 Z SM SM RO PT <| ip 11 Z Z Z Z (p_assign Z) <| i0 <| qx <| mv Z Z <| nq <| C_split Z (fun h48 => ?_) (fun h48 => ?_)
  refine sr <| ag Z Z <| nq <| J_ret <| Q_then_ret <| J_spS (b := b) (o := o) (ps := ps) _ PX trivial <| J_asTo (B := spA b o (spSet ps p f)) (by first | (simp_all [spSet, spSetOk]; done) | (simp_all [spSet, spSetOk] <;> grind)) <| J_return (()) Tryz.results142 (.tmp Z .nil) ?_ ?_
  · first | rfl | (simp_all [one, spSetOk]; done) | (simp_all [one, spSetOk] <;> omega) | (simp_all [one, spSetOk] <;> grind)
  · exact SU
  refine J_skip <| Q_then <| J_seq <| sr <| mv Z Z <| nc Z Z <| fa Z Z fa132_0 <| L_val Z (v_loadL Z ty130 HS Z (by exact rfl)) <| L_pur Z (p_eqNilMap Tryz.underlying130 Z) <| nq <| C_split Z (fun h53 => ?_) (fun h53 => ?_)
  obtain rfl : ob = none := by simpa using h53
  refine J_mapNone (ps := ps) HS fun hps => ?_
  subst hps
  refine J_region <| mv Z Z <| L_op <| x_makeMap (ek := kI) (ev := kI) Z fun b55 => nc Z Z <| fa Z Z fa132_0 <| L_op <| x_storeL Z Z ty130 Z SM SM Z RO Z PT <| nq <| J_seq <| J_drawT 6 mixed (by kernel_rfl) <| sm Z Z <| sp Z (p_nilCheck Z) <| sp Z (p_fieldAddr Z fa132_0) <| S_val Z (v_loadL Z ty130 HS Z (by exact rfl)) <| S_val Z (v_loadA Z ty199 HS CT) <| S_val Z (v_loadA Z ty204 HS CT) <| S_nil <| L_op <| x_mapUpdate (ek := kI) (ev := kI) (a := p) (c := f) Z Z Z ky199 Tryz.underlying130 PC <| nx <| ag Z Z <| nq <| J_ret <| J_spS (b := b) (o := o) (ps := ins [] p f) _ PX trivial <| J_asTo (B := spA b o (spSet [] p f)) (by first | (simp_all [spSet, spSetOk]; done) | (simp_all [spSet, spSetOk] <;> grind)) <| J_return (()) Tryz.results142 (.tmp Z .nil) ?_ ?_
  · first | rfl | (simp_all [one, spSetOk]; done) | (simp_all [one, spSetOk] <;> omega) | (simp_all [one, spSetOk] <;> grind)
  · exact SU
  obtain ⟨bm, rfl⟩ : ∃ bm, ob = some bm := by cases ob with | none => simp at h53 | some x => exact ⟨x, rfl⟩
  refine J_skip <| Q_then <| J_seq <| J_drawT 6 mixed (by kernel_rfl) <| sm Z Z <| sp Z (p_nilCheck Z) <| sp Z (p_fieldAddr Z fa132_0) <| S_val Z (v_loadL Z ty130 HS Z (by exact rfl)) <| S_val Z (v_loadA Z ty199 HS CT) <| S_val Z (v_loadA Z ty204 HS CT) <| S_nil <| L_op <| x_mapUpdate (ek := kI) (ev := kI) (a := p) (c := f) Z Z Z ky199 Tryz.underlying130 PC <| nx <| ag Z Z <| nq <| J_ret <| J_spS (b := b) (o := o) (ps := ins ps p f) _ PX trivial <| J_asTo (B := spA b o (spSet ps p f)) (by first | (simp_all [spSet, spSetOk]; done) | (simp_all [spSet, spSetOk] <;> grind)) <| J_return (()) Tryz.results142 (.tmp Z .nil) ?_ ?_
  · first | rfl | (simp_all [one, spSetOk]; done) | (simp_all [one, spSetOk] <;> omega) | (simp_all [one, spSetOk] <;> grind)
  · exact SU
def isT (i : Int) (c : Int × Int) : Bool := decide (c.1 = i)
def qAt (q : List (Int × Int)) (i : Int) : Int := idx (isT i) q
def qHas (q : List (Int × Int)) (i : Int) : Bool := q.any (isT i)
def qAddOk (q : List (Int × Int)) (i p : Int) : Bool := !qHas q i && okPrio p
def qAdd (q : List (Int × Int)) (i p : Int) : List (Int × Int) := if qAddOk q i p then q ++ [(i, p)] else q
def qRem (q : List (Int × Int)) (i : Int) : List (Int × Int) := q.take (qAt q i).toNat ++ (if qHas q i then q.drop ((qAt q i).toNat + 1) else q.drop (qAt q i).toNat)
def qGet (q : List (Int × Int)) (i : Int) : Option Int := (q.find? (isT i)).map Prod.snd
def qSetOk (q : List (Int × Int)) (i p : Int) : Bool := qHas q i && okPrio p
def qSet (q : List (Int × Int)) (i p : Int) : List (Int × Int) := if qSetOk q i p then (if (qGet q i).getD 0 = p then q else qAdd (qRem q i) i p) else q
theorem qAt_cases (q : List (Int × Int)) (i : Int) : (qAt q i = -1 ∧ qHas q i = false ∧ qGet q i = none ∧ qRem q i = q) ∨
    ∃ k : Nat, qAt q i = k ∧ k < q.length ∧ qHas q i = true ∧ ∃ c, q[k]? = some c ∧ qGet q i = some c.2 ∧ qRem q i = q.take k ++ q.drop (k + 1) := by
  rcases idx_cases (isT i) q with ⟨h1, h2⟩ | ⟨k, h1, h2, h3, c, h4, h5⟩
  · left
    have hh : qHas q i = false := by
      unfold qHas; rw [List.any_eq_false]; intro x hx; simp [h2 x hx]
    refine ⟨h1, hh, ?_, ?_⟩
    · unfold qGet; rw [List.find?_eq_none.2 (fun x hx => by simp [h2 x hx])]; rfl
    · unfold qRem qAt; rw [h1, hh]; simp
  · right
    have hh : qHas q i = true := by
      unfold qHas; rw [List.any_eq_true]; exact ⟨c, List.mem_of_getElem? h4, h5⟩
    refine ⟨k, h1, h2, hh, c, h4, ?_, ?_⟩
    · unfold qGet
      have e : q = q.take k ++ c :: q.drop (k + 1) := by
        rw [← (List.getElem?_eq_some_iff.1 h4).2, ← List.drop_eq_getElem_cons h2, List.take_append_drop]
      rw [e, List.find?_append, List.find?_eq_none.2 (fun x hx => by simp [h3 x hx]), List.find?_cons, h5]; rfl
    · unfold qRem qAt; rw [h1, hh]; simp
theorem qRem_len (q : List (Int × Int)) (i : Int) : (qRem q i).length ≤ q.length := by
  rcases qAt_cases q i with ⟨_, _, _, h⟩ | ⟨k, _, hk, _, _, _, _, h⟩
  · rw [h]; exact Nat.le_refl _
  · rw [h]; simp; omega
theorem qAdd_len (q : List (Int × Int)) (i p : Int) : (qAdd q i p).length ≤ q.length + 1 := by unfold qAdd; split <;> simp
variable {v : Value} {g : FuncId} {caps : Array Value} {fn : Func}
theorem indexfunc269 {α : Type} {enc : α → List Value} {xs : List α} (hf : Tryz.prog.funcs[g]? = some fn) (hn : (fn.name == "runtime.NumGoroutine") = false) (hb : fn.body.isNone = false) {q : α → Bool} {C : As} (hg : ∀ (l' : List As) (c : α), Has C l' → Con Tryz.prog g (#[.agg (enc c).toArray] ++ caps) E l' (fun _ : Unit => .bool (q c)) (fun _ => l')) (hv : Has (row 208 2 v (xs.map enc)) l) (hc : Has C l) :
    Con Tryz.prog 269 #[v, .func (.func g) #[] caps] E l (fun _ : Unit => .int .i64 (idx q xs)) (fun _ => l) := by
  refine Con.body (n := 19) Tryz.func269 Z Z _ (env_ok 2 Z) <| J_row hv fun hw a cap hv h1 h2 h3 => ?_
  subst hv
  have hm : cap ≤ 9223372036854775807 := h2
  have hml : (xs.map enc).length = xs.length := List.length_map _
  refine sr <| ag Z Z <| nxx <| mv Z Z <| L_pur Z (p_len Z Tryz.underlying133) <| mv Z Z <| nq <| J_block <| J_loop (α := Nat) (fun i => i ≤ xs.length ∧ ∀ c ∈ xs.take i, q c = false) (fun _ => l) (fun i => [(8, .int .i64 (i : Int)), (7, .int .i64 (xs.map enc).length), (0, .slice a (xs.map enc).length cap), (1, .func (.func g) #[] caps)]) (fun i => xs.length - i) 0 ⟨by omega, by simp⟩ SU KE ?_
  intro i ⟨hi, hq⟩
  refine sr <| L_pur Z (p_lss Z Z) <| nq <| J_seq <| C_dec Z (fun h9 => ?_) (fun h9 => ?_)
  have hlt : i < xs.length := by omega
  obtain ⟨b, o, rfl⟩ := h3 (by intro h; rw [h] at hml; simp at hml; omega)
  obtain ⟨c, hcc⟩ : ∃ c, xs[i]? = some c := ⟨_, List.getElem?_eq_getElem hlt⟩
  refine J_skip <| Q_then <| J_seq <| J_block <| sr <| mv Z Z <| ag Z Z <| nx <| mv Z Z <| mv Z Z <| mv Z Z <| L_pur Z (p_indexAddr Z Z Tryz.underlying133 ty208 (by omega) (by omega)) <| L_val Z (v_loadE Z ty208 HS (by simp only [Int.toNat_natCast, List.getElem?_map, hcc]; rfl)) ?_
  refine L_op <| x_callc Z hf hn hb (.cons Z .nil) Z (hg _ c hc) fun _ => nq <| C_split Z (fun h16 => ?_) (fun h16 => ?_)
  have hidx := idx_here hq hcc h16
  refine sr <| mv Z Z <| ag Z Z <| nq <| J_ret <| Q_blk_ret <| Q_then_ret <| Q_then_ret <| Q_blk_ret <| Q_then_ret <| J_return (()) Tryz.results269 (.tmp Z .nil) ?_ ?_
  · simp [one, hidx]
  · exact SU
  refine J_skip <| Q_blk_normal <| qr <| L_pur Z (p_add64 Z Z (by omega)) <| mv Z Z <| nq ?_
  exact J_again (i + 1) (by omega) (⟨by omega, take_false_succ hq hcc h16⟩) SU KE
  have hix : i = xs.length := by omega
  rw [hix, List.take_length] at hq
  have hidx := idx_none hq
  refine J_exit <| Q_then_exit <| Q_then_exit <| Q_blk_this <| qx <| ag Z Z <| nq <| J_ret <| J_return (()) Tryz.results269 (.tmp Z .nil) ?_ ?_
  · simp [one, hidx]
  · exact SU
theorem clo270 {bc : Nat} {i : Int} {c : Int × Int} (hc : Has (blk bc 3 [.int .i64 i]) l) :
    Con Tryz.prog 270 #[.agg (encI c).toArray, .pointer (some ⟨bc, 0, none⟩)] E l (fun _ : Unit => .bool (isT i c)) (fun _ => l) := by
  refine Con.body (n := 8) Tryz.func270 Z Z _ (env_ok 2 Z) <| sr <| L_op <| x_box Z Z Z fun b2 => ag Z Z <| nx <| fa Z Z fa208_0 <| L_val Z (v_load Z ty3 HS (by exact rfl)) <| L_val Z (v_load Z ty3 HS (by exact rfl)) <| L_pur Z (p_eql Z Z) <| ag Z Z <| nq <| J_ret ?_
  exact J_return (()) Tryz.results270 (.tmp Z .nil) Z SU
theorem qAtC {b o : Nat} {q : List ID} (hp : Pick (rqA b o q) l m) {i : Int} :
    Con Tryz.prog 204 #[.pointer (some ⟨b, o, none⟩), .int .i64 i] E l (fun _ : Unit => .int .i64 (qAt q i)) (fun _ => rqA b o q :: m) := by
  refine Con.body (n := 11) Tryz.func204 Z Z _ (env_ok 2 Z) <| J_pick hp <| J_rqO fun v _ => sr <| L_op <| x_box Z Z Z fun b3 => ag Z Z <| nx <| mv Z Z <| nc Z Z <| fa Z Z fa135_0 <| L_val Z (v_loadL Z ty133 HS Z (by exact rfl)) <| L_pur Z (p_makeFunc (.cons Z .nil)) <| xo fc269 (A2 Z Z) Z (indexfunc269 (xs := q) (enc := encI) (q := isT i) (C := blk b3 3 [.int .i64 i]) Tryz.func270 nm270 bd270 (fun l' c hc => clo270 hc) HS HS) fun _ => ag Z Z <| nq <| J_ret <| J_rqS (b := b) (o := o) (xs := q) _ PX trivial ?_
  exact J_return (()) Tryz.results204 (.tmp Z .nil) Z SU
end Go.Pse
namespace Go.Pse
open Go.RowKit Go.Proofs
variable {E : World} {l m : List As}
theorem qAddC {b o : Nat} {q : List ID} (hp : Pick (rqA b o q) l m) (hb : q.length ≤ 100000) {i p : Int} :
    Con Tryz.prog 144 #[.pointer (some ⟨b, o, none⟩), .int .i64 i, .int .i64 p] E l (fun _ : Unit => .bool (qAddOk q i p)) (fun _ => rqA b o (qAdd q i p) :: m) := by
  refine Con.body (n := 28) Tryz.func144 Z Z _ (env_ok 3 Z) <| J_pick hp <| sr <| ag Z Z <| nxx <| mv Z Z <| mv Z Z <| xo fc204 (A2 Z Z) Z (qAtC (q := q) PC) fun _ => L_pur Z (p_geq Z Z) <| mv Z Z <| J_slot (t := 11) (v := .bool (qHas q i)) Z (by rcases qAt_cases q i with ⟨g1, g2, _⟩ | ⟨k, g1, _, g2, _⟩ <;> rw [g1, g2] <;> simp) <| J_gsplit (t := 11) Z (fun h11 => ?_) (fun h11 => ?_)
  refine gz Z Z Z Z Z <| gz Z Z Z Z Z <| gz Z Z Z Z Z <| L_pur Z (p_pick_t Z Z) <| nq <| C_true Z <| sr <| ag Z Z <| nq <| J_ret <| Q_then_ret <| J_pick (A := rqA b o _) PC <| J_asTo (B := rqA b o (qAdd q i p)) (by simp_all [qAdd, qAddOk]) <| J_return (()) Tryz.results144 (.tmp Z .nil) ?_ ?_
  · first | rfl | (simp_all [one, qAddOk]; done) | (simp_all [one, qAddOk] <;> omega) | (simp_all [one, qAddOk] <;> grind)
  · exact SU
  refine gp Z Z Z (p_move Z) Z <| L_op <| G_on Z Z Z <| xc fc205 (A1 Z) Z (qRight) fun _ => L_op <| G_on Z Z Z <| J_pur (p_not Z) Z Z Z <| L_pur Z (p_pick_f Z Z) <| nq <| C_split Z (fun h15 => ?_) (fun h15 => ?_)
  refine sr <| ag Z Z <| nq <| J_ret <| Q_then_ret <| J_pick (A := rqA b o _) PC <| J_asTo (B := rqA b o (qAdd q i p)) (by simp_all [qAdd, qAddOk]) <| J_return (()) Tryz.results144 (.tmp Z .nil) ?_ ?_
  · first | rfl | (simp_all [one, qAddOk]; done) | (simp_all [one, qAddOk] <;> omega) | (simp_all [one, qAddOk] <;> grind)
  · exact SU
  refine J_pick (A := rqA b o q) PC <| J_rqO fun v _ => J_skip <| qx <| mv Z Z <| mv Z Z <| nc Z Z <| fa Z Z fa135_0 <| L_val Z (v_loadL Z ty133 HS Z (by exact rfl)) <| mv Z Z <| mv Z Z <| L_pur Z (bld208 (.cons Z (.cons Z .nil)) (by repeat constructor)) <| L_op <| x_lit (vals := [_]) Tryz.underlying133 ty208 Z (.cons Z .nil) (.agg .nil) (Wf.cons Z Z Wf.nil) Z (by decide) Z Z <| JR fun a24 c24 hw24 hl24 hm24 hz24 => L_op <| x_app Z Z Tryz.underlying133 ty208 Z Z PC (fun w H => sep_reads HS H) (by simp; omega) (by simp; omega) Z <| JE ((q ++ [(i, p)]).map encI) (by simp [encI]) fun a25 c25 hw25 hl25 hm25 hz25 => nc Z Z <| fa Z Z fa135_0 <| L_op <| x_storeL Z Z ty133 Z SM SM Z RO Z PT <| nx <| ag Z Z <| nq <| J_ret <| J_rqS (b := b) (o := o) (xs := q ++ [(i, p)]) _ PX trivial <| J_pick (A := rqA b o _) PC <| J_asTo (B := rqA b o (qAdd q i p)) (by simp_all [qAdd, qAddOk]) ?_
  refine J_return (()) Tryz.results144 (.tmp Z .nil) ?_ ?_
  · first | rfl | (simp_all [one, qAddOk]; done) | (simp_all [one, qAddOk] <;> omega) | (simp_all [one, qAddOk] <;> grind)
  · exact SU
def rgNew (sq cq sb cb : Int) : Rg := ⟨sq, cq, cutI sb 0 3, cutI cb 0 4, 0, 0, []⟩
theorem ringNew {mb : Nat} {sq cq sb cb : Int} :
    Con Tryz.prog 143 #[.pointer (some ⟨mb, 0, none⟩), .int .i64 sq, .int .i64 cq, .int .i64 sb, .int .i64 cb] E l (fun b : Nat => .pointer (some ⟨b, 0, none⟩)) (fun b => rgA b mb (rgNew sq cq sb cb) :: l) := by
  refine Con.body (n := 22) Tryz.func143 Z Z _ (env_ok 5 Z) <| sr <| ag Z Z <| nx <| mv Z Z <| mv Z Z <| mv Z Z <| mv Z Z <| L_pur Z (p_max Z Z) <| L_pur Z (p_min Z Z) <| mv Z Z <| L_pur Z (p_max Z Z) <| L_pur Z (p_min Z Z) <| L_pur Z (bld217 (.cons Z (.cons Z (.cons Z (.cons Z (.cons Z .nil))))) (by repeat constructor)) <| L_op <| x_box Z Z Z fun b21 => ag Z Z <| nq <| J_ret <| J_nil (el := 93) (sz := 4) <| J_rgS (b := b21) (mb := mb) (r := rgNew sq cq sb cb) (.slice none 0 0) (.cons (.there .here) (.cons .here .nil)) trivial <| J_return (b21) Tryz.results143 (.tmp Z .nil) ?_ ?_
  · rfl
  · exact SU
def zrow : List Int := List.replicate 512 0
variable {v : Value}
theorem memF_push : memF (v, zrow) = row 5 1 v (List.replicate 512 [.int .u8 0]) := by unfold memF zrow; rw [List.map_replicate]; rfl
theorem memNew :
    Con Tryz.prog 92 #[.int .i64 64] E l (fun b : Nat => .pointer (some ⟨b, 0, none⟩)) (fun b => memA b (List.replicate 64 zrow) :: l) := by
  refine Con.body (n := 23) Tryz.func92 Z Z _ (env_ok 1 Z) <| sr <| ag Z Z <| nx <| L_pur Z (bld292 .nil (by repeat constructor)) <| L_op <| x_box Z Z Z fun b5 => J_nil (el := 73) (sz := 1) <| J_eachNil memF <| J_memS (b := b5) (ms := []) (.slice none 0 0) [] (.cons (.there (.there .here)) (.cons (.there .here) (.cons .here .nil))) Z <| ag Z Z <| nxx <| mv Z Z <| L_pur Z (p_max Z Z) <| L_pur Z (p_min Z Z) <| J_slot (t := 8) (v := .int .i64 64) Z Z <| mv Z Z <| nq <| J_block <| J_loop (α := Nat) (fun i => i ≤ 64) (fun i => memA b5 (List.replicate i zrow) :: l) (fun i => [(9, .int .i64 (i : Int)), (8, .int .i64 64), (3, .pointer (some ⟨b5, 0, none⟩))]) (fun i => 64 - i) 0 (by omega) SU KE ?_
  intro i hi
  refine sr <| L_pur Z (p_lss Z Z) <| nq <| J_seq <| C_dec Z (fun h10 => ?_) (fun h10 => ?_)
  refine J_pick (A := memA b5 _) PC <| J_memO fun v xs hxs => ?_
  have hxl : xs.length = i := by have := congrArg List.length hxs; simpa using this
  refine J_row (.there .here) fun hwv av cv hvv h1v h2v h3v => ?_
  subst hvv
  have hml : (xs.map fun x : Value × List Int => [x.1]).length = xs.length := List.length_map _
  refine J_skip <| Q_then <| J_seq <| J_block <| J_drawL (some 7) mixed <| ip 0 Z Z Z Z (p_move Z) <| ip 1 Z Z Z Z (p_move Z) <| ip 2 Z Z Z Z (p_nilCheck Z) <| ip 3 Z Z Z Z (p_fieldAddr Z fa292_0) <| iv 4 Z Z Z Z (fun _ => v_load Z ty290 HS (by exact rfl)) <| i1 5 Z <| x_make (len := 512) Z Z Tryz.underlying73 ty5 Z Z (by simp) (by simp) Z Z <| JE (List.replicate 512 [.int .u8 0]) (by rfl) fun a16 c16 hw16 hl16 hm16 hz16 => i1 6 Z <| x_lit (vals := [_]) Tryz.underlying290 ty73 Z (.cons Z .nil) (.one Z .nil) (Wf.cons Z Z Wf.nil) Z (by decide) Z Z <| JE ([[.slice a16 512 c16]]) (by rfl) fun a17 c17 hw17 hl17 hm17 hz17 => i1 7 Z <| x_app Z Z Tryz.underlying290 ty73 Z Z PC (fun w H => sep_reads HS H) (by simp; omega) (by simp; omega) Z ?_
  refine JE ((xs ++ [(Value.slice a16 512 c16, zrow)]).map fun x : Value × List Int => [x.1]) (by simp) fun a18 c18 hw18 hl18 hm18 hz18 => ip 8 Z Z Z Z (p_nilCheck Z) <| ip 9 Z Z Z Z (p_fieldAddr Z fa292_0) <| i1 10 Z <| x_store Z Z ty290 Z SM SM RO PT <| J_pick (A := each memF xs) PC <| J_pick (A := row 5 1 (.slice a16 _ c16) _) PC <| J_asTo (B := memF (Value.slice a16 512 c16, zrow)) (by rw [memF_push, List.length_replicate]) <| J_pick (A := each memF xs) PC <| J_pick (A := memF (Value.slice a16 512 c16, zrow)) PC <| J_eachPush <| J_memS (b := b5) (ms := List.replicate (i + 1) zrow) _ (xs ++ [(Value.slice a16 512 c16, zrow)]) PX (by show List.map Prod.snd (xs ++ [_]) = _; rw [List.map_append, hxs, List.replicate_succ']; rfl) <| i0 <| Q_blk_normal <| qr <| L_pur Z (p_add64 Z Z (by omega)) <| mv Z Z <| nq ?_
  exact J_again (i + 1) (by omega) (by omega) SU KE
  have hi64 : i = 64 := by omega
  subst hi64
  refine J_exit <| Q_then_exit <| Q_then_exit <| Q_blk_this <| qx <| mv Z Z <| ag Z Z <| nq <| J_ret <| J_return (b5) Tryz.results92 (.tmp Z .nil) ?_ ?_
  · rfl
  · exact SU
end Go.Pse
namespace Go.Pse
open Go.RowKit Go.Proofs
variable {E : World} {l : List As}
theorem coQueue {p : Nat} :
    Con Tryz.prog 34 #[.pointer (some ⟨p, 0, none⟩)] E l (fun _ : Unit => .pointer (some ⟨p, 9, none⟩)) (fun _ => l) := by
  refine Con.body (n := 6) Tryz.func34 Z Z _ (env_ok 1 Z) <| sr <| ag Z Z <| nx <| mv Z Z <| nc Z Z <| fa Z Z fa153_5 <| ag Z Z <| nq <| J_ret <| J_return (()) Tryz.results34 (.tmp Z .nil) ?_ ?_
  · rfl
  · exact SU
theorem coSlots {p : Nat} :
    Con Tryz.prog 28 #[.pointer (some ⟨p, 0, none⟩)] E l (fun _ : Unit => .pointer (some ⟨p, 6, none⟩)) (fun _ => l) := by
  refine Con.body (n := 6) Tryz.func28 Z Z _ (env_ok 1 Z) <| sr <| ag Z Z <| nx <| mv Z Z <| nc Z Z <| fa Z Z fa153_2 <| ag Z Z <| nq <| J_ret <| J_return (()) Tryz.results28 (.tmp Z .nil) ?_ ?_
  · rfl
  · exact SU
theorem coMaps {p : Nat} :
    Con Tryz.prog 30 #[.pointer (some ⟨p, 0, none⟩)] E l (fun _ : Unit => .pointer (some ⟨p, 8, none⟩)) (fun _ => l) := by
  refine Con.body (n := 6) Tryz.func30 Z Z _ (env_ok 1 Z) <| sr <| ag Z Z <| nx <| mv Z Z <| nc Z Z <| fa Z Z fa153_4 <| ag Z Z <| nq <| J_ret <| J_return (()) Tryz.results30 (.tmp Z .nil) ?_ ?_
  · rfl
  · exact SU
theorem coReqs {p : Nat} :
    Con Tryz.prog 16 #[.pointer (some ⟨p, 0, none⟩)] E l (fun _ : Unit => .pointer (some ⟨p, 10, none⟩)) (fun _ => l) := by
  refine Con.body (n := 6) Tryz.func16 Z Z _ (env_ok 1 Z) <| sr <| ag Z Z <| nx <| mv Z Z <| nc Z Z <| fa Z Z fa153_6 <| ag Z Z <| nq <| J_ret <| J_return (()) Tryz.results16 (.tmp Z .nil) ?_ ?_
  · rfl
  · exact SU
theorem coTimers {p : Nat} :
    Con Tryz.prog 62 #[.pointer (some ⟨p, 0, none⟩)] E l (fun _ : Unit => .pointer (some ⟨p, 11, none⟩)) (fun _ => l) := by
  refine Con.body (n := 6) Tryz.func62 Z Z _ (env_ok 1 Z) <| sr <| ag Z Z <| nx <| mv Z Z <| nc Z Z <| fa Z Z fa153_7 <| ag Z Z <| nq <| J_ret <| J_return (()) Tryz.results62 (.tmp Z .nil) ?_ ?_
  · rfl
  · exact SU
theorem coJournal {p : Nat} :
    Con Tryz.prog 17 #[.pointer (some ⟨p, 0, none⟩)] E l (fun _ : Unit => .pointer (some ⟨p, 12, none⟩)) (fun _ => l) := by
  refine Con.body (n := 6) Tryz.func17 Z Z _ (env_ok 1 Z) <| sr <| ag Z Z <| nx <| mv Z Z <| nc Z Z <| fa Z Z fa153_8 <| ag Z Z <| nq <| J_ret <| J_return (()) Tryz.results17 (.tmp Z .nil) ?_ ?_
  · rfl
  · exact SU
theorem coMarks {p : Nat} :
    Con Tryz.prog 220 #[.pointer (some ⟨p, 0, none⟩)] E l (fun _ : Unit => .pointer (some ⟨p, 7, none⟩)) (fun _ => l) := by
  refine Con.body (n := 6) Tryz.func220 Z Z _ (env_ok 1 Z) <| sr <| ag Z Z <| nx <| mv Z Z <| nc Z Z <| fa Z Z fa153_3 <| ag Z Z <| nq <| J_ret <| J_return (()) Tryz.results220 (.tmp Z .nil) ?_ ?_
  · rfl
  · exact SU
variable {m : List As} {s : KS} {u : Int}
theorem coRing {p : Nat} (hp : Pick (coA p s) l m) :
    Con Tryz.prog 43 #[.pointer (some ⟨p, 0, none⟩), .int .i64 u] E l (fun _ : Unit => ptrOf (look (ptrs s.rg) u)) (fun _ => coA p s :: m) := by
  refine Con.body (n := 11) Tryz.func43 Z Z _ (env_ok 2 Z) <| J_pick hp <| J_coO fun bn be br bg bt bs bp bl bk _ => sr <| ag Z Z <| nx <| mv Z Z <| nc Z Z <| fa Z Z fa153_12 <| L_val Z (v_loadL (o := 13) (i := 3) Z ty147 HS Z (by exact rfl)) <| mv Z Z <| L_val Z (v_look (ek := kZ) (ev := evA) (a := u) Z Z ky3 Tryz.underlying147 zv80 HS) <| J_slot (t := 10) (v := ptrOf (look (ptrs s.rg) u)) Z (by cases look (ptrs s.rg) u <;> rfl) <| ag Z Z <| nq <| J_ret <| J_coS (p := p) (s := s) bn be br bg bt bs bp bl bk PX trivial ?_
  exact J_return (()) Tryz.results43 (.tmp Z .nil) Z SU
def kTake (s : KS) (r n : Int) : KS := if (look s.tk r).isSome then { s with tk := ins s.tk r ((look s.tk r).getD 0 + n) } else s
def kTakeV (s : KS) (r n : Int) : Int := if (look s.tk r).isSome then (look s.tk r).getD 0 + 1 else 0
def kStopOk (s : KS) (t : Int) : Bool := (look s.th t).isSome && qHas s.q t
def kStop (s : KS) (t : Int) : KS := if kStopOk s t then { s with pr := ins s.pr t ((qGet s.q t).getD 0), q := qRem s.q t } else s
def kPrio (s : KS) (t : Int) : Int := (look s.pr t).getD 4
def kGoOk (s : KS) (t : Int) : Bool := (look s.th t).isSome && qAddOk s.q t (kPrio s t)
def kGo (s : KS) (t : Int) : KS := if (look s.th t).isSome then { s with q := qAdd s.q t (kPrio s t) } else s
theorem coTake {p : Nat} (hp : Pick (coA p s) l m) {r n : Int} (h1 : -1000000000000 ≤ (look s.tk r).getD 0 ∧ (look s.tk r).getD 0 ≤ 1000000000000) (h2 : 0 ≤ n ∧ n ≤ 1000000) :
    Con Tryz.prog 67 #[.pointer (some ⟨p, 0, none⟩), .int .i64 r, .int .i64 n] E l (fun _ : Unit => .int .i64 (kTakeV s r n)) (fun _ => coA p (kTake s r n) :: m) := by
  refine Con.body (n := 37) Tryz.func67 Z Z _ (env_ok 3 Z) <| J_pick hp <| J_coO fun bn be br bg bt bs bp bl bk _ => sr <| ag Z Z <| nxx <| mv Z Z <| nc Z Z <| fa Z Z fa153_17 <| L_val Z (v_loadL (o := 13) (i := 8) Z ty150 HS Z (by exact rfl)) <| mv Z Z <| L_val Z (v_lookOk (ek := kZ) (ev := evZ) (a := r) Z Z ky3 Tryz.underlying150 zv3 HS) <| J_slot (t := 15) (v := .tuple #[.int .i64 ((look s.tk r).getD 0), .bool (look s.tk r).isSome]) Z (by cases look s.tk r <;> rfl) <| mv Z Z <| L_pur Z (p_extract Z Z) <| L_pur Z (p_extract Z Z) <| ag Z Z <| ag Z Z <| nx <| mv Z Z <| L_pur Z (p_not Z) <| nq <| C_split Z (fun h19 => ?_) (fun h19 => ?_)
  refine sr <| ag Z Z <| nq <| J_ret <| Q_then_ret <| J_coS (p := p) (s := s) bn be br bg bt bs bp bl bk PX trivial <| J_asTo (B := coA p (kTake s r n)) (by simp_all [kTake]) <| J_return (()) Tryz.results67 (.tmp Z .nil) ?_ ?_
  · first | (simp_all [one, kTakeV]; done) | (simp_all [one, kTakeV, look_ins] <;> omega)
  · exact SU
  refine J_skip <| qx <| mv Z Z <| nc Z Z <| fa Z Z fa153_17 <| L_val Z (v_loadL (o := 13) (i := 8) Z ty150 HS Z (by exact rfl)) <| mv Z Z <| L_val Z (v_look (ek := kZ) (ev := evZ) (a := r) Z Z ky3 Tryz.underlying150 zv3 HS) <| J_slot (t := 25) (v := .int .i64 ((look s.tk r).getD 0)) Z (by cases look s.tk r <;> rfl) <| mv Z Z <| L_pur Z (p_add64 Z Z (by omega)) <| L_op <| x_mapUpdate (ek := kZ) (ev := evZ) (a := r) (c := (look s.tk r).getD 0 + n) Z Z Z ky3 Tryz.underlying150 PC <| nx <| mv Z Z <| nc Z Z <| fa Z Z fa153_17 <| L_val Z (v_loadL (o := 13) (i := 8) Z ty150 HS Z (by exact rfl)) <| mv Z Z <| L_val Z (v_look (ek := kZ) (ev := evZ) (a := r) Z Z ky3 Tryz.underlying150 zv3 HS) ?_
  refine J_slot (t := 33) (v := .int .i64 ((look (ins s.tk r ((look s.tk r).getD 0 + n)) r).getD 0)) Z (by cases look (ins s.tk r ((look s.tk r).getD 0 + n)) r <;> rfl) <| mv Z Z <| L_pur Z (p_sub64 Z Z (by rw [look_ins]; simp; omega)) <| L_pur Z (p_add64 Z Z (by rw [look_ins]; simp; omega)) <| ag Z Z <| nq <| J_ret <| J_coS (p := p) (s := { s with tk := ins s.tk r ((look s.tk r).getD 0 + n) }) bn be br bg bt bs bp bl bk PX trivial <| J_asTo (B := coA p (kTake s r n)) (by simp_all [kTake]) <| J_return (()) Tryz.results67 (.tmp Z .nil) ?_ ?_
  · first | (simp_all [one, kTakeV]; done) | (simp_all [one, kTakeV, look_ins] <;> omega)
  · exact SU
end Go.Pse
namespace Go.Pse
open Go.RowKit Go.Proofs
def shl32 (n : Int) : Int := IntKind.u32.wrap (1 * 2 ^ n.toNat)
def tcap8 (b u : Int) : List Cap := [⟨2, b, 0, 0, 7⟩, ⟨6, b + 1, 0, 0, 0⟩, ⟨8, b + 2, 0, 0, 0⟩, ⟨9, b + 3, 0, 0, 0⟩, ⟨3, b + 4, 0, 0, 0⟩, ⟨3, b + 5, 0, 0, 0⟩, ⟨1, b + 7, u, 0, 0⟩, ⟨7, b + 6, 0, 0, 0⟩]
def tcap2 (t h : Int) : List Cap := [⟨4, h, 0, t + 1, 0⟩, ⟨5, h + 1, 0, shl1 t, 0⟩]
def tcaps (s : KS) (b t h : Int) : List Cap := tcap8 b s.cu ++ if s.sh then tcap2 t h else []
def tbe (s : KS) (b t h : Int) : List (Int × (Int × Int)) := if s.sh then ins s.be (b + 3) (h + 1, shl32 t) else s.be
def withAll (c : Cap) : Cap := { c with rights := 7 }
def tput (b : Int) (ps : List (Place × SV)) : Nat → List Cap → List (Place × SV)
  | _, [] => ps
  | k, c :: cs => tput b (slPut ps (b, (k : Int) + 1) (withAll c) (0, 0)) (k + 1) cs
theorem tput_snoc {b : Int} {c : Cap} : ∀ {cs : List Cap} {ps : List (Place × SV)} {k : Nat}, tput b ps k (cs ++ [c]) = slPut (tput b ps k cs) (b, ((k + cs.length : Nat) : Int) + 1) (withAll c) (0, 0)
  | [], _, _ => rfl
  | d :: cs, ps, k => by rw [List.cons_append, tput, tput_snoc, tput, List.length_cons]; congr 3; omega
variable {i : Nat}
theorem tput_take {b : Int} {ps : List (Place × SV)} {cs : List Cap} {c : Cap} (h : cs[i]? = some c) : tput b ps 0 (cs.take (i + 1)) = slPut (tput b ps 0 (cs.take i)) (b, (i : Int) + 1) (withAll c) (0, 0) := by
  have hl := (List.getElem?_eq_some_iff.1 h).1
  rw [List.take_add_one, h, Option.toList_some, tput_snoc]
  congr 3
  rw [List.length_take]; omega
def tmap (b : Int) (ps : List (Place × M1)) : Nat → List (Place × M1)
  | 0 => ps
  | k + 1 => spSet (tmap b ps k) (b + 2, (k : Int)) (b + 4 + (k : Int), 3)
def thOf (b : Int) : Th := ⟨b + 1, b + 2, b + 3, ⟨2, b, 0, 0, 7⟩⟩
abbrev kThread (s : KS) (b t h : Int) (r c : Nat) : KS := { s with sl := tput b s.sl 0 (tcaps s b t h), mp := tmap b s.mp 2, th := ins s.th (b + 1) (thOf b), sp := ins s.sp (b + 2) true, rp := s.rp ++ [(b + 6, c, (0, 0), false)], rg := s.rg ++ [(b + 3, r, rgNew (b + 4) (b + 5) s.cs s.cc)], tk := ins s.tk (b + 3) 0, be := tbe s b t h, q := qAdd s.q (b + 1) 4 }
variable {u : Int}
theorem ptrs_push {α : Type} {xs : List (Int × Nat × α)} {b : Nat} {x : α} (h : look (ptrs xs) u = none) : ins (ptrs xs) u b = ptrs (xs ++ [(u, b, x)]) := by
  unfold ins; rw [h]; simp [ptrs]
theorem tcaps_len (s : KS) (b t h : Int) : (tcaps s b t h).length ≤ 10 := by unfold tcaps; split <;> simp [tcap8, tcap2]
variable {E : World} {l m : List As} {s : KS}
theorem coThread {p : Nat} {b t h : Int} (hp : Pick (coA p s) l m) (ht : 0 ≤ t ∧ t ≤ 2) (hu : 1 ≤ s.cu ∧ s.cu ≤ 12) (hb : b = 1 + t * (7 + s.cu)) (hh : 0 ≤ h ∧ h ≤ 1000) (hq : s.q.length ≤ 90000) (hr : look (ptrs s.rp) (b + 6) = none) (hg : look (ptrs s.rg) (b + 3) = none) :
    Con Tryz.prog 93 #[.pointer (some ⟨p, 0, none⟩), .int .i64 t, .int .i64 h] E l (fun _ : Nat × Nat => .tuple #[]) (fun x => coA p (kThread s b t h x.1 x.2) :: m) := by
  refine Con.body (n := 188) Tryz.func93 Z Z _ (env_ok 3 Z) ?_
  have hz : 0 ≤ t * (7 + s.cu) ∧ t * (7 + s.cu) ≤ 38 := by
    have : t = 0 ∨ t = 1 ∨ t = 2 := by omega
    rcases this with rfl | rfl | rfl <;> omega
  refine J_pick hp <| J_coO fun bn be br bg bt bs bp bl bk _ => sr <| mv Z Z <| mv Z Z <| nc Z Z <| fa Z Z fa153_0 <| fa Z Z fa86_1 <| L_val Z (v_loadL (o := 0) (i := 1) Z ty3 HS Z (by exact rfl)) <| L_pur Z (p_add64 Z Z (by omega)) <| L_pur Z (p_mul64 Z Z (by omega)) <| L_pur Z (p_add64 Z Z (by omega)) <| J_slot (t := 21) (v := .int .i64 b) Z (by rw [hb]) <| ag Z Z <| nx <| mv Z Z <| L_pur Z (bld110 (.cons Z (.cons Z (.cons Z .nil))) (by repeat constructor)) <| L_op <| x_alloc ty110 Z fun b7 => L_op <| x_store Z Z ty110 Z SM SM RO PT <| J_pick (A := blk b7 _ _) PC <| J_asTo (B := blk b7 110 (encC ⟨2, b, 0, 0, 7⟩)) (by rfl) <| nx <| mv Z Z <| L_pur Z (p_add64 Z Z (by omega)) <| mv Z Z <| L_pur Z (p_add64 Z Z (by omega)) <| mv Z Z <| L_pur Z (p_add64 Z Z (by omega)) <| L_val Z (v_loadA Z ty110 HS CT) ?_
  refine L_pur Z (bld213 (.cons Z (.cons Z (.cons Z (.cons Z .nil)))) (by repeat constructor)) <| L_op <| x_alloc ty213 Z fun b8 => L_op <| x_store Z Z ty213 Z SM SM RO PT <| nq <| J_seq <| J_drawT 27 mixed (by kernel_rfl) <| S_val Z (v_loadA Z ty110 HS CT) <| sm Z Z <| sp Z (p_add64 Z Z (by omega)) <| sp Z (bld110 (.cons Z (.cons Z .nil)) (by repeat constructor)) <| sm Z Z <| sp Z (p_add64 Z Z (by omega)) <| sp Z (bld110 (.cons Z (.cons Z .nil)) (by repeat constructor)) <| sm Z Z <| sp Z (p_add64 Z Z (by omega)) <| sp Z (bld110 (.cons Z (.cons Z .nil)) (by repeat constructor)) <| sm Z Z <| sp Z (p_add64 Z Z (by omega)) <| sp Z (bld110 (.cons Z (.cons Z .nil)) (by repeat constructor)) <| sm Z Z <| sp Z (p_add64 Z Z (by omega)) <| sp Z (bld110 (.cons Z (.cons Z .nil)) (by repeat constructor)) <| sm Z Z ?_
  refine sp Z (p_add64 Z Z (by omega)) <| sm Z Z <| sp Z (p_nilCheck Z) <| sp Z (p_fieldAddr Z fa153_0) <| sp Z (p_fieldAddr Z fa86_1) <| S_val Z (v_loadL (o := 0) (i := 1) Z ty3 HS Z (by exact rfl)) <| sp Z (bld110 (.cons Z (.cons Z (.cons Z .nil))) (by repeat constructor)) <| sm Z Z <| sp Z (p_add64 Z Z (by omega)) <| sp Z (bld110 (.cons Z (.cons Z .nil)) (by repeat constructor)) <| S_nil <| L_op <| x_lit (vals := [_, _, _, _, _, _, _, _]) Tryz.underlying302 ty110 Z (.cons Z (.cons Z (.cons Z (.cons Z (.cons Z (.cons Z (.cons Z (.cons Z .nil)))))))) (.agg (.agg (.agg (.agg (.agg (.agg (.agg (.agg .nil)))))))) (Wf.cons Z Z (Wf.cons Z Z (Wf.cons Z Z (Wf.cons Z Z (Wf.cons Z Z (Wf.cons Z Z (Wf.cons Z Z (Wf.cons Z Z Wf.nil)))))))) Z (by decide) Z Z <| JE ((tcap8 b s.cu).map encC) (by rfl) fun a59 c59 hw59 hl59 hm59 hz59 => ag Z Z <| nq ?_
  refine J_cut (α := Value) (fun v9 : Value => row 110 5 v9 ((tcaps s b t h).map encC) :: blk b7 110 (encC ⟨2, b, 0, 0, 7⟩) :: blk b8 213 [.int .i64 (b + 1), .int .i64 (b + 2), .int .i64 (b + 3), .int .i64 2, .int .i64 b, .int .i64 0, .int .i64 0, .int .i64 7] :: fld p 0 [.int .i64 s.ct, .int .i64 s.cu, .int .i64 s.cs, .int .i64 s.cc, .bool s.sh, .pointer (some ⟨s.mb, 0, none⟩)] :: memA s.mb s.mem :: slA p 6 s.sl :: mkA p 7 s.mr :: spA p 8 s.mp :: rqA p 9 s.q :: rtA p 10 s.rt :: tmrA p 11 s.tm :: jnlA p 12 s.jn :: fld p 13 [.map (some bn), .map (some be), .map (some br), .map (some bg), .map (some bt), .map (some bs), .map (some bp), .map (some bl), .map (some bk)] :: mapV kZ evA (.map (some bn)) (ptrs s.nt) :: each ntF s.nt :: mapV kZ evA (.map (some be)) (ptrs s.ep) :: each epF s.ep :: mapV kZ evA (.map (some br)) (ptrs s.rp) :: each rpF s.rp :: mapV kZ evA (.map (some bg)) (ptrs s.rg) :: each (rgF s.mb) s.rg :: mapV kZ evT (.map (some bt)) s.th :: mapV kZ evB (.map (some bs)) s.sp :: mapV kZ evZ (.map (some bp)) s.pr :: mapV kZ evL (.map (some bl)) (tbe s b t h) :: mapV kZ evZ (.map (some bk)) s.tk :: fld p 22 [.int .u64 s.now] :: m) (fun v9 : Value => [(9, v9), (0, .pointer (some ⟨p, 0, none⟩)), (1, .int .i64 t), (2, .int .i64 h), (6, .int .i64 b), (7, .pointer (some ⟨b7, 0, none⟩)), (8, .pointer (some ⟨b8, 0, none⟩))]) ?_ ?_
  refine sr <| mv Z Z <| nc Z Z <| fa Z Z fa153_0 <| fa Z Z fa86_4 <| L_val Z (v_loadL (o := 0) (i := 4) Z ty4 HS Z (by exact rfl)) <| nq <| C_split Z (fun h64 => ?_) (fun h64 => ?_)
  refine sr <| mv Z Z <| mv Z Z <| mv Z Z <| L_pur Z (p_add64 Z Z (by omega)) <| L_pur Z (bld110 (.cons Z (.cons Z (.cons Z .nil))) (by repeat constructor)) <| mv Z Z <| L_pur Z (p_add64 Z Z (by omega)) <| mv Z Z <| L_pur Z (p_shl Z Z (by omega) (by have : (IntKind.i64.bits : Int) = 64 := rfl; omega)) <| J_slot (t := 73) (v := .int .i64 (shl1 t)) Z Z <| L_pur Z (bld110 (.cons Z (.cons Z (.cons Z .nil))) (by repeat constructor)) <| L_op <| x_lit (vals := [_, _]) Tryz.underlying302 ty110 Z (.cons Z (.cons Z .nil)) (.agg (.agg .nil)) (Wf.cons Z Z (Wf.cons Z Z Wf.nil)) Z (by decide) Z Z <| JE ((tcap2 t h).map encC) (by rfl) fun a75 c75 hw75 hl75 hm75 hz75 => L_op <| x_app Z Z Tryz.underlying302 ty110 Z Z PC (fun w H => sep_reads HS H) (by simp [tcap8, tcap2]) (by simp [tcap8, tcap2]) Z ?_
  refine JE ((tcap8 b s.cu ++ tcap2 t h).map encC) (by simp) fun a76 c76 hw76 hl76 hm76 hz76 => ag Z Z <| nq <| J_drawT 11 mixed (by kernel_rfl) <| sm Z Z <| sp Z (p_nilCheck Z) <| sp Z (p_fieldAddr Z fa153_16) <| S_val Z (v_loadL (o := 13) (i := 7) Z ty151 HS Z (by exact rfl)) <| sp Z (p_fieldAddr Z fa213_2) <| S_val Z (v_load Z ty3 HS (by exact rfl)) <| sm Z Z <| sp Z (p_add64 Z Z (by omega)) <| sm Z Z <| sp Z (p_shl Z Z (by omega) (by have : (IntKind.u32.bits : Int) = 32 := rfl; omega)) <| J_slot (t := 86) (v := .int .u32 (shl32 t)) Z Z <| sp Z (bld304 (.cons Z (.cons Z .nil)) (by repeat constructor)) <| S_nil <| L_op <| x_mapUpdate (ek := kZ) (ev := evL) (a := b + 3) (c := (h + 1, shl32 t)) Z Z Z ky3 Tryz.underlying151 PC <| nq <| J_pick (A := row 110 5 _ _) PC ?_
  refine J_rowEq (ys := (tcaps s b t h).map encC) (by simp [tcaps, h64, tcap2, encC]) <| J_pick (A := mapV kZ evL _ _) PC <| J_mapEq (qs := tbe s b t h) (by simp [tbe, h64]) ?_
  exact J_at _ SU KE
  refine J_skip <| Q_then <| J_pick (A := row 110 5 _ _) PC <| J_rowEq (ys := (tcaps s b t h).map encC) (by simp [tcaps, h64, tcap2, encC]) <| J_pick (A := mapV kZ evL _ _) PC <| J_mapEq (qs := tbe s b t h) (by simp [tbe, h64]) ?_
  exact J_at _ SU KE
  intro v9
  refine J_row .here fun hw9 a9 c9 hv9 h19 h29 h39 => ?_
  subst hv9
  have hlen := tcaps_len s b t h
  have hml : ((tcaps s b t h).map encC).length = (tcaps s b t h).length := List.length_map _
  have hm9 : c9 ≤ 9223372036854775807 := h29
  refine J_seq <| sr <| mv Z Z <| L_pur Z (p_len Z Tryz.underlying302) <| mv Z Z <| nq <| J_block <| J_loop (α := Nat) (fun i => i ≤ (tcaps s b t h).length) (fun i => row 110 5 (.slice a9 ((tcaps s b t h).map encC).length c9) ((tcaps s b t h).map encC) :: blk b7 110 (encC ⟨2, b, 0, 0, 7⟩) :: blk b8 213 [.int .i64 (b + 1), .int .i64 (b + 2), .int .i64 (b + 3), .int .i64 2, .int .i64 b, .int .i64 0, .int .i64 0, .int .i64 7] :: fld p 0 [.int .i64 s.ct, .int .i64 s.cu, .int .i64 s.cs, .int .i64 s.cc, .bool s.sh, .pointer (some ⟨s.mb, 0, none⟩)] :: memA s.mb s.mem :: slA p 6 (tput b s.sl 0 ((tcaps s b t h).take i)) :: mkA p 7 s.mr :: spA p 8 s.mp :: rqA p 9 s.q :: rtA p 10 s.rt :: tmrA p 11 s.tm :: jnlA p 12 s.jn :: fld p 13 [.map (some bn), .map (some be), .map (some br), .map (some bg), .map (some bt), .map (some bs), .map (some bp), .map (some bl), .map (some bk)] :: mapV kZ evA (.map (some bn)) (ptrs s.nt) :: each ntF s.nt :: mapV kZ evA (.map (some be)) (ptrs s.ep) :: each epF s.ep :: mapV kZ evA (.map (some br)) (ptrs s.rp) :: each rpF s.rp :: mapV kZ evA (.map (some bg)) (ptrs s.rg) :: each (rgF s.mb) s.rg :: mapV kZ evT (.map (some bt)) s.th :: mapV kZ evB (.map (some bs)) s.sp :: mapV kZ evZ (.map (some bp)) s.pr :: mapV kZ evL (.map (some bl)) (tbe s b t h) :: mapV kZ evZ (.map (some bk)) s.tk :: fld p 22 [.int .u64 s.now] :: m) (fun i => [(90, .int .i64 (i : Int)), (88, .slice a9 ((tcaps s b t h).map encC).length c9), (89, .int .i64 (((tcaps s b t h).map encC).length : Int)), (0, .pointer (some ⟨p, 0, none⟩)), (1, .int .i64 t), (2, .int .i64 h), (6, .int .i64 b), (7, .pointer (some ⟨b7, 0, none⟩)), (8, .pointer (some ⟨b8, 0, none⟩))]) (fun i => (tcaps s b t h).length - i) 0 (by omega) SU KE ?_
  intro i hi
  refine sr <| L_pur Z (p_lss Z Z) <| nq <| J_seq <| C_dec Z (fun h91 => ?_) (fun h91 => ?_)
  have hlt : i < (tcaps s b t h).length := by omega
  obtain ⟨bc, oc, rfl⟩ := h39 (by intro h; rw [h] at hml; simp at hml; omega)
  obtain ⟨c, hcc⟩ : ∃ c, (tcaps s b t h)[i]? = some c := ⟨_, List.getElem?_eq_getElem hlt⟩
  refine J_skip <| Q_then <| J_seq <| J_block <| sr <| mv Z Z <| L_pur Z (p_indexAddr Z Z Tryz.underlying302 ty110 (by omega) (by omega)) <| L_val Z (v_loadE Z ty110 HS (by first | (simp only [Int.toNat_natCast, List.getElem?_map, hcc]; rfl) | (simp only [Int.toNat_natCast, List.getElem?_map, hcd]; rfl) | simp | rfl)) ?_
  refine L_op <| x_alloc ty110 Z fun b11 => ag Z Z <| L_op <| x_store Z Z ty110 Z SM SM RO PT <| nx <| fa Z Z fa110_4 <| L_op <| x_store Z Z ty3 Z SM SM RO PT <| J_pick (A := blk b11 _ _) PC <| J_asTo (B := blk b11 110 (encC (withAll c))) (by rfl) <| nq <| J_drawT 9 mixed (by kernel_rfl) <| sm Z Z <| sp Z (p_nilCheck Z) <| sp Z (p_fieldAddr Z fa153_2) <| sm Z Z <| sm Z Z <| sp Z (p_add64 Z Z (by omega)) <| sp Z (bld108 (.cons Z (.cons Z .nil)) (by repeat constructor)) <| S_val Z (v_loadA Z ty110 HS CT) <| sp Z (bld108 .nil (by repeat constructor)) <| S_nil <| xo fc58 (A4 Z Z Z Z) Z (slPutC (c := withAll c) (p := (b, (i : Int) + 1)) (q := (0, 0)) PC) fun _ => J_pick (A := slA _ _ _) PC <| J_asTo (B := slA p 6 (tput b s.sl 0 ((tcaps s b t h).take (i + 1)))) (by rw [tput_take hcc]) <| L_nil <| Q_blk_normal <| qr <| L_pur Z (p_add64 Z Z (by omega)) <| mv Z Z <| nq ?_
  exact J_again (i + 1) (by omega) (by omega) SU KE
  have hil : i = (tcaps s b t h).length := by omega
  subst hil
  refine J_pick (A := slA _ _ _) PC <| J_asTo (B := slA p 6 (tput b s.sl 0 (tcaps s b t h))) (by rw [List.take_length]) <| J_exit <| Q_then_exit <| Q_then_exit <| Q_blk_this <| Q_then <| J_seq <| sr ?_
  refine mv Z Z <| nq <| J_block <| J_loop (α := Nat) (fun i => i ≤ 2) (fun i => blk b8 213 [.int .i64 (b + 1), .int .i64 (b + 2), .int .i64 (b + 3), .int .i64 2, .int .i64 b, .int .i64 0, .int .i64 0, .int .i64 7] :: fld p 0 [.int .i64 s.ct, .int .i64 s.cu, .int .i64 s.cs, .int .i64 s.cc, .bool s.sh, .pointer (some ⟨s.mb, 0, none⟩)] :: memA s.mb s.mem :: slA p 6 (tput b s.sl 0 (tcaps s b t h)) :: mkA p 7 s.mr :: spA p 8 (tmap b s.mp i) :: rqA p 9 s.q :: rtA p 10 s.rt :: tmrA p 11 s.tm :: jnlA p 12 s.jn :: fld p 13 [.map (some bn), .map (some be), .map (some br), .map (some bg), .map (some bt), .map (some bs), .map (some bp), .map (some bl), .map (some bk)] :: mapV kZ evA (.map (some bn)) (ptrs s.nt) :: each ntF s.nt :: mapV kZ evA (.map (some be)) (ptrs s.ep) :: each epF s.ep :: mapV kZ evA (.map (some br)) (ptrs s.rp) :: each rpF s.rp :: mapV kZ evA (.map (some bg)) (ptrs s.rg) :: each (rgF s.mb) s.rg :: mapV kZ evT (.map (some bt)) s.th :: mapV kZ evB (.map (some bs)) s.sp :: mapV kZ evZ (.map (some bp)) s.pr :: mapV kZ evL (.map (some bl)) (tbe s b t h) :: mapV kZ evZ (.map (some bk)) s.tk :: fld p 22 [.int .u64 s.now] :: m) (fun i => [(107, .int .i64 (i : Int)), (0, .pointer (some ⟨p, 0, none⟩)), (1, .int .i64 t), (2, .int .i64 h), (6, .int .i64 b), (7, .pointer (some ⟨b7, 0, none⟩)), (8, .pointer (some ⟨b8, 0, none⟩))]) (fun i => 2 - i) 0 (by omega) SU KE ?_
  intro i hi
  refine sr <| L_pur Z (p_lss Z Z) <| nq <| J_seq <| C_dec Z (fun h108 => ?_) (fun h108 => ?_)
  refine J_skip <| Q_then <| J_seq <| J_block <| sr <| mv Z Z <| ag Z Z <| nq <| J_drawT 12 mixed (by kernel_rfl) <| sm Z Z <| sp Z (p_nilCheck Z) <| sp Z (p_fieldAddr Z fa153_4) <| sp Z (p_fieldAddr Z fa213_1) <| S_val Z (v_load Z ty3 HS (by exact rfl)) <| sm Z Z <| sp Z (bld199 (.cons Z (.cons Z .nil)) (by repeat constructor)) <| sm Z Z <| sp Z (p_add64 Z Z (by omega)) <| sm Z Z <| sp Z (p_add64 Z Z (by omega)) <| sp Z (bld204 (.cons Z (.cons Z .nil)) (by repeat constructor)) <| S_nil <| xo fc142 (A3 Z Z Z) Z (spSetC (p := (b + 2, (i : Int))) (f := (b + 4 + (i : Int), 3)) PC) fun _ => L_nil <| Q_blk_normal <| qr <| L_pur Z (p_add64 Z Z (by omega)) <| mv Z Z <| nq ?_
  exact J_again (i + 1) (by omega) (by omega) SU KE
  have hi2 : i = 2 := by omega
  subst hi2
  refine J_exit <| Q_then_exit <| Q_then_exit <| Q_blk_this <| Q_then ?_
  refine J_cut (α := Nat) (fun b144 : Nat => fld p 0 [.int .i64 s.ct, .int .i64 s.cu, .int .i64 s.cs, .int .i64 s.cc, .bool s.sh, .pointer (some ⟨s.mb, 0, none⟩)] :: memA s.mb s.mem :: slA p 6 (tput b s.sl 0 (tcaps s b t h)) :: mkA p 7 s.mr :: spA p 8 (tmap b s.mp 2) :: rqA p 9 s.q :: rtA p 10 s.rt :: tmrA p 11 s.tm :: jnlA p 12 s.jn :: fld p 13 [.map (some bn), .map (some be), .map (some br), .map (some bg), .map (some bt), .map (some bs), .map (some bp), .map (some bl), .map (some bk)] :: mapV kZ evA (.map (some bn)) (ptrs s.nt) :: each ntF s.nt :: mapV kZ evA (.map (some be)) (ptrs s.ep) :: each epF s.ep :: mapV kZ evA (.map (some br)) (ins (ptrs s.rp) (b + 6) b144) :: each rpF s.rp :: mapV kZ evA (.map (some bg)) (ptrs s.rg) :: each (rgF s.mb) s.rg :: mapV kZ evT (.map (some bt)) (ins s.th (b + 1) (thOf b)) :: mapV kZ evB (.map (some bs)) (ins s.sp (b + 2) true) :: mapV kZ evZ (.map (some bp)) s.pr :: mapV kZ evL (.map (some bl)) (tbe s b t h) :: mapV kZ evZ (.map (some bk)) s.tk :: fld p 22 [.int .u64 s.now] :: blk b144 243 [.int .i64 0, .int .i64 0, .bool false] :: blk b8 213 [.int .i64 (b + 1), .int .i64 (b + 2), .int .i64 (b + 3), .int .i64 2, .int .i64 b, .int .i64 0, .int .i64 0, .int .i64 7] :: m) (fun _ : Nat => [(0, .pointer (some ⟨p, 0, none⟩)), (1, .int .i64 t), (2, .int .i64 h), (6, .int .i64 b), (7, .pointer (some ⟨b7, 0, none⟩)), (8, .pointer (some ⟨b8, 0, none⟩))]) ?_ ?_
  refine J_drawI (some 23) [fld p 0 [.int .i64 s.ct, .int .i64 s.cu, .int .i64 s.cs, .int .i64 s.cc, .bool s.sh, .pointer (some ⟨s.mb, 0, none⟩)], fld p 13 [.map (some bn), .map (some be), .map (some br), .map (some bg), .map (some bt), .map (some bs), .map (some bp), .map (some bl), .map (some bk)], blk b8 213 [.int .i64 (b + 1), .int .i64 (b + 2), .int .i64 (b + 3), .int .i64 2, .int .i64 b, .int .i64 0, .int .i64 0, .int .i64 7]] mixed <| ip 0 Z Z Z Z (p_move Z) <| ip 1 Z Z Z Z (p_nilCheck Z) <| ip 2 Z Z Z Z (p_fieldAddr Z fa153_13) <| iv 3 Z Z Z Z (fun _ => v_loadL (o := 13) (i := 4) Z ty148 HS Z (by exact rfl)) <| ip 4 Z Z Z Z (p_fieldAddr Z fa213_0) <| iv 5 Z Z Z Z (fun _ => v_load Z ty3 HS (by exact rfl)) ?_
  refine ip 6 Z Z Z Z (p_move Z) <| ip 7 Z Z Z Z (p_nilCheck Z) <| ip 8 Z Z Z Z (p_fieldAddr Z fa153_14) <| iv 9 Z Z Z Z (fun _ => v_loadL (o := 13) (i := 5) Z ty149 HS Z (by exact rfl)) <| ip 10 Z Z Z Z (p_fieldAddr Z fa213_1) <| ip 12 Z Z Z Z (p_move Z) <| ip 13 Z Z Z Z (p_nilCheck Z) <| ip 14 Z Z Z Z (p_fieldAddr Z fa153_11) <| iv 15 Z Z Z Z (fun _ => v_loadL (o := 13) (i := 2) Z ty146 HS Z (by exact rfl)) <| ip 16 Z Z Z Z (p_move Z) <| ip 17 Z Z Z Z (p_add64 Z Z (by omega)) <| iv 18 Z Z Z Z (fun _ => v_loadA Z ty213 HS CT) <| ip 19 Z Z Z Z (bld243 .nil (by repeat constructor)) <| I_ready (rs := [11, 20, 21]) SI (by kernel_rfl) (by simp) <| (I_cons Z ?_ (I_cons Z ?_ (I_cons Z ?_ I_nil)))
  refine J_val (v_load Z ty3 HS (by exact rfl)) Z Z Z <| I_ready (rs := [20, 21]) SI (by kernel_rfl) (by simp) <| (I_cons Z ?_ (I_cons Z ?_ I_nil))
  refine x_box Z Z Z fun b144 => i1 21 Z <| x_mapEntry (ek := kZ) (ev := evT) (a := b + 1) Z Z Z ky3 Tryz.underlying148 zv213 PC fun u145 s145 => ip 22 Z Z Z Z (p_extract Z Z) <| i1 23 Z <| x_entryStore (ek := kZ) (ev := evT) (a := b + 1) (c := thOf b) Z Z Z PC <| i1 24 Z <| x_mapEntry (ek := kZ) (ev := evB) (a := b + 2) Z Z Z ky3 Tryz.underlying149 zv4 PC fun u147 s147 => ip 25 Z Z Z Z (p_extract Z Z) <| i1 26 Z <| x_entryStore (ek := kZ) (ev := evB) (a := b + 2) (c := true) Z Z Z PC <| i1 27 Z <| x_mapEntry (ek := kZ) (ev := evA) (a := b + 6) Z Z Z ky3 Tryz.underlying146 zv241 PC fun u149 s149 => ip 28 Z Z Z Z (p_extract Z Z) <| i1 29 Z <| x_entryStore (ek := kZ) (ev := evA) (a := b + 6) (c := b144) Z Z Z PC <| i0 <| Q_then ?_
  exact J_at b144 SU KE
  refine x_mapEntry (ek := kZ) (ev := evT) (a := b + 1) Z Z Z ky3 Tryz.underlying148 zv213 PC fun u145 s145 => ip 22 Z Z Z Z (p_extract Z Z) <| I_ready (rs := [20, 23]) SI (by kernel_rfl) (by simp) <| (I_cons Z ?_ (I_cons Z ?_ I_nil))
  refine x_box Z Z Z fun b144 => i1 23 Z <| x_entryStore (ek := kZ) (ev := evT) (a := b + 1) (c := thOf b) Z Z Z PC <| i1 24 Z <| x_mapEntry (ek := kZ) (ev := evB) (a := b + 2) Z Z Z ky3 Tryz.underlying149 zv4 PC fun u147 s147 => ip 25 Z Z Z Z (p_extract Z Z) <| i1 26 Z <| x_entryStore (ek := kZ) (ev := evB) (a := b + 2) (c := true) Z Z Z PC <| i1 27 Z <| x_mapEntry (ek := kZ) (ev := evA) (a := b + 6) Z Z Z ky3 Tryz.underlying146 zv241 PC fun u149 s149 => ip 28 Z Z Z Z (p_extract Z Z) <| i1 29 Z <| x_entryStore (ek := kZ) (ev := evA) (a := b + 6) (c := b144) Z Z Z PC <| i0 <| Q_then ?_
  exact J_at b144 SU KE
  refine x_entryStore (ek := kZ) (ev := evT) (a := b + 1) (c := thOf b) Z Z Z PC <| I_ready (rs := [20, 24]) SI (by kernel_rfl) (by simp) <| (I_cons Z ?_ (I_cons Z ?_ I_nil))
  refine x_box Z Z Z fun b144 => i1 24 Z <| x_mapEntry (ek := kZ) (ev := evB) (a := b + 2) Z Z Z ky3 Tryz.underlying149 zv4 PC fun u147 s147 => ip 25 Z Z Z Z (p_extract Z Z) <| i1 26 Z <| x_entryStore (ek := kZ) (ev := evB) (a := b + 2) (c := true) Z Z Z PC <| i1 27 Z <| x_mapEntry (ek := kZ) (ev := evA) (a := b + 6) Z Z Z ky3 Tryz.underlying146 zv241 PC fun u149 s149 => ip 28 Z Z Z Z (p_extract Z Z) <| i1 29 Z <| x_entryStore (ek := kZ) (ev := evA) (a := b + 6) (c := b144) Z Z Z PC <| i0 <| Q_then ?_
  exact J_at b144 SU KE
  refine x_mapEntry (ek := kZ) (ev := evB) (a := b + 2) Z Z Z ky3 Tryz.underlying149 zv4 PC fun u147 s147 => ip 25 Z Z Z Z (p_extract Z Z) <| I_ready (rs := [20, 26]) SI (by kernel_rfl) (by simp) <| (I_cons Z ?_ (I_cons Z ?_ I_nil))
  refine x_box Z Z Z fun b144 => i1 26 Z <| x_entryStore (ek := kZ) (ev := evB) (a := b + 2) (c := true) Z Z Z PC <| i1 27 Z <| x_mapEntry (ek := kZ) (ev := evA) (a := b + 6) Z Z Z ky3 Tryz.underlying146 zv241 PC fun u149 s149 => ip 28 Z Z Z Z (p_extract Z Z) <| i1 29 Z <| x_entryStore (ek := kZ) (ev := evA) (a := b + 6) (c := b144) Z Z Z PC <| i0 <| Q_then ?_
  exact J_at b144 SU KE
  refine x_entryStore (ek := kZ) (ev := evB) (a := b + 2) (c := true) Z Z Z PC <| I_ready (rs := [20, 27]) SI (by kernel_rfl) (by simp) <| (I_cons Z ?_ (I_cons Z ?_ I_nil))
  refine x_box Z Z Z fun b144 => i1 27 Z <| x_mapEntry (ek := kZ) (ev := evA) (a := b + 6) Z Z Z ky3 Tryz.underlying146 zv241 PC fun u149 s149 => ip 28 Z Z Z Z (p_extract Z Z) <| i1 29 Z <| x_entryStore (ek := kZ) (ev := evA) (a := b + 6) (c := b144) Z Z Z PC <| i0 <| Q_then ?_
  exact J_at b144 SU KE
  refine x_mapEntry (ek := kZ) (ev := evA) (a := b + 6) Z Z Z ky3 Tryz.underlying146 zv241 PC fun u149 s149 => ip 28 Z Z Z Z (p_extract Z Z) <| i1 20 Z <| x_box Z Z Z fun b144 => i1 29 Z <| x_entryStore (ek := kZ) (ev := evA) (a := b + 6) (c := b144) Z Z Z PC <| i0 <| Q_then ?_
  exact J_at b144 SU KE
  refine x_box Z Z Z fun b144 => I_ready (rs := [11, 21]) SI (by kernel_rfl) (by simp) <| (I_cons Z ?_ (I_cons Z ?_ I_nil))
  refine J_val (v_load Z ty3 HS (by exact rfl)) Z Z Z <| i1 21 Z <| x_mapEntry (ek := kZ) (ev := evT) (a := b + 1) Z Z Z ky3 Tryz.underlying148 zv213 PC fun u145 s145 => ip 22 Z Z Z Z (p_extract Z Z) <| i1 23 Z <| x_entryStore (ek := kZ) (ev := evT) (a := b + 1) (c := thOf b) Z Z Z PC <| i1 24 Z <| x_mapEntry (ek := kZ) (ev := evB) (a := b + 2) Z Z Z ky3 Tryz.underlying149 zv4 PC fun u147 s147 => ip 25 Z Z Z Z (p_extract Z Z) <| i1 26 Z <| x_entryStore (ek := kZ) (ev := evB) (a := b + 2) (c := true) Z Z Z PC <| i1 27 Z <| x_mapEntry (ek := kZ) (ev := evA) (a := b + 6) Z Z Z ky3 Tryz.underlying146 zv241 PC fun u149 s149 => ip 28 Z Z Z Z (p_extract Z Z) <| i1 29 Z <| x_entryStore (ek := kZ) (ev := evA) (a := b + 6) (c := b144) Z Z Z PC <| i0 <| Q_then ?_
  exact J_at b144 SU KE
  refine x_mapEntry (ek := kZ) (ev := evT) (a := b + 1) Z Z Z ky3 Tryz.underlying148 zv213 PC fun u145 s145 => ip 22 Z Z Z Z (p_extract Z Z) <| I_ready (rs := [11, 23]) SI (by kernel_rfl) (by simp) <| (I_cons Z ?_ (I_cons Z ?_ I_nil))
  refine J_val (v_load Z ty3 HS (by exact rfl)) Z Z Z <| i1 23 Z <| x_entryStore (ek := kZ) (ev := evT) (a := b + 1) (c := thOf b) Z Z Z PC <| i1 24 Z <| x_mapEntry (ek := kZ) (ev := evB) (a := b + 2) Z Z Z ky3 Tryz.underlying149 zv4 PC fun u147 s147 => ip 25 Z Z Z Z (p_extract Z Z) <| i1 26 Z <| x_entryStore (ek := kZ) (ev := evB) (a := b + 2) (c := true) Z Z Z PC <| i1 27 Z <| x_mapEntry (ek := kZ) (ev := evA) (a := b + 6) Z Z Z ky3 Tryz.underlying146 zv241 PC fun u149 s149 => ip 28 Z Z Z Z (p_extract Z Z) <| i1 29 Z <| x_entryStore (ek := kZ) (ev := evA) (a := b + 6) (c := b144) Z Z Z PC <| i0 <| Q_then ?_
  exact J_at b144 SU KE
  refine x_entryStore (ek := kZ) (ev := evT) (a := b + 1) (c := thOf b) Z Z Z PC <| i1 11 Z <| J_val (v_load Z ty3 HS (by exact rfl)) Z Z Z <| i1 24 Z <| x_mapEntry (ek := kZ) (ev := evB) (a := b + 2) Z Z Z ky3 Tryz.underlying149 zv4 PC fun u147 s147 => ip 25 Z Z Z Z (p_extract Z Z) <| i1 26 Z <| x_entryStore (ek := kZ) (ev := evB) (a := b + 2) (c := true) Z Z Z PC <| i1 27 Z <| x_mapEntry (ek := kZ) (ev := evA) (a := b + 6) Z Z Z ky3 Tryz.underlying146 zv241 PC fun u149 s149 => ip 28 Z Z Z Z (p_extract Z Z) <| i1 29 Z <| x_entryStore (ek := kZ) (ev := evA) (a := b + 6) (c := b144) Z Z Z PC <| i0 <| Q_then ?_
  exact J_at b144 SU KE
  refine x_mapEntry (ek := kZ) (ev := evT) (a := b + 1) Z Z Z ky3 Tryz.underlying148 zv213 PC fun u145 s145 => ip 22 Z Z Z Z (p_extract Z Z) <| I_ready (rs := [11, 20, 23]) SI (by kernel_rfl) (by simp) <| (I_cons Z ?_ (I_cons Z ?_ (I_cons Z ?_ I_nil)))
  refine J_val (v_load Z ty3 HS (by exact rfl)) Z Z Z <| I_ready (rs := [20, 23]) SI (by kernel_rfl) (by simp) <| (I_cons Z ?_ (I_cons Z ?_ I_nil))
  refine x_box Z Z Z fun b144 => i1 23 Z <| x_entryStore (ek := kZ) (ev := evT) (a := b + 1) (c := thOf b) Z Z Z PC <| i1 24 Z <| x_mapEntry (ek := kZ) (ev := evB) (a := b + 2) Z Z Z ky3 Tryz.underlying149 zv4 PC fun u147 s147 => ip 25 Z Z Z Z (p_extract Z Z) <| i1 26 Z <| x_entryStore (ek := kZ) (ev := evB) (a := b + 2) (c := true) Z Z Z PC <| i1 27 Z <| x_mapEntry (ek := kZ) (ev := evA) (a := b + 6) Z Z Z ky3 Tryz.underlying146 zv241 PC fun u149 s149 => ip 28 Z Z Z Z (p_extract Z Z) <| i1 29 Z <| x_entryStore (ek := kZ) (ev := evA) (a := b + 6) (c := b144) Z Z Z PC <| i0 <| Q_then ?_
  exact J_at b144 SU KE
  refine x_entryStore (ek := kZ) (ev := evT) (a := b + 1) (c := thOf b) Z Z Z PC <| I_ready (rs := [20, 24]) SI (by kernel_rfl) (by simp) <| (I_cons Z ?_ (I_cons Z ?_ I_nil))
  refine x_box Z Z Z fun b144 => i1 24 Z <| x_mapEntry (ek := kZ) (ev := evB) (a := b + 2) Z Z Z ky3 Tryz.underlying149 zv4 PC fun u147 s147 => ip 25 Z Z Z Z (p_extract Z Z) <| i1 26 Z <| x_entryStore (ek := kZ) (ev := evB) (a := b + 2) (c := true) Z Z Z PC <| i1 27 Z <| x_mapEntry (ek := kZ) (ev := evA) (a := b + 6) Z Z Z ky3 Tryz.underlying146 zv241 PC fun u149 s149 => ip 28 Z Z Z Z (p_extract Z Z) <| i1 29 Z <| x_entryStore (ek := kZ) (ev := evA) (a := b + 6) (c := b144) Z Z Z PC <| i0 <| Q_then ?_
  exact J_at b144 SU KE
  refine x_mapEntry (ek := kZ) (ev := evB) (a := b + 2) Z Z Z ky3 Tryz.underlying149 zv4 PC fun u147 s147 => ip 25 Z Z Z Z (p_extract Z Z) <| I_ready (rs := [20, 26]) SI (by kernel_rfl) (by simp) <| (I_cons Z ?_ (I_cons Z ?_ I_nil))
  refine x_box Z Z Z fun b144 => i1 26 Z <| x_entryStore (ek := kZ) (ev := evB) (a := b + 2) (c := true) Z Z Z PC <| i1 27 Z <| x_mapEntry (ek := kZ) (ev := evA) (a := b + 6) Z Z Z ky3 Tryz.underlying146 zv241 PC fun u149 s149 => ip 28 Z Z Z Z (p_extract Z Z) <| i1 29 Z <| x_entryStore (ek := kZ) (ev := evA) (a := b + 6) (c := b144) Z Z Z PC <| i0 <| Q_then ?_
  exact J_at b144 SU KE
  refine x_entryStore (ek := kZ) (ev := evB) (a := b + 2) (c := true) Z Z Z PC <| I_ready (rs := [20, 27]) SI (by kernel_rfl) (by simp) <| (I_cons Z ?_ (I_cons Z ?_ I_nil))
  refine x_box Z Z Z fun b144 => i1 27 Z <| x_mapEntry (ek := kZ) (ev := evA) (a := b + 6) Z Z Z ky3 Tryz.underlying146 zv241 PC fun u149 s149 => ip 28 Z Z Z Z (p_extract Z Z) <| i1 29 Z <| x_entryStore (ek := kZ) (ev := evA) (a := b + 6) (c := b144) Z Z Z PC <| i0 <| Q_then ?_
  exact J_at b144 SU KE
  refine x_mapEntry (ek := kZ) (ev := evA) (a := b + 6) Z Z Z ky3 Tryz.underlying146 zv241 PC fun u149 s149 => ip 28 Z Z Z Z (p_extract Z Z) <| i1 20 Z <| x_box Z Z Z fun b144 => i1 29 Z <| x_entryStore (ek := kZ) (ev := evA) (a := b + 6) (c := b144) Z Z Z PC <| i0 <| Q_then ?_
  exact J_at b144 SU KE
  refine x_box Z Z Z fun b144 => I_ready (rs := [11, 23]) SI (by kernel_rfl) (by simp) <| (I_cons Z ?_ (I_cons Z ?_ I_nil))
  refine J_val (v_load Z ty3 HS (by exact rfl)) Z Z Z <| i1 23 Z <| x_entryStore (ek := kZ) (ev := evT) (a := b + 1) (c := thOf b) Z Z Z PC <| i1 24 Z <| x_mapEntry (ek := kZ) (ev := evB) (a := b + 2) Z Z Z ky3 Tryz.underlying149 zv4 PC fun u147 s147 => ip 25 Z Z Z Z (p_extract Z Z) <| i1 26 Z <| x_entryStore (ek := kZ) (ev := evB) (a := b + 2) (c := true) Z Z Z PC <| i1 27 Z <| x_mapEntry (ek := kZ) (ev := evA) (a := b + 6) Z Z Z ky3 Tryz.underlying146 zv241 PC fun u149 s149 => ip 28 Z Z Z Z (p_extract Z Z) <| i1 29 Z <| x_entryStore (ek := kZ) (ev := evA) (a := b + 6) (c := b144) Z Z Z PC <| i0 <| Q_then ?_
  exact J_at b144 SU KE
  refine x_entryStore (ek := kZ) (ev := evT) (a := b + 1) (c := thOf b) Z Z Z PC <| i1 11 Z <| J_val (v_load Z ty3 HS (by exact rfl)) Z Z Z <| i1 24 Z <| x_mapEntry (ek := kZ) (ev := evB) (a := b + 2) Z Z Z ky3 Tryz.underlying149 zv4 PC fun u147 s147 => ip 25 Z Z Z Z (p_extract Z Z) <| i1 26 Z <| x_entryStore (ek := kZ) (ev := evB) (a := b + 2) (c := true) Z Z Z PC <| i1 27 Z <| x_mapEntry (ek := kZ) (ev := evA) (a := b + 6) Z Z Z ky3 Tryz.underlying146 zv241 PC fun u149 s149 => ip 28 Z Z Z Z (p_extract Z Z) <| i1 29 Z <| x_entryStore (ek := kZ) (ev := evA) (a := b + 6) (c := b144) Z Z Z PC <| i0 <| Q_then ?_
  exact J_at b144 SU KE
  refine x_entryStore (ek := kZ) (ev := evT) (a := b + 1) (c := thOf b) Z Z Z PC <| I_ready (rs := [11, 20]) SI (by kernel_rfl) (by simp) <| (I_cons Z ?_ (I_cons Z ?_ I_nil))
  refine J_val (v_load Z ty3 HS (by exact rfl)) Z Z Z <| I_ready (rs := [20, 24]) SI (by kernel_rfl) (by simp) <| (I_cons Z ?_ (I_cons Z ?_ I_nil))
  refine x_box Z Z Z fun b144 => i1 24 Z <| x_mapEntry (ek := kZ) (ev := evB) (a := b + 2) Z Z Z ky3 Tryz.underlying149 zv4 PC fun u147 s147 => ip 25 Z Z Z Z (p_extract Z Z) <| i1 26 Z <| x_entryStore (ek := kZ) (ev := evB) (a := b + 2) (c := true) Z Z Z PC <| i1 27 Z <| x_mapEntry (ek := kZ) (ev := evA) (a := b + 6) Z Z Z ky3 Tryz.underlying146 zv241 PC fun u149 s149 => ip 28 Z Z Z Z (p_extract Z Z) <| i1 29 Z <| x_entryStore (ek := kZ) (ev := evA) (a := b + 6) (c := b144) Z Z Z PC <| i0 <| Q_then ?_
  exact J_at b144 SU KE
  refine x_mapEntry (ek := kZ) (ev := evB) (a := b + 2) Z Z Z ky3 Tryz.underlying149 zv4 PC fun u147 s147 => ip 25 Z Z Z Z (p_extract Z Z) <| I_ready (rs := [20, 26]) SI (by kernel_rfl) (by simp) <| (I_cons Z ?_ (I_cons Z ?_ I_nil))
  refine x_box Z Z Z fun b144 => i1 26 Z <| x_entryStore (ek := kZ) (ev := evB) (a := b + 2) (c := true) Z Z Z PC <| i1 27 Z <| x_mapEntry (ek := kZ) (ev := evA) (a := b + 6) Z Z Z ky3 Tryz.underlying146 zv241 PC fun u149 s149 => ip 28 Z Z Z Z (p_extract Z Z) <| i1 29 Z <| x_entryStore (ek := kZ) (ev := evA) (a := b + 6) (c := b144) Z Z Z PC <| i0 <| Q_then ?_
  exact J_at b144 SU KE
  refine x_entryStore (ek := kZ) (ev := evB) (a := b + 2) (c := true) Z Z Z PC <| I_ready (rs := [20, 27]) SI (by kernel_rfl) (by simp) <| (I_cons Z ?_ (I_cons Z ?_ I_nil))
  refine x_box Z Z Z fun b144 => i1 27 Z <| x_mapEntry (ek := kZ) (ev := evA) (a := b + 6) Z Z Z ky3 Tryz.underlying146 zv241 PC fun u149 s149 => ip 28 Z Z Z Z (p_extract Z Z) <| i1 29 Z <| x_entryStore (ek := kZ) (ev := evA) (a := b + 6) (c := b144) Z Z Z PC <| i0 <| Q_then ?_
  exact J_at b144 SU KE
  refine x_mapEntry (ek := kZ) (ev := evA) (a := b + 6) Z Z Z ky3 Tryz.underlying146 zv241 PC fun u149 s149 => ip 28 Z Z Z Z (p_extract Z Z) <| i1 20 Z <| x_box Z Z Z fun b144 => i1 29 Z <| x_entryStore (ek := kZ) (ev := evA) (a := b + 6) (c := b144) Z Z Z PC <| i0 <| Q_then ?_
  exact J_at b144 SU KE
  refine x_box Z Z Z fun b144 => i1 11 Z <| J_val (v_load Z ty3 HS (by exact rfl)) Z Z Z <| i1 24 Z <| x_mapEntry (ek := kZ) (ev := evB) (a := b + 2) Z Z Z ky3 Tryz.underlying149 zv4 PC fun u147 s147 => ip 25 Z Z Z Z (p_extract Z Z) <| i1 26 Z <| x_entryStore (ek := kZ) (ev := evB) (a := b + 2) (c := true) Z Z Z PC <| i1 27 Z <| x_mapEntry (ek := kZ) (ev := evA) (a := b + 6) Z Z Z ky3 Tryz.underlying146 zv241 PC fun u149 s149 => ip 28 Z Z Z Z (p_extract Z Z) <| i1 29 Z <| x_entryStore (ek := kZ) (ev := evA) (a := b + 6) (c := b144) Z Z Z PC <| i0 <| Q_then ?_
  exact J_at b144 SU KE
  intro b144
  refine J_seq <| J_drawL (some 25) mixed <| ip 0 Z Z Z Z (p_move Z) <| ip 1 Z Z Z Z (p_nilCheck Z) <| ip 2 Z Z Z Z (p_fieldAddr Z fa153_12) <| iv 3 Z Z Z Z (fun _ => v_loadL (o := 13) (i := 3) Z ty147 HS Z (by exact rfl)) <| ip 4 Z Z Z Z (p_fieldAddr Z fa213_2) <| iv 5 Z Z Z Z (fun _ => v_load Z ty3 HS (by exact rfl)) <| ip 6 Z Z Z Z (p_move Z) <| ip 7 Z Z Z Z (p_nilCheck Z) <| ip 8 Z Z Z Z (p_fieldAddr Z fa153_1) <| iv 9 Z Z Z Z (fun _ => v_loadL (o := 0) (i := 5) Z ty75 HS Z (by exact rfl)) <| ip 10 Z Z Z Z (p_move Z) <| ip 11 Z Z Z Z (p_add64 Z Z (by omega)) <| ip 12 Z Z Z Z (p_move Z) <| ip 13 Z Z Z Z (p_add64 Z Z (by omega)) <| ip 14 Z Z Z Z (p_move Z) <| ip 15 Z Z Z Z (p_nilCheck Z) <| ip 16 Z Z Z Z (p_fieldAddr Z fa153_0) <| ip 17 Z Z Z Z (p_fieldAddr Z fa86_2) <| iv 18 Z Z Z Z (fun _ => v_loadL (o := 0) (i := 2) Z ty3 HS Z (by exact rfl)) ?_
  refine ip 19 Z Z Z Z (p_move Z) <| ip 20 Z Z Z Z (p_nilCheck Z) <| ip 21 Z Z Z Z (p_fieldAddr Z fa153_0) <| ip 22 Z Z Z Z (p_fieldAddr Z fa86_3) <| iv 23 Z Z Z Z (fun _ => v_loadL (o := 0) (i := 3) Z ty3 HS Z (by exact rfl)) <| i1 24 Z <| xc fc143 (.cons Z (.cons Z (.cons Z (.cons Z (.cons Z .nil))))) Z (ringNew) fun b175 => i1 25 Z <| x_mapUpdate (ek := kZ) (ev := evA) (a := b + 3) (c := b175) Z Z Z ky3 Tryz.underlying147 PC <| i0 <| Q_then <| J_seq <| J_drawT 6 mixed (by kernel_rfl) <| sm Z Z <| sp Z (p_nilCheck Z) <| sp Z (p_fieldAddr Z fa153_17) <| S_val Z (v_loadL (o := 13) (i := 8) Z ty150 HS Z (by exact rfl)) <| sp Z (p_fieldAddr Z fa213_2) <| S_val Z (v_load Z ty3 HS (by exact rfl)) <| S_nil <| L_op <| x_mapUpdate (ek := kZ) (ev := evZ) (a := b + 3) (c := 0) Z Z Z ky3 Tryz.underlying150 PC ?_
  refine nq <| J_drawT 5 mixed (by kernel_rfl) <| sm Z Z <| sp Z (p_nilCheck Z) <| sp Z (p_fieldAddr Z fa153_5) <| sp Z (p_fieldAddr Z fa213_0) <| S_val Z (v_load Z ty3 HS (by exact rfl)) <| S_nil <| xo fc144 (A3 Z Z Z) Z (qAddC (q := s.q) (i := b + 1) (p := 4) PC (by omega)) fun _ => L_nil <| J_endnormal <| J_pick (A := each rpF s.rp) PC <| J_pick (A := blk b144 _ _) PC <| J_asTo (B := rpF (b + 6, b144, (0, 0), false)) (by rfl) <| J_eachPush <| J_pick (A := each (rgF s.mb) s.rg) PC <| J_pick (A := rgA b175 _ _) PC <| J_asTo (B := rgF s.mb (b + 3, b175, rgNew (b + 4) (b + 5) s.cs s.cc)) (by rfl) <| J_eachPush <| J_pick (A := mapV kZ evA (.map (some br)) _) PC <| J_mapEq (qs := ptrs (s.rp ++ [(b + 6, b144, (0, 0), false)])) (ptrs_push hr) <| J_pick (A := mapV kZ evA (.map (some bg)) _) PC ?_
  refine J_mapEq (qs := ptrs (s.rg ++ [(b + 3, b175, rgNew (b + 4) (b + 5) s.cs s.cc)])) (ptrs_push hg) <| J_coS (p := p) (s := kThread s b t h b175 b144) bn be br bg bt bs bp bl bk PX trivial <| J_return ((b175, b144)) Tryz.results93 .nil ?_ ?_
  · rfl
  · exact SU
end Go.Pse
namespace Go.Pse
open Go.RowKit Go.Proofs
variable {E : World} {l : List As} {n : Nat} {F : Env} {K : Act → World → Prop}
theorem J_cutAt {b o : Nat} (xs ys : List Value) (o' : Nat) {zs : List Value} (hz : zs = xs ++ ys) (ho : o + xs.length = o') (k : Jk E (fld b o' ys :: fld b o xs :: l) n F K) : Jk E (fld b o zs :: l) n F K :=
  J_split xs ys hz (by rw [ho]; exact J_pick (.there .here) k)
def encG (ct cu cs cc : Int) (sh : Bool) : List Value := [.int .i64 ct, .int .i64 cu, .int .i64 cs, .int .i64 cc, .bool sh]
abbrev kZero (ct cu cs cc : Int) (sh : Bool) (mb : Nat) : KS := { ct := ct, cu := cu, cs := cs, cc := cc, sh := sh, mb := mb, mem := List.replicate 64 zrow, sl := [], mr := [], mp := [], q := [], rt := [], tm := [], jn := [], nt := [], ep := [], rp := [], rg := [], th := [], sp := [], pr := [], be := [], tk := [], now := 0 }
theorem J_coNew {p mb bn be br bg bt bs bp bl bk : Nat} {ct cu cs cc : Int} {sh : Bool} (k : Jk E (coA p (kZero ct cu cs cc sh mb) :: l) n F K) :
  Jk E (blk p 153 [.int .i64 ct, .int .i64 cu, .int .i64 cs, .int .i64 cc, .bool sh, .pointer (some ⟨mb, 0, none⟩), .map none, .map none, .map none, .slice none 0 0, .map none, .slice none 0 0, .slice none 0 0, .map (some bn), .map (some be), .map (some br), .map (some bg), .map (some bt), .map (some bs), .map (some bp), .map (some bl), .map (some bk), .int .u64 0] :: memA mb (List.replicate 64 zrow) :: mapV kZ evA (.map (some bn)) [] :: mapV kZ evA (.map (some be)) [] :: mapV kZ evA (.map (some br)) [] :: mapV kZ evA (.map (some bg)) [] :: mapV kZ evT (.map (some bt)) [] :: mapV kZ evB (.map (some bs)) [] :: mapV kZ evZ (.map (some bp)) [] :: mapV kZ evL (.map (some bl)) [] :: mapV kZ evZ (.map (some bk)) [] :: l) n F K := by
 refine J_fld <| J_cutAt [.int .i64 ct, .int .i64 cu, .int .i64 cs, .int .i64 cc, .bool sh, .pointer (some ⟨mb, 0, none⟩)] [.map none, .map none, .map none, .slice none 0 0, .map none, .slice none 0 0, .slice none 0 0, .map (some bn), .map (some be), .map (some br), .map (some bg), .map (some bt), .map (some bs), .map (some bp), .map (some bl), .map (some bk), .int .u64 0] 6 Z Z <| J_cutAt [.map none] [.map none, .map none, .slice none 0 0, .map none, .slice none 0 0, .slice none 0 0, .map (some bn), .map (some be), .map (some br), .map (some bg), .map (some bt), .map (some bs), .map (some bp), .map (some bl), .map (some bk), .int .u64 0] 7 Z Z <| J_cutAt [.map none] [.map none, .slice none 0 0, .map none, .slice none 0 0, .slice none 0 0, .map (some bn), .map (some be), .map (some br), .map (some bg), .map (some bt), .map (some bs), .map (some bp), .map (some bl), .map (some bk), .int .u64 0] 8 Z Z <| J_cutAt [.map none] [.slice none 0 0, .map none, .slice none 0 0, .slice none 0 0, .map (some bn), .map (some be), .map (some br), .map (some bg), .map (some bt), .map (some bs), .map (some bp), .map (some bl), .map (some bk), .int .u64 0] 9 Z Z <| J_cutAt [.slice none 0 0] [.map none, .slice none 0 0, .slice none 0 0, .map (some bn), .map (some be), .map (some br), .map (some bg), .map (some bt), .map (some bs), .map (some bp), .map (some bl), .map (some bk), .int .u64 0] 10 Z Z <| J_cutAt [.map none] [.slice none 0 0, .slice none 0 0, .map (some bn), .map (some be), .map (some br), .map (some bg), .map (some bt), .map (some bs), .map (some bp), .map (some bl), .map (some bk), .int .u64 0] 11 Z Z <| J_cutAt [.slice none 0 0] [.slice none 0 0, .map (some bn), .map (some be), .map (some br), .map (some bg), .map (some bt), .map (some bs), .map (some bp), .map (some bl), .map (some bk), .int .u64 0] 12 Z Z ?_
 refine J_cutAt [.slice none 0 0] [.map (some bn), .map (some be), .map (some br), .map (some bg), .map (some bt), .map (some bs), .map (some bp), .map (some bl), .map (some bk), .int .u64 0] 13 Z Z <| J_cutAt [.map (some bn), .map (some be), .map (some br), .map (some bg), .map (some bt), .map (some bs), .map (some bp), .map (some bl), .map (some bk)] [.int .u64 0] 22 Z Z <| J_mapNil (ek := kI) (ev := evS) <| J_slS (b := p) (o := 6) (ps := []) none PX trivial <| J_mapNil (ek := kI) (ev := evZ) <| J_mkS (b := p) (o := 7) (ps := []) none PX trivial <| J_mapNil (ek := kI) (ev := kI) <| J_spS (b := p) (o := 8) (ps := []) none PX trivial <| J_mapNil (ek := kI) (ev := evQ) <| J_rtS (b := p) (o := 10) (ps := []) none PX trivial <| J_nil (el := 208) (sz := 2) <| J_rowEq (ys := ([] : List _).map encI) Z <| J_rqS (b := p) (o := 9) (xs := []) (.slice none 0 0) PX trivial ?_
 refine J_nil (el := 308) (sz := 3) <| J_rowEq (ys := ([] : List _).map encT) Z <| J_tmrS (b := p) (o := 11) (xs := []) (.slice none 0 0) PX trivial <| J_nil (el := 45) (sz := 7) <| J_rowEq (ys := ([] : List _).map encD) Z <| J_jnlS (b := p) (o := 12) (xs := []) (.slice none 0 0) PX trivial <| J_pick (A := mapV kZ evA (.map (some bn)) []) PC <| J_mapEq (qs := ptrs ([] : List (Int × Nat × Int × List ID))) Z <| J_pick (A := mapV kZ evA (.map (some be)) []) PC <| J_mapEq (qs := ptrs ([] : List (Int × Nat × List Msg × List Rcv))) Z <| J_pick (A := mapV kZ evA (.map (some br)) []) PC <| J_mapEq (qs := ptrs ([] : List (Int × Nat × ID × Bool))) Z <| J_pick (A := mapV kZ evA (.map (some bg)) []) PC ?_
 refine J_mapEq (qs := ptrs ([] : List (Int × Nat × Rg))) Z <| J_eachNil ntF <| J_eachNil epF <| J_eachNil rpF <| J_eachNil (rgF mb) <| J_coS (p := p) (s := kZero ct cu cs cc sh mb) bn be br bg bt bs bp bl bk PX trivial ?_
 exact k
def bOf (u : Int) (j : Nat) : Int := 1 + (j : Int) * (7 + u)
def hOf (ct cu : Int) : Int := 1 + ct * (7 + cu)
def kBase (ct cu cs cc : Int) (sh : Bool) (mb be bn : Nat) : KS := if sh then { kZero ct cu cs cc true mb with ep := [(hOf ct cu, be, [], [])], nt := [(hOf ct cu + 1, bn, 0, [])] } else kZero ct cu cs cc false mb
def kTh (s : KS) (h : Int) (bs : Nat → Nat × Nat) : Nat → KS
  | 0 => s
  | i + 1 => kThread (kTh s h bs i) (bOf s.cu i) (i : Int) h (bs i).1 (bs i).2
section
variable {s : KS} {h : Int} {bs : Nat → Nat × Nat}
theorem kTh_keep : ∀ i, (kTh s h bs i).ct = s.ct ∧ (kTh s h bs i).cu = s.cu ∧ (kTh s h bs i).cs = s.cs ∧ (kTh s h bs i).cc = s.cc ∧ (kTh s h bs i).sh = s.sh ∧ (kTh s h bs i).mb = s.mb ∧ (kTh s h bs i).mem = s.mem ∧ (kTh s h bs i).nt = s.nt ∧ (kTh s h bs i).ep = s.ep ∧ (kTh s h bs i).pr = s.pr ∧ (kTh s h bs i).now = s.now ∧ (kTh s h bs i).mr = s.mr ∧ (kTh s h bs i).rt = s.rt ∧ (kTh s h bs i).tm = s.tm ∧ (kTh s h bs i).jn = s.jn
  | 0 => ⟨rfl, rfl, rfl, rfl, rfl, rfl, rfl, rfl, rfl, rfl, rfl, rfl, rfl, rfl, rfl⟩
  | i + 1 => kTh_keep i
theorem kTh_cu (i : Nat) : (kTh s h bs i).cu = s.cu := (kTh_keep i).2.1
theorem kTh_rp : ∀ i, (kTh s h bs i).rp = s.rp ++ (List.range i).map fun j => (bOf s.cu j + 6, (bs j).2, (0, 0), false)
  | 0 => by simp [kTh]
  | i + 1 => by
    show (kTh s h bs i).rp ++ _ = _
    rw [kTh_rp i, List.range_succ, List.map_append, List.append_assoc]; rfl
theorem kTh_rg : ∀ i, (kTh s h bs i).rg = s.rg ++ (List.range i).map fun j => (bOf s.cu j + 3, (bs j).1, rgNew (bOf s.cu j + 4) (bOf s.cu j + 5) s.cs s.cc)
  | 0 => by simp [kTh]
  | i + 1 => by
    show (kTh s h bs i).rg ++ [(bOf s.cu i + 3, (bs i).1, rgNew (bOf s.cu i + 4) (bOf s.cu i + 5) (kTh s h bs i).cs (kTh s h bs i).cc)] = _
    rw [kTh_rg i, List.range_succ, List.map_append, List.append_assoc, (kTh_keep i).2.2.1, (kTh_keep i).2.2.2.1]; rfl
theorem kTh_qlen : ∀ i, (kTh s h bs i).q.length ≤ s.q.length + i
  | 0 => Nat.le_refl _
  | i + 1 => by
    have := kTh_qlen i
    have h2 := qAdd_len (kTh s h bs i).q (bOf s.cu i + 1) 4
    show (qAdd (kTh s h bs i).q (bOf s.cu i + 1) 4).length ≤ _
    omega
theorem kTh_congr {bs' : Nat → Nat × Nat} : ∀ {i : Nat}, (∀ j, j < i → bs j = bs' j) → kTh s h bs i = kTh s h bs' i
  | 0, _ => rfl
  | i + 1, hh => by rw [kTh, kTh, kTh_congr fun j hj => hh j (by omega), hh i (by omega)]
variable {u : Int} {i : Nat}
theorem bOf_ne {j : Nat} (hu : 1 ≤ u ∧ u ≤ 12) (hi : i ≤ 2) (hj : j < i) : bOf u j ≠ bOf u i := by
  unfold bOf
  have : (i = 1 ∧ j = 0) ∨ (i = 2 ∧ j = 0) ∨ (i = 2 ∧ j = 1) := by omega
  rcases this with ⟨rfl, rfl⟩ | ⟨rfl, rfl⟩ | ⟨rfl, rfl⟩ <;> simp <;> omega
theorem kTh_fresh (hr : s.rp = []) (hg : s.rg = []) (hu : 1 ≤ s.cu ∧ s.cu ≤ 12) (hi : i ≤ 2) : look (ptrs (kTh s h bs i).rp) (bOf s.cu i + 6) = none ∧ look (ptrs (kTh s h bs i).rg) (bOf s.cu i + 3) = none := by
  rw [kTh_rp, kTh_rg, hr, hg]
  constructor <;> (
    rw [look_none_iff]
    intro hm
    simp only [ptrs, List.nil_append, List.map_map, List.mem_map, List.mem_range, Function.comp] at hm
    obtain ⟨j, hj, he⟩ := hm
    exact bOf_ne hu hi hj (by omega))
end
variable {lo hi : Int}
theorem cut_in {n : Int} (h : lo ≤ hi) : lo ≤ cutI n lo hi ∧ cutI n lo hi ≤ hi := by unfold cutI; split <;> split <;> omega
structure NewG where
  p : Nat
  mb : Nat
  be : Nat
  bn : Nat
  bs : Nat → Nat × Nat
def kNew (ct cu cs cc : Int) (sh : Bool) (g : NewG) : KS := kTh (kBase (cutI ct 1 3) (cutI cu 1 12) (cutI cs 0 3) (cutI cc 0 4) sh g.mb g.be g.bn) (hOf (cutI ct 1 3) (cutI cu 1 12)) g.bs (cutI ct 1 3).toNat
theorem coNew {ct cu cs cc : Int} {sh : Bool} :
    Con Tryz.prog 45 #[.agg (encG ct cu cs cc sh).toArray] E l (fun g : NewG => .pointer (some ⟨g.p, 0, none⟩)) (fun g => coA g.p (kNew ct cu cs cc sh g) :: l) := by
  refine Con.body (n := 69) Tryz.func45 Z Z _ (env_ok 1 Z) <| sr <| L_op <| x_box Z Z Z fun b1 => ag Z Z <| nq <| J_seq <| J_drawL (some 15) mixed <| ip 0 Z Z Z Z (p_fieldAddr Z fa86_0) <| iv 1 Z Z Z Z (fun _ => v_load Z ty3 HS (by exact rfl)) <| ip 3 Z Z Z Z (p_fieldAddr Z fa86_1) <| iv 4 Z Z Z Z (fun _ => v_load Z ty3 HS (by exact rfl)) <| ip 6 Z Z Z Z (p_fieldAddr Z fa86_2) <| iv 7 Z Z Z Z (fun _ => v_load Z ty3 HS (by exact rfl)) <| ip 9 Z Z Z Z (p_fieldAddr Z fa86_3) <| iv 10 Z Z Z Z (fun _ => v_load Z ty3 HS (by exact rfl)) <| ip 12 Z Z Z Z (p_fieldAddr Z fa86_4) <| iv 13 Z Z Z Z (fun _ => v_load Z ty4 HS (by exact rfl)) <| i1 2 Z <| xc fc91 (A3 Z Z Z) Z (cCut) fun _ => i1 5 Z <| xc fc91 (A3 Z Z Z) Z (cCut) fun _ => i1 8 Z <| xc fc91 (A3 Z Z Z) Z (cCut) fun _ => i1 11 Z <| xc fc91 (A3 Z Z Z) Z (cCut) fun _ => ?_
  obtain ⟨X, hX⟩ : ∃ X, X = cutI ct 1 3 := ⟨_, rfl⟩
  obtain ⟨U, hU⟩ : ∃ U, U = cutI cu 1 12 := ⟨_, rfl⟩
  have hX2 := cut_in (n := ct) (lo := 1) (hi := 3) (by omega)
  have hU2 := cut_in (n := cu) (lo := 1) (hi := 12) (by omega)
  rw [← hX] at hX2
  rw [← hU] at hU2
  refine J_slot (t := 8) (v := .int .i64 X) Z (by rw [hX]) <| J_slot (t := 11) (v := .int .i64 U) Z (by rw [hU]) ?_
  obtain ⟨H, hH⟩ : ∃ H, H = hOf X U := ⟨_, rfl⟩
  have hH2 : 1 ≤ H ∧ H ≤ 60 ∧ X * (7 + U) = H - 1 := by
    rw [hH]; unfold hOf
    have : X = 1 ∨ X = 2 ∨ X = 3 := by omega
    rcases this with rfl | rfl | rfl <;> omega
  refine ip 14 Z Z Z Z (bld86 (.cons Z (.cons Z (.cons Z (.cons Z (.cons Z .nil))))) (by repeat constructor)) <| i1 15 Z <| x_store Z Z ty86 Z SM SM RO PT <| J_pick (A := blk b1 _ _) PC <| J_asTo (B := blk b1 86 (encG X U (cutI cs 0 3) (cutI cc 0 4) sh)) (by rfl) <| i0 <| Q_then <| J_seq <| J_drawP .nil ?_
  refine' Pa.det [] rfl rfl rfl rfl (by kernel_rfl) (by decide) ?_ ?_ ?_
  rotate_left
  intro γ Rr X K k
  refine J_val (v_loadA Z ty86 HS CT) Z Z Z ?_
  exact k
  · exact fun _ _ _ => rfl
  refine' Pa.nat [] rfl rfl rfl rfl (by kernel_rfl) (by decide) ?_ ?_ ?_
  rotate_left 2
  intro γ Rr X K k
  refine xc fc92 (A1 Z) Z (memNew) fun b22 => ?_
  exact k b22
  · exact fun _ _ _ => ⟨rfl, rfl⟩
  refine' Pa.nat [] rfl rfl rfl rfl (by kernel_rfl) (by decide) ?_ ?_ ?_
  rotate_left 2
  intro γ Rr X K k
  refine x_makeMap (ek := kZ) (ev := evA) Z fun b23 => ?_
  exact k b23
  · exact fun _ _ _ => ⟨rfl, rfl⟩
  refine' Pa.nat [] rfl rfl rfl rfl (by kernel_rfl) (by decide) ?_ ?_ ?_
  rotate_left 2
  intro γ Rr X K k
  refine x_makeMap (ek := kZ) (ev := evA) Z fun b24 => ?_
  exact k b24
  · exact fun _ _ _ => ⟨rfl, rfl⟩
  refine' Pa.nat [] rfl rfl rfl rfl (by kernel_rfl) (by decide) ?_ ?_ ?_
  rotate_left 2
  intro γ Rr X K k
  refine x_makeMap (ek := kZ) (ev := evA) Z fun b25 => ?_
  exact k b25
  · exact fun _ _ _ => ⟨rfl, rfl⟩
  refine' Pa.nat [] rfl rfl rfl rfl (by kernel_rfl) (by decide) ?_ ?_ ?_
  rotate_left 2
  intro γ Rr X K k
  refine x_makeMap (ek := kZ) (ev := evA) Z fun b26 => ?_
  exact k b26
  · exact fun _ _ _ => ⟨rfl, rfl⟩
  refine' Pa.nat [] rfl rfl rfl rfl (by kernel_rfl) (by decide) ?_ ?_ ?_
  rotate_left 2
  intro γ Rr X K k
  refine x_makeMap (ek := kZ) (ev := evT) Z fun b27 => ?_
  exact k b27
  · exact fun _ _ _ => ⟨rfl, rfl⟩
  refine' Pa.nat [] rfl rfl rfl rfl (by kernel_rfl) (by decide) ?_ ?_ ?_
  rotate_left 2
  intro γ Rr X K k
  refine x_makeMap (ek := kZ) (ev := evB) Z fun b28 => ?_
  exact k b28
  · exact fun _ _ _ => ⟨rfl, rfl⟩
  refine' Pa.nat [] rfl rfl rfl rfl (by kernel_rfl) (by decide) ?_ ?_ ?_
  rotate_left 2
  intro γ Rr X K k
  refine x_makeMap (ek := kZ) (ev := evZ) Z fun b29 => ?_
  exact k b29
  · exact fun _ _ _ => ⟨rfl, rfl⟩
  refine' Pa.nat [] rfl rfl rfl rfl (by kernel_rfl) (by decide) ?_ ?_ ?_
  rotate_left 2
  intro γ Rr X K k
  refine x_makeMap (ek := kZ) (ev := evL) Z fun b30 => ?_
  exact k b30
  · exact fun _ _ _ => ⟨rfl, rfl⟩
  refine' Pa.nat [] rfl rfl rfl rfl (by kernel_rfl) (by decide) ?_ ?_ ?_
  rotate_left 2
  intro γ Rr X K k
  refine x_makeMap (ek := kZ) (ev := evZ) Z fun b31 => ?_
  exact k b31
  · exact fun _ _ _ => ⟨rfl, rfl⟩
  refine Pa.fin 14 3 Z Z mixed Z (by kernel_rfl) SU (fun _ _ _ _ _ h => h) fun γ => ?_
  generalize (γ 22).1 = b22
  generalize (γ 23).1 = b23
  generalize (γ 24).1 = b24
  generalize (γ 25).1 = b25
  generalize (γ 26).1 = b26
  generalize (γ 27).1 = b27
  generalize (γ 28).1 = b28
  generalize (γ 29).1 = b29
  generalize (γ 30).1 = b30
  generalize (γ 31).1 = b31
  refine ap 11 Z Z Z Z (bld153 (.cons Z (.cons Z (.cons Z (.cons Z (.cons Z (.cons Z (.cons Z (.cons Z (.cons Z (.cons Z (.cons Z .nil))))))))))) (by repeat constructor)) <| A_one (i := 12) (by kernel_rfl) Z <| x_box Z Z Z fun b33 => J_pick (A := mapV kZ evZ (.map (some b31)) []) PC <| J_pick (A := mapV kZ evL (.map (some b30)) []) PC <| J_pick (A := mapV kZ evZ (.map (some b29)) []) PC <| J_pick (A := mapV kZ evB (.map (some b28)) []) PC <| J_pick (A := mapV kZ evT (.map (some b27)) []) PC <| J_pick (A := mapV kZ evA (.map (some b26)) []) PC <| J_pick (A := mapV kZ evA (.map (some b25)) []) PC <| J_pick (A := mapV kZ evA (.map (some b24)) []) PC <| J_pick (A := mapV kZ evA (.map (some b23)) []) PC <| J_pick (A := memA b22 _) PC <| J_pick (A := blk b33 _ _) PC ?_
  refine J_coNew <| ap 13 Z Z Z Z (p_assign Z) <| A_done (by kernel_rfl) <| qx <| fa Z Z fa86_0 <| L_val Z (v_load Z ty3 HS (by exact rfl)) <| fa Z Z fa86_1 <| L_val Z (v_load Z ty3 HS (by exact rfl)) <| L_pur Z (p_add64 Z Z (by omega)) <| L_pur Z (p_mul64 Z Z (by omega)) <| L_pur Z (p_add64 Z Z (by omega)) <| J_slot (t := 40) (v := .int .i64 H) Z (by rw [hH2.2.2]; congr 1; omega) <| ag Z Z <| nq <| J_cut (α := Nat × Nat) (fun x => coA b33 (kBase X U (cutI cs 0 3) (cutI cc 0 4) sh b22 x.1 x.2) :: blk b1 86 (encG X U (cutI cs 0 3) (cutI cc 0 4) sh) :: l) (fun x => [(3, .pointer (some ⟨b33, 0, none⟩)), (4, .int .i64 H), (1, .pointer (some ⟨b1, 0, none⟩))]) ?_ ?_
  refine sr <| fa Z Z fa86_4 <| L_val Z (v_load Z ty4 HS (by exact rfl)) <| nq <| C_split Z (fun h42 => ?_) (fun h42 => ?_)
  obtain rfl : sh = true := h42
  refine J_pick (A := coA b33 _) PC <| J_coO fun bn be br bg bt bs bp bl bk _ => sr <| mv Z Z <| nc Z Z <| fa Z Z fa153_10 <| L_val Z (v_loadL (o := 13) (i := 1) Z ty145 HS Z (by exact rfl)) <| mv Z Z <| L_pur Z (bld222 .nil (by repeat constructor)) <| L_op <| x_box Z Z Z fun b49 => L_op <| x_mapUpdate (ek := kZ) (ev := evA) (a := H) (c := b49) Z Z Z ky3 Tryz.underlying145 PC <| ny <| mv Z Z <| nc Z Z <| fa Z Z fa153_9 <| L_val Z (v_loadL (o := 13) (i := 0) Z ty144 HS Z (by exact rfl)) <| mv Z Z <| L_pur Z (p_add64 Z Z (by omega)) <| L_pur Z (bld229 .nil (by repeat constructor)) <| L_op <| x_box Z Z Z fun b57 => L_op <| x_mapUpdate (ek := kZ) (ev := evA) (a := H + 1) (c := b57) Z Z Z ky3 Tryz.underlying144 PC <| nq <| J_pick (A := blk b49 _ _) PC ?_
  refine J_asTo (B := blk b49 222 [.slice none 0 0, .slice none 0 0]) (by rfl) <| J_epNew <| J_asTo (B := epF (H, b49, [], [])) (by rfl) <| J_pick (A := each epF _) PC <| J_pick (A := epF _) PC <| J_eachPush <| J_asTo (B := each epF [(H, b49, [], [])]) (by rfl) <| J_pick (A := blk b57 _ _) PC <| J_asTo (B := blk b57 229 [.int .u32 0, .slice none 0 0, .map none]) (by rfl) <| J_ntNew <| J_asTo (B := ntF (H + 1, b57, 0, [])) (by rfl) <| J_pick (A := each ntF _) PC <| J_pick (A := ntF _) PC <| J_eachPush <| J_asTo (B := each ntF [(H + 1, b57, 0, [])]) (by rfl) <| J_pick (A := mapV kZ evA (.map (some be)) _) PC <| J_mapEq (qs := ptrs [(H, b49, ([] : List Msg), ([] : List Rcv))]) (by rfl) <| J_pick (A := mapV kZ evA (.map (some bn)) _) PC ?_
  refine J_mapEq (qs := ptrs [(H + 1, b57, (0 : Int), ([] : List ID))]) (by rfl) <| J_coS (p := b33) (s := { kZero X U (cutI cs 0 3) (cutI cc 0 4) true b22 with ep := [(H, b49, [], [])], nt := [(H + 1, b57, 0, [])] }) bn be br bg bt bs bp bl bk PX trivial <| J_asTo (B := coA b33 (kBase X U (cutI cs 0 3) (cutI cc 0 4) true b22 b49 b57)) (by rw [hH]; rfl) ?_
  exact J_at (b49, b57) SU KE
  refine J_skip <| Q_then ?_
  obtain rfl : sh = false := by simpa using h42
  refine J_pick (A := coA b33 _) PC <| J_asTo (B := coA b33 (kBase X U (cutI cs 0 3) (cutI cc 0 4) false b22 0 0)) (by rfl) ?_
  exact J_at (0, 0) SU KE
  intro x
  obtain ⟨be, bn⟩ := x
  obtain ⟨S, hS⟩ : ∃ S, S = (kBase X U (cutI cs 0 3) (cutI cc 0 4) sh b22 be bn) := ⟨_, rfl⟩
  have hSf : S.cu = U ∧ S.rp = [] ∧ S.rg = [] ∧ S.q = [] := by rw [hS]; unfold kBase; split <;> exact ⟨rfl, rfl, rfl, rfl⟩
  obtain ⟨hS1, hS2, hS3, hS4⟩ := hSf
  refine J_asTo (B := coA b33 S) (by rw [hS]) <| J_seq <| sr <| fa Z Z fa86_0 <| L_val Z (v_load Z ty3 HS (by exact rfl)) <| mv Z Z <| nq <| J_block <| J_loop (α := Nat × (Nat → Nat × Nat)) (fun x => (x.1 : Int) ≤ X) (fun x => coA b33 (kTh S H x.2 x.1) :: l) (fun x => [(60, .int .i64 (x.1 : Int)), (59, .int .i64 X), (3, .pointer (some ⟨b33, 0, none⟩)), (4, .int .i64 H)]) (fun x => X.toNat - x.1) (0, fun _ => (0, 0)) (by simp; omega) SU KE ?_
  intro x hi
  obtain ⟨i, bs⟩ := x
  dsimp only at hi ⊢
  refine sr <| L_pur Z (p_lss Z Z) <| nq <| J_seq <| C_dec Z (fun h61 => ?_) (fun h61 => ?_)
  refine J_skip <| Q_then <| J_seq <| J_block <| sr <| mv Z Z <| ag Z Z <| ny <| mv Z Z <| mv Z Z <| mv Z Z <| xo fc93 (A3 Z Z Z) Z (coThread (b := bOf S.cu i) (s := kTh S H bs i) (t := (i : Int)) (h := H) PC (by omega) (by rw [kTh_cu]; omega) (by rw [kTh_cu]; rfl) (by omega) (by have := kTh_qlen (s := S) (h := H) (bs := bs) i; rw [hS4] at this; simp at this; omega) (kTh_fresh hS2 hS3 (by omega) (by omega)).1 (kTh_fresh hS2 hS3 (by omega) (by omega)).2) fun x66 => J_asTo (B := coA b33 (kTh S H (fun j => if j = i then x66 else bs j) (i + 1))) (by rw [kTh, if_pos rfl, kTh_congr (bs := fun j => if j = i then x66 else bs j) (bs' := bs) (fun j hj => if_neg (by omega))]) <| L_nil <| Q_blk_normal <| qr <| L_pur Z (p_add64 Z Z (by omega)) <| mv Z Z <| nq ?_
  exact J_again ((i + 1, fun j => if j = i then x66 else bs j)) (by simp; omega) (by simp; omega) SU KE
  refine J_pick (A := coA b33 _) PC <| J_asTo (B := coA b33 (kNew ct cu cs cc sh ⟨b33, b22, be, bn, bs⟩)) (by unfold kNew; rw [← hX, ← hU, ← hH, ← hS]; congr 2; omega) <| J_exit <| Q_then_exit <| Q_then_exit <| Q_blk_this <| qx <| mv Z Z <| ag Z Z <| nq <| J_ret <| J_return (⟨b33, b22, be, bn, bs⟩) Tryz.results45 (.tmp Z .nil) ?_ ?_
  · rfl
  · exact SU
end Go.Pse
namespace Go.Pse
open Go.RowKit
def loopR (n : Nat) (F : Env) (ps : Array Tmp) (assign body : Code) (D l : Nat) (st : LoopState) : As where
  h w S := (∃ fn tmps, Fr n F { tmps := tmps, defers := [] } ∧ w.heap[l]? = some (.loop { state := st, pending := none, fn := fn, tmps := tmps, params := ps, assign := assign, body := body, defers := D })) ∧ ∀ k, S k ↔ k.1 = l
  loc := fun {w w' S} ⟨⟨fn, tmps, h1, h2⟩, h3⟩ hs => ⟨⟨fn, tmps, h1, (heap_of_lk fun i => hs (l, i) ((h3 (l, i)).2 rfl)).trans h2⟩, h3⟩
  lt := fun {w S q} ⟨⟨fn, tmps, h1, h2⟩, h3⟩ hb => by rw [(h3 _).1 hb]; exact (Array.getElem?_eq_some_iff.1 h2).1
def defA (D : Nat) : As where
  h w S := w.heap[D]? = some (.deferred (some [])) ∧ ∀ k, S k ↔ k.1 = D
  loc := fun {w w' S} ⟨h2, h3⟩ hs => ⟨(heap_of_lk fun i => hs (D, i) ((h3 (D, i)).2 rfl)).trans h2, h3⟩
  lt := fun {w S q} ⟨h2, h3⟩ hb => by rw [(h3 _).1 hb]; exact (Array.getElem?_eq_some_iff.1 h2).1
section
variable {P : Program} {ops : Array Oper} {Q : Exit → Act → World → Prop} {E : World} {l m : List As} {n : Nat} {F : Env} {K : Act → World → Prop}
variable {d : Nat} {T : TypeId} {p : String} {e : Array Edge} {x y : Operand} {v : Value}
variable {args : Array Value} {w : World} {k : Nat}
theorem rows_wide {row : String} {R : Value → World → Prop} (h : Rows P row args w R) : RowsIn Fence.wide k P row args w R := fun c cs _ => by
  obtain ⟨v, w', h1, h2⟩ := h c cs
  exact ⟨v, w', h1, stepsIn_wide.2 h2⟩
variable {o : Oper}
theorem wp_wide {a : Act} {N : Act → World → Prop} (h : o.wp P a w N Q) : o.wpIn Fence.wide 0 P a w N Q := by
  refine ⟨fun _ _ => trivial, ?_⟩
  show o.uponIn Fence.wide 0 P a N Q ((execOp a.eval o).run P w)
  unfold Oper.wp at h
  generalize (execOp a.eval o).run P w = r at *
  cases r with
  | ok n w' =>
    cases n <;> simp only [Oper.upon] at h <;> simp only [Oper.uponIn]
    case value => exact h
    case skip => exact h
    case defer => exact h
    case enter => exact ⟨fun hh => (by cases hh), callsIn_wide.2 h⟩
    case row => exact ⟨fun hh => (by cases hh), rows_wide h⟩
  | halt x w' => cases x <;> simp only [Oper.upon] at h <;> simp only [Oper.uponIn]; exact h
variable {lp : Nat}
theorem wp_round {a : Act} {N : Act → World → Prop} (hd : ∀ c, o.op ≠ .defer c) (h : o.wp P a w N Q) : o.wpIn (Fence.wide.inRound lp) 0 P a w N Q := by
  refine ⟨fun _ _ => trivial, ?_⟩
  rw [Oper.semAt_eq _ _ _ hd]
  unfold Oper.wp at h
  generalize (execOp a.eval o).run P w = r at *
  cases r with
  | ok n w' =>
    cases n <;> simp only [Oper.upon] at h <;> simp only [Oper.uponIn]
    case value => exact h
    case skip => exact h
    case defer => exact h
    case enter => exact ⟨fun hh => (by cases hh), callsIn_wide.2 h⟩
    case row => exact ⟨fun hh => (by cases hh), rows_wide h⟩
  | halt x w' => cases x <;> simp only [Oper.upon] at h <;> simp only [Oper.uponIn]; exact h
theorem list_round {lp : Nat} (hQ : ¬ LetsOut Q) : ∀ {os : List Oper} {a : Act} {w : World}, (∀ o ∈ os, ∀ c, o.op ≠ .defer c) → wpList P ops Q os a w → wpListIn (Fence.wide.inRound lp) 0 P ops Q os a w
  | [], _, _, _, h => h
  | o :: os, a, w, hd, h => by
    have hd' : ∀ o ∈ os, ∀ c, o.op ≠ .defer c := fun o ho => hd o (List.mem_cons_of_mem _ ho)
    unfold wpList at h
    unfold wpListIn
    split
    · rename_i hw
      rw [if_pos hw] at h
      rcases h with h | ⟨h1, h2⟩
      · exact wp_round (hd o (by simp)) (Oper.wp_mono (fun a w h => list_round hQ hd' h) h)
      · exact absurd h2 hQ
    · rename_i hw
      rw [if_neg hw] at h
      exact ⟨fun _ _ => trivial, list_round hQ hd' h⟩
/-! ### regions in which yield is called -/
theorem J_regionIn {id : Nat} {os : List Oper} (k : Jk E l n F (wpListIn Fence.wide 0 P os.toArray Q os)) : Jk E l n F ((Code.region id os.toArray false).wp P Q) :=
  fun w a H hF => wpIn_wide.1 (wpIn_region_lit (k w a H hF))
theorem LI_nil (k : Jk E l n F (Q .normal)) : Jk E l n F (wpListIn Fence.wide 0 P ops Q []) := k
theorem LI_op {rest : List Oper} (k : Jop P ops Q o E l n F (wpListIn Fence.wide 0 P ops Q rest)) : Jk E l n F (wpListIn Fence.wide 0 P ops Q (o :: rest)) := fun w a H hF => by
  have := k w a H hF
  unfold wpListIn
  split
  · rename_i hw; rw [if_pos hw] at this; exact wp_wide this
  · rename_i hw; rw [if_neg hw] at this; exact ⟨fun _ _ => trivial, this⟩
def YCon (P : Program) (lp : Nat) (v : Value) (E : World) (L L' : List As) : Prop :=
  ∀ w, Sep E w L → YieldAt Fence.wide 0 P lp #[v] w fun e w' => e = .returned (.bool true) ∧ Sep E w' L'
theorem YCon.drop {C : As} {L' : List As} (h : YCon P lp v E l L') : YCon P lp v E (C :: l) L' := fun w H => h w H.tail
theorem LI_yield {L : List As} {ats : Array TypeId} {rest : List Oper} (hx : evl F x = some (.func (.yield lp) #[] #[])) (hy : evl F y = some v) (hd : Nat.blt d n = true) (hc : YCon P lp v E l L)
    (k : Jk E L n ((d, .bool true) :: F) (wpListIn Fence.wide 0 P ops Q rest)) :
    Jk E l n F (wpListIn Fence.wide 0 P ops Q (⟨some d, .call { callee := .value x, args := #[y], argTypes := ats }, T, p, e, none⟩ :: rest)) := fun w a H hF => by
  obtain ⟨fn, tmps, assign, body, hrun, hR⟩ := hc w H
  unfold wpListIn
  have hw : Region.wanted (⟨some d, .call { callee := .value x, args := #[y], argTypes := ats }, T, p, e, none⟩ : Oper) (yielded ops a.tmps) = true := rfl
  rw [if_pos hw]
  refine ⟨fun _ _ => trivial, ?_⟩
  show Oper.uponIn _ _ _ _ _ _ _ ((execOp a.eval ⟨some d, .call { callee := .value x, args := #[y], argTypes := ats }, T, p, e, none⟩).run P w)
  have hex : (execOp a.eval ⟨some d, .call { callee := .value x, args := #[y], argTypes := ats }, T, p, e, none⟩).run P w = .ok (.round lp fn tmps assign body) w := by
    simp [execOp, resolve, hF.evl hx, hF.evl hy, Deferred.ofValue, invoke, hrun]
  rw [hex]
  refine ⟨fun hh => (by cases hh), hR.mono fun e w' ⟨he, hs⟩ => ?_⟩
  subst he
  exact k w' _ hs (hF.put hd)
end
/-! ### slices.AppendSeq(nil, seq) -/
def apTail (sT : TypeId) : List Oper := [{ dst := some 12, op := .load sT (.tmp 2), type := sT, pos := "iter.go:54", after := #[], guard := none },
  { dst := some 4, op := .assign (.tmp 12), type := sT, pos := "iter.go:54", after := #[{ on := 0, ground := .data }, { on := 0, ground := .phase }], guard := none }]
def apHead (sT : TypeId) : List Oper := [{ dst := some 2, op := .box sT (.tmp 0), type := 0, pos := "iter.go:50", after := #[], guard := none },
  { dst := some 4, op := .assign (.const (.slice none 0 0)), type := sT, pos := "iter.go:50", after := #[], guard := none }]
def apMove (fT : TypeId) : List Oper := [{ dst := some 6, op := .move (.tmp 1), type := fT, pos := "iter.go:51", after := #[], guard := none }]
def apCodeG (asg body : Code) (sT fT : TypeId) : Code := .seq (.region 0 (apHead sT).toArray false) (.seq (.seq (.region 1 (apMove fT).toArray false) (.block 0 (.rangeFunc (.tmp 6) #[7] asg body))) (.seq (.region 4 (apTail sT).toArray false) .ret))
/-! .. where the elements are structs -/
def apAsgOps (el : TypeId) : List Oper := [{ dst := some 5, op := .alloc el, type := 0, pos := "iter.go:51", after := #[], guard := none },
  { dst := none, op := .store el (.tmp 5) (.tmp 7), type := 0, pos := "iter.go:51", after := #[{ on := 0, ground := .data }, { on := 0, ground := .phase }], guard := none }]
def apAssignS (el : TypeId) : Code := .region 2 (apAsgOps el).toArray false
def apOpsS (sT el : TypeId) : List Oper := [{ dst := some 8, op := .load sT (.tmp 2), type := sT, pos := "iter.go:52", after := #[], guard := none },
  { dst := some 9, op := .load el (.tmp 5), type := el, pos := "iter.go:52", after := #[], guard := none },
  { dst := some 10, op := .buildSlice sT 1 #[(0, .tmp 9)], type := sT, pos := "iter.go:52", after := #[{ on := 1, ground := .data }], guard := none },
  { dst := some 11, op := .call { callee := .builtin .append, args := #[.tmp 8, .tmp 10], argTypes := #[sT, sT] }, type := sT, pos := "iter.go:52", after := #[{ on := 0, ground := .data }, { on := 2, ground := .data }], guard := none },
  { dst := none, op := .store sT (.tmp 2) (.tmp 11), type := 0, pos := "iter.go:52", after := #[{ on := 3, ground := .data }, { on := 3, ground := .chain }, { on := 0, ground := .phase }, { on := 1, ground := .phase }, { on := 2, ground := .phase }, { on := 3, ground := .phase }], guard := none }]
def apBodyS (sT el : TypeId) : Code := .block 1 (.region 3 (apOpsS sT el).toArray false)
def apCodeS (sT el fT : TypeId) : Code := apCodeG (apAssignS el) (apBodyS sT el) sT fT
section
variable {P : Program} {E : World} {l : List As} {sT el fT : TypeId} {sz by_ : Nat} {agg : Bool} {zs : List Value} {κ : Type} {enc : κ → Value} {cells : κ → List Value}
def apKeep (sT el : TypeId) (sz : Nat) (cells : κ → List Value) (Bs : Nat) (ss : List κ) : As := As.ex fun v : Value => As.all [blk Bs sT [v], row el sz v (ss.map cells)]
def apEnv (Bs : Nat) (sv : Value) : Env := [(6, sv), (4, .slice none 0 0), (2, .pointer (some ⟨Bs, 0, none⟩)), (0, .slice none 0 0), (1, sv)]
abbrev apRecG (asg body : Code) (Bs : Nat) (sv : Value) (D lp : Nat) (st : LoopState) : As := loopR 13 (apEnv Bs sv) #[7] asg body D lp st
abbrev apRecS (sT el : TypeId) (Bs : Nat) (sv : Value) (D lp : Nat) (st : LoopState) : As := apRecG (apAssignS el) (apBodyS sT el) Bs sv D lp st
variable {n lp : Nat} {F : Env} {m : List As} {w : World}
theorem loop_turn {ps : Array Tmp} {c1 c2 : Code} {D : Nat} {s1 s2 : LoopState} {fn : FuncId} {tmps : Array Value} (hF : Fr n F { tmps := tmps, defers := [] })
    (hl : w.heap[lp]? = some (.loop { state := s1, pending := none, fn := fn, tmps := tmps, params := ps, assign := c1, body := c2, defers := D }))
    (H : Sep E w (loopR n F ps c1 c2 D lp s1 :: m)) : Sep E (w.putObj lp (.loop { state := s2, pending := none, fn := fn, tmps := tmps, params := ps, assign := c1, body := c2, defers := D })) (loopR n F ps c1 c2 D lp s2 :: m) := by
  refine H.rep .here put_same fun S' hS' => ?_
  obtain ⟨_, hSb⟩ := hS'
  exact ⟨⟨S', ⟨⟨fn, tmps, hF, World.putObj_heap_same (Array.getElem?_eq_some_iff.1 hl).1⟩, hSb⟩, fun _ h => .inl h⟩, fun k _ hk => put_out fun h => hk ((hSb k).2 h)⟩
variable {A B : As}
theorem apYieldS (ht : P.underlying sT = some (.slice el)) (hT : Ty P el sz by_ true zs) (hS : Ty P sT 1 24 false [.slice none 0 0]) (hsz : Nat.blt 0 sz = true) (hs64 : sz ≤ 64) (hzl : zs.length = sz)
    (hE : ∀ a, enc a = .agg (cells a).toArray) (hc : ∀ a, (cells a).length = sz ∧ ones (cells a) = true) {Bs D : Nat} {sv : Value} {ss : List κ} {a : κ} (hb : (ss.length + 1) * by_ ≤ 140737488355328) (hm : ss.length + 1 ≤ 9223372036854775807) :
    YCon P lp (enc a) E (A :: B :: apRecS sT el Bs sv D lp .ready :: defA D :: apKeep sT el sz cells Bs ss :: l) (A :: B :: apRecS sT el Bs sv D lp .ready :: defA D :: apKeep sT el sz cells Bs (ss ++ [a]) :: l) := by
  intro w H
  have hp : Pick (apRecS sT el Bs sv D lp .ready) (A :: B :: apRecS sT el Bs sv D lp .ready :: defA D :: apKeep sT el sz cells Bs ss :: l) (A :: B :: defA D :: apKeep sT el sz cells Bs ss :: l) := .there (.there .here)
  have H0 := H.pick hp
  obtain ⟨S0, ⟨fn, tmps, hF0, hl⟩, _⟩ := H0.head
  refine ⟨fn, tmps.setIfInBounds 7 (enc a), apAssignS el, apBodyS sT el, by simpa using run_yield (P := P) (args := #[enc a]) hl rfl, roundIn_of_wpIn trivial ?_⟩
  have hF7 : Fr 13 ((7, enc a) :: apEnv Bs sv) { tmps := tmps.setIfInBounds 7 (enc a), defers := [] } := hF0.put (d := 7) rfl
  -- the assignment to the loop's variable
  unfold apAssignS
  refine wpIn_region_lit (list_round (by rintro ⟨_, _, h⟩; exact h) (by simp [apAsgOps]) ?_)
  have key : Jk E (apRecS sT el Bs sv D lp .ready :: A :: B :: defA D :: apKeep sT el sz cells Bs ss :: l) 13 ((7, enc a) :: apEnv Bs sv)
      (wpList P (apAsgOps el).toArray
        (Exit.then (fun a₁ w₁ => ∃ w₂, (Instr.beginRound lp).run P w₁ = .ok () w₂ ∧ (apBodyS sT el).wpIn (Fence.wide.inRound lp) 0 P (roundPost P lp fun e w' => e = .returned (.bool true) ∧ Sep E w' (A :: B :: apRecS sT el Bs sv D lp .ready :: defA D :: apKeep sT el sz cells Bs (ss ++ [a]) :: l)) a₁ w₂) fun _ _ _ => False)
        (apAsgOps el)) := by
    refine L_op (x_alloc hT Z fun b5 => ?_)
    refine L_op (x_store (b := b5) (o := 0) (cs' := cells a) (vs := cells a) Z (by rw [show evl ((5, Value.pointer (some ⟨b5, 0, none⟩)) :: (7, enc a) :: apEnv Bs sv) (.tmp 7) = some (enc a) from rfl, hE a]) hT Z (hc a).1 (hc a).2 .here (Put.full (by rw [(hc a).1, hzl])) ?_)
    refine L_nil ?_
    intro w1 a1 H1 hF1
    have H1 := H1.pick (A := apRecS sT el Bs sv D lp .ready) (.there .here)
    obtain ⟨S1, ⟨fn1, tmps1, hG, hl1⟩, _⟩ := H1.head
    refine ⟨_, run_beginRound hl1 rfl, ?_⟩
    have H2 := loop_turn (s2 := .busy) hG hl1 H1
    unfold apBodyS
    refine wpIn_block (wpIn_region_lit (list_round (by rintro ⟨_, _, h⟩; exact h) (by simp [apOpsS]) ?_))
    refine (?_ : Jk E (apRecS sT el Bs sv D lp .busy :: blk b5 el (cells a) :: A :: B :: defA D :: apKeep sT el sz cells Bs ss :: l) 13 ((5, .pointer (some ⟨b5, 0, none⟩)) :: (7, enc a) :: apEnv Bs sv) _) _ _ H2 hF1
    refine J_pick (A := apKeep sT el sz cells Bs ss) (.there (.there (.there (.there (.there .here))))) <| J_ex fun v => J_all (m := [blk Bs sT [v], row el sz v (ss.map cells)]) <| L_val Z (v_load (b := Bs) (o := 0) Z hS .here Z) <| L_val Z (v_loadA (b := b5) (o := 0) Z hT (.there (.there (.there .here))) (Cut.full (hc a).1)) <| L_op (x_lit (vals := [Value.agg (cells a).toArray]) ht hT hzl (.cons Z .nil) (.agg .nil) (Wf.cons (hc a).1 (hc a).2 Wf.nil) Z (by omega) hsz Z fun v10 => ?_)
    refine L_op (x_app (v := v) Z Z ht hT hsz hzl (.there (.there .here)) (fun w H => sep_reads .here H) (by simpa using hb) (by simpa using hm) Z fun v11 => ?_)
    refine J_row .here fun _ a11 c11 hv11 _ _ _ => ?_
    subst hv11
    refine L_op (x_store (b := Bs) (o := 0) (vs := [.slice a11 (ss.map cells ++ [cells a]).length c11]) Z Z hS Z Z Z (.there (.there .here)) (.put .at) ?_)
    refine L_nil ?_
    intro w3 a3 H3 _
    have H4 : Sep E w3 ([blk Bs sT [.slice a11 (ss.map cells ++ [cells a]).length c11], row el sz (.slice a11 (ss.map cells ++ [cells a]).length c11) (ss.map cells ++ [cells a])] ++ (apRecS sT el Bs sv D lp .busy :: blk b5 el (cells a) :: A :: B :: defA D :: l)) :=
      Sub.sep (.cons (.there (.there .here)) (.cons .here (.drop .refl))) H3
    have H5 : Sep E w3 (apKeep sT el sz cells Bs (ss ++ [a]) :: apRecS sT el Bs sv D lp .busy :: blk b5 el (cells a) :: A :: B :: defA D :: l) := by
      refine Sep.ex_in (.slice a11 (ss.map cells ++ [cells a]).length c11) ?_
      have := Sep.all_in H4
      rw [show (ss ++ [a]).map cells = ss.map cells ++ [cells a] by simp]
      exact this
    have H6 := H5.pick (A := apRecS sT el Bs sv D lp .busy) (.there .here)
    obtain ⟨S3, ⟨fn3, tmps3, hG3, hl3⟩, _⟩ := H6.head
    refine ⟨_, _, run_endRound none hl3, rfl, ?_⟩
    have H7 := loop_turn (s2 := .ready) hG3 hl3 H6
    exact Sub.sep (.cons (.there (.there (.there .here))) (.cons (.there (.there (.there .here))) (.cons .here (.cons (.there (.there .here)) (.cons .here (.drop .refl)))))) H7
  exact key _ _ H0 hF7
def Gives (P : Program) (gf : FuncId) (caps : Array Value) (enc : κ → Value) (S : List κ → Prop) (N : Nat) (E : World) (A B : As) : Prop :=
  ∀ (lp : Nat) (L : List κ → List As), (∀ ss a (A B : As), ss.length < N → YCon P lp (enc a) E (A :: B :: L ss) (A :: B :: L (ss ++ [a]))) →
    Con P gf (#[.func (.yield lp) #[] #[]] ++ caps) E (A :: B :: L []) (fun _ : List κ => .tuple #[]) (fun ss => As.pure (S ss) :: A :: B :: L ss)
variable {f gf : FuncId} {fn fng : Func} {caps : Array Value} {N : Nat}
theorem appendSeqG {asg body : Code} {S : List κ → Prop} (hf : P.funcs[f]? = some fn) (hbody : fn.body = some (apCodeG asg body sT fT)) (hnt : fn.ntmps = 13) (hres : fn.results = #[.tmp 4])
    (hg : P.funcs[gf]? = some fng) (hgn : (fng.name == "runtime.NumGoroutine") = false) (hgb : fng.body.isNone = false)
    (ht : P.underlying sT = some (.slice el)) (hT : Ty P el sz by_ agg zs) (hS : Ty P sT 1 24 false [.slice none 0 0]) 
    (hY : ∀ (Bs D lp : Nat) (sv : Value) (ss : List κ) (a : κ) (A B : As), ss.length + 1 ≤ N → YCon P lp (enc a) E (A :: B :: apRecG asg body Bs sv D lp .ready :: defA D :: apKeep sT el sz cells Bs ss :: l) (A :: B :: apRecG asg body Bs sv D lp .ready :: defA D :: apKeep sT el sz cells Bs (ss ++ [a]) :: l))
    (hseq : Gives P gf caps enc S N E A B) :
    Con P f #[.slice none 0 0, .func (.func gf) #[] caps] E (A :: B :: l) (fun x : Value × List κ => x.1) (fun x => As.pure (S x.2) :: row el sz x.1 (x.2.map cells) :: A :: B :: l) := by
  intro w0 H0
  refine (callsIn_wide (n := 0)).1 (callsIn_of_wp_marks hf hbody trivial ?_ Z)
  rw [hnt]
  obtain ⟨sv, hsv⟩ : ∃ sv, sv = Value.func (.func gf) #[] caps := ⟨_, rfl⟩
  rw [← hsv]
  have hFr0 : Fr 13 [(0, .slice none 0 0), (1, sv)] { tmps := #[.slice none 0 0, sv] ++ Array.replicate (13 - (#[.slice none 0 0, sv] : Array Value).size) undef, defers := [] } := by
    refine ⟨by simp, rfl, fun t v hv => ?_⟩
    rw [get_cons] at hv
    split at hv
    · rename_i e; subst e; cases hv; rfl
    · rw [get_cons] at hv
      split at hv
      · rename_i e; subst e; cases hv; rfl
      · cases hv
  unfold apCodeG
  refine wpIn_seq (wpIn_wide.2 ((?_ : Jk E (A :: B :: l) 13 [(0, .slice none 0 0), (1, sv)] _) w0 _ H0 hFr0))
  refine J_region (L_op (x_box Z Z Z fun Bs => L_pur Z (p_assign Z) (L_nil (Q_then ?_))))
  intro w1 a1 H1 hF1
  refine wpIn_seq (wpIn_seq (wpIn_wide.2 ((?_ : Jk E (blk Bs sT [.slice none 0 0] :: A :: B :: l) 13 _ _) w1 a1 H1 hF1)))
  refine J_region (L_pur Z (p_move Z) (L_nil (Q_then ?_)))
  intro w2 a2 H2 hF2
  have hF2 : Fr 13 (apEnv Bs sv) a2 := hF2.keep (by unfold apEnv; exact .cons rfl (.cons rfl (.cons rfl (.cons rfl (.cons rfl .nil)))))
  refine wpIn_block (wpIn_rangeFunc ?_)
  intro fid _
  obtain ⟨lp, hlp⟩ : ∃ lp, lp = w2.heap.size + 1 := ⟨_, rfl⟩
  obtain ⟨D, hD⟩ : ∃ D, D = w2.heap.size := ⟨_, rfl⟩
  obtain ⟨W, hW⟩ : ∃ W, W = (w2.alloc (.deferred (some []))).alloc (.loop { state := .ready, pending := none, fn := fid, tmps := a2.tmps, params := #[7], assign := asg, body := body, defers := w2.heap.size }) := ⟨_, rfl⟩
  have hev : a2.eval (.tmp 6) = Value.func (.func gf) #[] caps := by rw [← hsv]; exact hF2.evl (x := .tmp 6) rfl
  have hgn' : ¬ fng.name = "runtime.NumGoroutine" := by simpa using hgn
  have hgb' : ¬ fng.body = none := by intro h; rw [h] at hgb; cases hgb
  refine ⟨lp, [{ target := .collected D, args := #[] }], W, { target := .fn (.func gf) caps, args := #[.func (.yield lp) #[] #[]] }, W, gf, #[.func (.yield lp) #[] #[]] ++ caps, W, ?_, ?_, fun _ _ => trivial, ?_, fun h => (by cases h), ?_⟩
  · rw [hW, hD, hlp]; exact run_enterLoop_outer _ _ _ _ _
  · simp only [rangeCall, resolve, hev]
    simp [Deferred.ofValue, Act.eval]
  · simp [invoke, callFunc, hg, hgn', hgb']
  · have H3 : Sep E w2 (apKeep sT el sz cells Bs [] :: A :: B :: l) := by
      have h1 : Sep E w2 (row el sz (.slice none 0 0) [] :: blk Bs sT [.slice none 0 0] :: A :: B :: l) := (J_nil (K := fun _ w => Sep E w (row el sz (.slice none 0 0) [] :: blk Bs sT [.slice none 0 0] :: A :: B :: l)) (fun w a H _ => H)) w2 a2 H2 hF2
      have h2 : Sep E w2 ([blk Bs sT [.slice none 0 0], row el sz (.slice none 0 0) []] ++ (A :: B :: l)) := h1.pick (.there .here)
      exact Sep.ex_in (.slice none 0 0) (Sep.all_in h2)
    have H4 : Sep E (w2.alloc (.deferred (some []))) (defA D :: apKeep sT el sz cells Bs [] :: A :: B :: l) :=
      H3.add alloc_same (fun _ hb => alloc_old hb) (S1 := fun q => q.1 = D) ⟨by rw [hD]; exact heap_alloc_new w2 _, fun _ => Iff.rfl⟩ (fun b hb => by omega)
    have hs1 : (w2.alloc (.deferred (some []))).heap.size = w2.heap.size + 1 := by simp
    have H5 : Sep E W (apRecG asg body Bs sv D lp .ready :: defA D :: apKeep sT el sz cells Bs [] :: A :: B :: l) := by
      rw [hW]
      refine H4.add alloc_same (fun _ hb => alloc_old hb) (S1 := fun q => q.1 = lp) ⟨⟨fid, a2.tmps, ⟨hF2.size, rfl, hF2.get⟩, ?_⟩, fun _ => Iff.rfl⟩ (fun b hb => by omega)
      rw [hlp, ← hs1, hD]; exact heap_alloc_new _ _
    have H6 : Sep E W (A :: B :: (fun ss => apRecG asg body Bs sv D lp .ready :: defA D :: apKeep sT el sz cells Bs ss :: l) []) :=
      Sub.sep (.cons (.there (.there (.there .here))) (.cons (.there (.there (.there .here))) .refl)) H5
    have hcon := hseq lp (fun ss => apRecG asg body Bs sv D lp .ready :: defA D :: apKeep sT el sz cells Bs ss :: l) (fun ss a A B hlen => by
      exact hY Bs D lp sv ss a A B hlen)
    refine callsIn_wide.2 ((hcon W H6).mono fun e w3 ⟨ss, he, H7⟩ => ?_)
    subst he
    obtain ⟨hSs, H8⟩ := H7.pure_out
    have H9 := H8.pick (A := apRecG asg body Bs sv D lp .ready) (.there (.there .here))
    obtain ⟨S3, ⟨fn3, tmps3, hG3, hl3⟩, _⟩ := H9.head
    refine ⟨none, _, run_endLoop hl3 (by simp), ?_⟩
    have H10 := loop_turn (s2 := .exhausted) hG3 hl3 H9
    revert H10
    generalize w3.putObj lp _ = w4
    intro H10
    have H11 : Sep E w4 (apKeep sT el sz cells Bs ss :: defA D :: A :: B :: l) := Sub.sep (.cons (.there (.there (.there (.there .here)))) (.cons (.there (.there (.there .here))) (.cons (.there .here) (.cons (.there .here) (.drop .refl))))) H10
    obtain ⟨v, H12⟩ := H11.ex_out
    have H13 : Sep E w4 (blk Bs sT [v] :: row el sz v (ss.map cells) :: defA D :: A :: B :: l) := Sep.all_out (m := [blk Bs sT [v], row el sz v (ss.map cells)]) H12
    have hload : ∀ (T : TypeId) p e g, (execOp a2.eval ⟨some 12, .load sT (.tmp 2), T, p, e, g⟩).run P w4 = .ok (.value v) w4 := fun T p e g =>
      v_load (E := E) (l := blk Bs sT [v] :: row el sz v (ss.map cells) :: defA D :: A :: B :: l) (b := Bs) (o := 0) (F := apEnv Bs sv) (n := 13) rfl hS .here rfl w4 a2 H13 hF2
    refine wpIn_seq (wpIn_region_lit ?_)
    unfold apTail
    refine wpListIn_plain Z fun K1 hK1 => ⟨fun _ _ => trivial, ?_⟩
    show Oper.uponIn _ _ _ _ _ _ _ ((execOp a2.eval ⟨some 12, .load sT (.tmp 2), sT, "iter.go:54", #[], none⟩).run P w4)
    rw [hload]
    refine hK1 _ _ (wpListIn_plain Z fun K2 hK2 => ⟨fun _ _ => trivial, ?_⟩)
    have hsz2 : a2.tmps.size = 13 := hF2.size
    have hass : ∀ (D' : List Deferred) (T : TypeId) p e g, (execOp (({ a2 with defers := D' } : Act).put (some 12) v).eval ⟨some 4, .assign (.tmp 12), T, p, e, g⟩).run P w4 = .ok (.value v) w4 := fun D' T p e g => by
      simp [execOp, Act.eval, Act.put, hsz2]
    show Oper.uponIn _ _ _ _ _ _ _ ((execOp (({ a2 with defers := _ } : Act).put (some 12) v).eval ⟨some 4, .assign (.tmp 12), sT, "iter.go:54", #[{ on := 0, ground := .data }, { on := 0, ground := .phase }], none⟩).run P w4)
    rw [hass]
    refine hK2 _ _ (wpListIn_nil (wpIn_ret ?_))
    have H14 := H13.pick (A := defA D) (.there (.there .here))
    obtain ⟨S4, hd4, _⟩ := H14.head
    have hdef : a2.defers = [] := hF2.defers
    show LeavesInM _ _ _ _ _ _ ([{ target := .collected D, args := #[] }] ++ a2.defers) _ _
    rw [hdef]
    refine ⟨by simp, .inl ⟨D, _, rfl, run_takeDeferred hd4, ?_⟩⟩
    have H15 : Sep E (w4.putObj D (.deferred none)) (As.pure True :: blk Bs sT [v] :: row el sz v (ss.map cells) :: A :: B :: l) := H14.rep .here put_same fun S' hS' => ⟨⟨fun _ => False, ⟨trivial, fun _ h => h⟩, fun _ h => h.elim⟩, fun k _ hk => put_out fun h => hk ((hS'.2 k).2 h)⟩
    have H16 := H15.pure_out.2.tail
    refine ⟨v, ?_, (v, ss), rfl, Sep.pure_in hSs H16⟩
    have ht4 : (((({ a2 with defers := [{ target := .collected D, args := #[] }] ++ a2.defers } : Act).put (some 12) v).put (some 4) v).tmps)[4]? = some v := by simp [Act.put, hsz2]
    unfold results
    rw [hres]
    simp [Act.put, hsz2]
theorem appendSeqS {S : List κ → Prop} (hf : P.funcs[f]? = some fn) (hbody : fn.body = some (apCodeS sT el fT)) (hnt : fn.ntmps = 13) (hres : fn.results = #[.tmp 4])
    (hg : P.funcs[gf]? = some fng) (hgn : (fng.name == "runtime.NumGoroutine") = false) (hgb : fng.body.isNone = false)
    (ht : P.underlying sT = some (.slice el)) (hT : Ty P el sz by_ true zs) (hS : Ty P sT 1 24 false [.slice none 0 0]) (hsz : Nat.blt 0 sz = true) (hs64 : sz ≤ 64) (hzl : zs.length = sz)
    (hE : ∀ a, enc a = .agg (cells a).toArray) (hc : ∀ a, (cells a).length = sz ∧ ones (cells a) = true) (hN : N * by_ ≤ 140737488355328) (hN2 : N ≤ 9223372036854775807)
    (hseq : Gives P gf caps enc S N E A B) :
    Con P f #[.slice none 0 0, .func (.func gf) #[] caps] E (A :: B :: l) (fun x : Value × List κ => x.1) (fun x => As.pure (S x.2) :: row el sz x.1 (x.2.map cells) :: A :: B :: l) :=
  appendSeqG hf hbody hnt hres hg hgn hgb ht hT hS (fun Bs D lp sv ss a A B h1 => apYieldS ht hT hS hsz hs64 hzl hE hc (Nat.le_trans (Nat.mul_le_mul_right _ h1) hN) (by omega)) hseq
end
end Go.Pse
namespace Go.Pse
open Go.RowKit Go.Sort
variable {w : World}
theorem onBlock {b : Nat} {f : Array Value → Array Value} {C : Array Value} {e : TypeId} {fr : Nat × Nat} (h : w.heap[b]? = some (.cells C e fr)) : (mapBlock w b f).heap[b]? = some (.cells (f C) e fr) := by
  have : (w.heap.modify b (onCells f))[b]? = some (.cells (f C) e fr) := by rw [Array.getElem?_modify, if_pos rfl, h]; rfl
  exact this
theorem offBlock {b k : Nat} {f : Array Value → Array Value} (h : k ≠ b) : (mapBlock w b f).heap[k]? = w.heap[k]? := by
  have : (w.heap.modify b (onCells f))[k]? = w.heap[k]? := by rw [Array.getElem?_modify, if_neg (Ne.symm h)]
  exact this
variable {E : World} {l : List As}
theorem row_laid {w' : World} {el : TypeId} {k b o cap n : Nat} {xs ys : List (List Value)} {f : Array Value → Array Value} {os : Array Obj}
    (H : Sep E w (row el k (.slice (some ⟨b, o, none⟩) xs.length cap) xs :: l)) (hlen : ys.length = xs.length) (hw : Wf k ys)
    (hf : ∀ C : Array Value, o + xs.length * k ≤ C.size → (f C).size = C.size ∧ ∀ i, (f C)[i]? = if o ≤ i ∧ i < o + xs.length * k then ys.flatten[i - o]? else C[i]?)
    (hw' : w' = grow (mapBlock (Sort.ahead w n) b f) os) : Sep E w' (row el k (.slice (some ⟨b, o, none⟩) xs.length cap) ys :: l) := by
  subst hw'
  have hsz : (mapBlock (Sort.ahead w n) b f).heap.size = w.heap.size := by simp [mapBlock]
  have hold : ∀ j, j < w.heap.size → j ≠ b → (grow (mapBlock (Sort.ahead w n) b f) os).heap[j]? = w.heap[j]? := fun j hj hjb => by
    rw [heap_grow_old _ _ (by rw [hsz]; exact hj), offBlock hjb]; rfl
  refine H.rep .here ⟨rfl, rfl, ⟨rfl, Nat.le_add_right _ _⟩, by simp [grow, hsz]⟩ fun S hS => ?_
  obtain ⟨hwf, hS⟩ := hS
  rcases hS with ⟨h, _⟩ | ⟨b', o', cap', C, h1, h2, h3, h4, h5, h6, h7⟩
  · cases h
  · cases h1
    have hb : b < w.heap.size := (Array.getElem?_eq_some_iff.1 h2).1
    have hle : xs.length * k ≤ cap * k := Nat.mul_le_mul_right _ h3
    obtain ⟨g1, g2⟩ := hf C (by omega)
    refine ⟨⟨S, ⟨hw, .inr ⟨b, o, cap, f C, by rw [hlen], ?_, by omega, h4, by rw [g1]; exact h5, ?_, h7⟩⟩, fun _ h => .inl h⟩, fun q hq hS => lk_of_heap (hold q.1 hq fun e => hS ((h7 q).2 e))⟩
    · rw [heap_grow_old _ _ (by rw [hsz]; exact hb)]
      exact onBlock (w := Sort.ahead w n) h2
    · apply List.ext_getElem?
      intro i
      rw [List.getElem?_take, List.getElem?_drop, hlen]
      have h8 := g2 (o + i)
      rw [← Array.getElem?_toList] at h8
      rw [h8]
      by_cases hi : i < xs.length * k
      · rw [if_pos hi, if_pos (by omega)]; congr 1; omega
      · rw [if_neg hi, List.getElem?_eq_none (by rw [hw.len, hlen]; omega)]
variable {k : Nat}
theorem mem_flat {xs : List (List Value)} (hw : Wf k xs) {t : Nat} (ht : t < xs.length * k) : ∃ x, xs[t / k]? = some x ∧ t % k < k ∧ xs.flatten[t]? = x[t % k]? := by
  have hk : 0 < k := by rcases Nat.eq_zero_or_pos k with h | h; · subst h; simp at ht
                        · exact h
  have h1 : t / k < xs.length := (Nat.div_lt_iff_lt_mul hk).2 ht
  refine ⟨xs[t / k], List.getElem?_eq_getElem h1, Nat.mod_lt _ hk, ?_⟩
  have := Wf.get (i := t / k) (k := t % k) hw (List.getElem?_eq_getElem h1) (Nat.mod_lt _ hk)
  rwa [Nat.mul_comm, Nat.div_add_mod] at this
section
variable {E w : World} {el : TypeId} {b o cap : Nat} {l : List As}
theorem row_cell {xs : List (List Value)} (H : Sep E w (row el k (.slice (some ⟨b, o, none⟩) xs.length cap) xs :: l)) : b < w.heap.size ∧ ∀ i u, xs.flatten[i]? = some u → w.cell? ⟨b, o + i, none⟩ = some u ∧ w.frozen? ⟨b, o + i, none⟩ = false := by
  obtain ⟨S, hwf, hS⟩ := H.head
  rcases hS with ⟨h, _⟩ | ⟨b', o', cap', C, h1, h2, h3, h4, h5, h6, h7⟩
  · cases h
  · cases h1
    refine ⟨(Array.getElem?_eq_some_iff.1 h2).1, fun i u hi => ⟨?_, ?_⟩⟩
    · have h8 : i < xs.length * k := by have := (List.getElem?_eq_some_iff.1 hi).1; rwa [hwf.len] at this
      rw [← h6, List.getElem?_take, if_pos h8, List.getElem?_drop, Array.getElem?_toList] at hi
      simp [World.cell?, h2, hi]
    · simp [World.frozen?, h2]
end
def insZ (x : Int) : List Int → List Int
  | [] => [x]
  | y :: ys => if y < x then y :: insZ x ys else x :: y :: ys
def sortZ : List Int → List Int
  | [] => []
  | x :: xs => insZ x (sortZ xs)
end Go.Pse
namespace Go.Proofs
open Go.Shelf
def Tryz.sortPl_ren : Go.Shelf.Ren := ⟨fun | 6 => 127 | 15 => 124 | 14 => 190 | 28 => 187 | 29 => 188 | 20 => 247 | 21 => 248 | 22 => 249 | 23 => 250 | 24 => 251 | 25 => 252 | 26 => 253 | 27 => 254 | 46 => 299 | 47 => 243 | 48 => 244 | 49 => 300 | 50 => 301 | 57 => 318 | n => n, fun | 22 => 57 | 24 => 108 | 25 => 196 | 3 => 3 | 39 => 154 | 0 => 0 | 53 => 22 | 55 => 102 | 4 => 4 | 46 => 338 | 45 => 337 | 50 => 42 | 5 => 5 | 9 => 9 | 66 => 388 | 70 => 391 | 76 => 438 | 77 => 439 | n => n, fun | n => n⟩
theorem Tryz.sortPl : Go.Proofs.SlLaysF0.n6 Tryz.prog Tryz.sortPl_ren := {
  mixed := by kernel_rfl
  f6 := ⟨Tryz.f127.name, by decide, Tryz.func127.trans (congrArg some (by kernel_rfl))⟩
  f14 := ⟨Tryz.f190.name, by decide, Tryz.func190.trans (congrArg some (by kernel_rfl))⟩
  f15 := Tryz.func124.trans (congrArg some (by kernel_rfl))
  f20 := ⟨Tryz.f247.name, by decide, Tryz.func247.trans (congrArg some (by kernel_rfl))⟩
  f21 := ⟨Tryz.f248.name, by decide, Tryz.func248.trans (congrArg some (by kernel_rfl))⟩
  f22 := ⟨Tryz.f249.name, by decide, Tryz.func249.trans (congrArg some (by kernel_rfl))⟩
  f23 := ⟨Tryz.f250.name, by decide, Tryz.func250.trans (congrArg some (by kernel_rfl))⟩
  f24 := ⟨Tryz.f251.name, by decide, Tryz.func251.trans (congrArg some (by kernel_rfl))⟩
  f25 := ⟨Tryz.f252.name, by decide, Tryz.func252.trans (congrArg some (by kernel_rfl))⟩
  f26 := ⟨Tryz.f253.name, by decide, Tryz.func253.trans (congrArg some (by kernel_rfl))⟩
  f27 := ⟨Tryz.f254.name, by decide, Tryz.func254.trans (congrArg some (by kernel_rfl))⟩
  f28 := Tryz.func187.trans (congrArg some (by kernel_rfl))
  f29 := Tryz.func188.trans (congrArg some (by kernel_rfl))
  f46 := ⟨Tryz.f299.name, by decide, Tryz.func299.trans (congrArg some (by kernel_rfl))⟩
  f47 := Tryz.func243.trans (congrArg some (by kernel_rfl))
  f48 := Tryz.func244.trans (congrArg some (by kernel_rfl))
  f49 := ⟨Tryz.f300.name, by decide, Tryz.func300.trans (congrArg some (by kernel_rfl))⟩
  f50 := ⟨Tryz.f301.name, by decide, Tryz.func301.trans (congrArg some (by kernel_rfl))⟩
  f57 := ⟨Tryz.f318.name, by decide, Tryz.func318.trans (congrArg some (by kernel_rfl))⟩
  t0 := Tryz.underlying0
  a0 := Tryz.isAgg0
  z0 := Tryz.sizeOf0
  v0 := Tryz.zeroValue0
  t3 := Tryz.underlying3
  a3 := Tryz.isAgg3
  z3 := Tryz.sizeOf3
  v3 := Tryz.zeroValue3
  t4 := Tryz.underlying4
  a4 := Tryz.isAgg4
  z4 := Tryz.sizeOf4
  v4 := Tryz.zeroValue4
  t5 := Tryz.underlying5
  a5 := Tryz.isAgg5
  z5 := Tryz.sizeOf5
  v5 := Tryz.zeroValue5
  t9 := Tryz.underlying9
  a9 := Tryz.isAgg9
  z9 := Tryz.sizeOf9
  v9 := Tryz.zeroValue9
  t22 := Tryz.underlying57
  a22 := Tryz.isAgg57
  z22 := Tryz.sizeOf57
  v22 := Tryz.zeroValue57
  t25 := Tryz.underlying196
  a25 := Tryz.isAgg196
  z25 := Tryz.sizeOf196
  v25 := Tryz.zeroValue196
  t39 := Tryz.underlying154
  a39 := Tryz.isAgg154
  z39 := Tryz.sizeOf154
  v39 := Tryz.zeroValue154
  t45 := Tryz.underlying337
  a45 := Tryz.isAgg337
  z45 := Tryz.sizeOf337
  v45 := Tryz.zeroValue337
  t46 := Tryz.underlying338
  a46 := Tryz.isAgg338
  z46 := Tryz.sizeOf338
  v46 := Tryz.zeroValue338
  t50 := Tryz.underlying42
  a50 := Tryz.isAgg42
  z50 := Tryz.sizeOf42
  v50 := Tryz.zeroValue42
  t53 := Tryz.underlying22
  a53 := Tryz.isAgg22
  z53 := Tryz.sizeOf22
  v53 := Tryz.zeroValue22
  t55 := Tryz.underlying102
  a55 := Tryz.isAgg102
  z55 := Tryz.sizeOf102
  v55 := Tryz.zeroValue102
  t66 := Tryz.underlying388
  a66 := Tryz.isAgg388
  z66 := Tryz.sizeOf388
  v66 := Tryz.zeroValue388
  t70 := Tryz.underlying391
  a70 := Tryz.isAgg391
  z70 := Tryz.sizeOf391
  v70 := Tryz.zeroValue391
  t76 := Tryz.underlying438
  a76 := Tryz.isAgg438
  z76 := Tryz.sizeOf438
  v76 := Tryz.zeroValue438
  t77 := Tryz.underlying439
  a77 := Tryz.isAgg439
  z77 := Tryz.sizeOf439
  v77 := Tryz.zeroValue439 }
def Tryz.sortRq_ren : Go.Shelf.Ren := ⟨fun | 6 => 74 | 15 => 124 | 14 => 123 | 28 => 187 | 29 => 188 | 20 => 179 | 21 => 180 | 22 => 181 | 23 => 182 | 24 => 183 | 25 => 184 | 26 => 185 | 27 => 186 | 46 => 242 | 47 => 243 | 48 => 244 | 49 => 245 | 50 => 246 | 57 => 298 | n => n, fun | 22 => 46 | 24 => 122 | 25 => 189 | 3 => 3 | 39 => 154 | 0 => 0 | 53 => 22 | 55 => 102 | 4 => 4 | 46 => 338 | 45 => 337 | 50 => 42 | 5 => 5 | 9 => 9 | 66 => 388 | 70 => 391 | 76 => 438 | 77 => 439 | n => n, fun | n => n⟩
theorem Tryz.sortRq : Go.Proofs.SlLaysF0.n6 Tryz.prog Tryz.sortRq_ren := {
  mixed := by kernel_rfl
  f6 := ⟨Tryz.f74.name, by decide, Tryz.func74.trans (congrArg some (by kernel_rfl))⟩
  f14 := ⟨Tryz.f123.name, by decide, Tryz.func123.trans (congrArg some (by kernel_rfl))⟩
  f15 := Tryz.func124.trans (congrArg some (by kernel_rfl))
  f20 := ⟨Tryz.f179.name, by decide, Tryz.func179.trans (congrArg some (by kernel_rfl))⟩
  f21 := ⟨Tryz.f180.name, by decide, Tryz.func180.trans (congrArg some (by kernel_rfl))⟩
  f22 := ⟨Tryz.f181.name, by decide, Tryz.func181.trans (congrArg some (by kernel_rfl))⟩
  f23 := ⟨Tryz.f182.name, by decide, Tryz.func182.trans (congrArg some (by kernel_rfl))⟩
  f24 := ⟨Tryz.f183.name, by decide, Tryz.func183.trans (congrArg some (by kernel_rfl))⟩
  f25 := ⟨Tryz.f184.name, by decide, Tryz.func184.trans (congrArg some (by kernel_rfl))⟩
  f26 := ⟨Tryz.f185.name, by decide, Tryz.func185.trans (congrArg some (by kernel_rfl))⟩
  f27 := ⟨Tryz.f186.name, by decide, Tryz.func186.trans (congrArg some (by kernel_rfl))⟩
  f28 := Tryz.func187.trans (congrArg some (by kernel_rfl))
  f29 := Tryz.func188.trans (congrArg some (by kernel_rfl))
  f46 := ⟨Tryz.f242.name, by decide, Tryz.func242.trans (congrArg some (by kernel_rfl))⟩
  f47 := Tryz.func243.trans (congrArg some (by kernel_rfl))
  f48 := Tryz.func244.trans (congrArg some (by kernel_rfl))
  f49 := ⟨Tryz.f245.name, by decide, Tryz.func245.trans (congrArg some (by kernel_rfl))⟩
  f50 := ⟨Tryz.f246.name, by decide, Tryz.func246.trans (congrArg some (by kernel_rfl))⟩
  f57 := ⟨Tryz.f298.name, by decide, Tryz.func298.trans (congrArg some (by kernel_rfl))⟩
  t0 := Tryz.underlying0
  a0 := Tryz.isAgg0
  z0 := Tryz.sizeOf0
  v0 := Tryz.zeroValue0
  t3 := Tryz.underlying3
  a3 := Tryz.isAgg3
  z3 := Tryz.sizeOf3
  v3 := Tryz.zeroValue3
  t4 := Tryz.underlying4
  a4 := Tryz.isAgg4
  z4 := Tryz.sizeOf4
  v4 := Tryz.zeroValue4
  t5 := Tryz.underlying5
  a5 := Tryz.isAgg5
  z5 := Tryz.sizeOf5
  v5 := Tryz.zeroValue5
  t9 := Tryz.underlying9
  a9 := Tryz.isAgg9
  z9 := Tryz.sizeOf9
  v9 := Tryz.zeroValue9
  t22 := Tryz.underlying46
  a22 := Tryz.isAgg46
  z22 := Tryz.sizeOf46
  v22 := Tryz.zeroValue46
  t25 := Tryz.underlying189
  a25 := Tryz.isAgg189
  z25 := Tryz.sizeOf189
  v25 := Tryz.zeroValue189
  t39 := Tryz.underlying154
  a39 := Tryz.isAgg154
  z39 := Tryz.sizeOf154
  v39 := Tryz.zeroValue154
  t45 := Tryz.underlying337
  a45 := Tryz.isAgg337
  z45 := Tryz.sizeOf337
  v45 := Tryz.zeroValue337
  t46 := Tryz.underlying338
  a46 := Tryz.isAgg338
  z46 := Tryz.sizeOf338
  v46 := Tryz.zeroValue338
  t50 := Tryz.underlying42
  a50 := Tryz.isAgg42
  z50 := Tryz.sizeOf42
  v50 := Tryz.zeroValue42
  t53 := Tryz.underlying22
  a53 := Tryz.isAgg22
  z53 := Tryz.sizeOf22
  v53 := Tryz.zeroValue22
  t55 := Tryz.underlying102
  a55 := Tryz.isAgg102
  z55 := Tryz.sizeOf102
  v55 := Tryz.zeroValue102
  t66 := Tryz.underlying388
  a66 := Tryz.isAgg388
  z66 := Tryz.sizeOf388
  v66 := Tryz.zeroValue388
  t70 := Tryz.underlying391
  a70 := Tryz.isAgg391
  z70 := Tryz.sizeOf391
  v70 := Tryz.zeroValue391
  t76 := Tryz.underlying438
  a76 := Tryz.isAgg438
  z76 := Tryz.sizeOf438
  v76 := Tryz.zeroValue438
  t77 := Tryz.underlying439
  a77 := Tryz.isAgg439
  z77 := Tryz.sizeOf439
  v77 := Tryz.zeroValue439 }
end Go.Proofs
namespace Go.Pse
open Go.RowKit Go.Sort Go.Proofs Go.Shelf
variable {w : World}
theorem grown_of {W : World} (H : Sep W w [old W]) : ∃ q os, w = grow (W.drewN q) os := by
  obtain ⟨S, h1, _, h3⟩ := H.has .here
  refine ⟨w.drawn - W.drawn, w.heap.extract W.heap.size w.heap.size, ?_⟩
  have hh : w.heap = W.heap ++ w.heap.extract W.heap.size w.heap.size := by
    apply Array.ext_getElem?
    intro i
    by_cases hi : i < W.heap.size
    · rw [Array.getElem?_append_left hi, h3 i hi]
    · rw [Array.getElem?_append_right (by omega), Array.getElem?_extract]
      by_cases hw : i < w.heap.size
      · rw [if_pos (by omega)]; congr 1; omega
      · rw [if_neg (by omega), Array.getElem?_eq_none (by omega)]
  have hd := H.output.2
  obtain ⟨ho⟩ := H.output
  have h1 := H.os
  have h2 := H.tape
  cases w with
  | mk heap tape drawn os output =>
    simp only [grow, World.drewN]
    simp only at hh hd ho h1 h2
    rw [← hh, h1, h2, ho]
    congr 1
    omega
section
variable {α : Type} [Inhabited α] {enc : α → List Value} {k : Nat}
omit [Inhabited α] in
theorem wf_map (hk : ∀ x, (enc x).length = k) (h1 : ∀ x, ∀ v ∈ enc x, v.oneCell' = true) (xs : List α) : Wf k (xs.map enc) := fun x hx => by obtain ⟨a, _, rfl⟩ := List.mem_map.1 hx; exact ⟨hk a, by unfold ones; exact List.all_eq_true.2 (h1 a)⟩
theorem flat_at (hk : ∀ x, (enc x).length = k) (h1 : ∀ x, ∀ v ∈ enc x, v.oneCell' = true) {xs : List α} {t : Nat} (ht : t < xs.length * k) : (xs.map enc).flatten[t]? = some ((flatK enc k xs.toArray)[t]!) := by
  obtain ⟨x, g1, g2, g3⟩ := mem_flat (wf_map hk h1 xs) (t := t) (by simpa using ht)
  rw [List.getElem?_map] at g1
  obtain ⟨a, ga, rfl⟩ := Option.map_eq_some_iff.1 g1
  rw [g3, get_flatK _ _ _ _ (by simpa using ht)]
  have : xs.toArray[t / k]! = a := by simp [ga]
  rw [this, List.getElem?_eq_getElem (by rw [hk]; exact g2), List.getElem!_eq_getElem?_getD, List.getElem?_eq_getElem (by rw [hk]; exact g2)]
  rfl
variable {E w : World} {el : TypeId} {b o cap : Nat} {l : List As}
theorem struct_holds (hk : ∀ x, (enc x).length = k) (h1 : ∀ x, ∀ v ∈ enc x, v.oneCell' = true) {xs : List α} (H : Sep E w (row el k (.slice (some ⟨b, o, none⟩) (xs.map enc).length cap) (xs.map enc) :: l)) : HoldsK enc k w b o xs.toArray := fun j hj => by
  have hj' : j < xs.length * k := by simpa using hj
  exact (row_cell H).2 j _ (flat_at hk h1 hj')
variable {n : Nat}
theorem struct_laid (hk : ∀ x, (enc x).length = k) (h1 : ∀ x, ∀ v ∈ enc x, v.oneCell' = true) {xs ys : List α} {w' : World} {os : Array Obj} (H : Sep E w (row el k (.slice (some ⟨b, o, none⟩) (xs.map enc).length cap) (xs.map enc) :: l)) (hlen : ys.length = xs.length)
    (hw' : w' = sortWorldK enc k w b o n ys.toArray os) : Sep E w' (row el k (.slice (some ⟨b, o, none⟩) (xs.map enc).length cap) (ys.map enc) :: l) := by
  refine row_laid (n := n) (os := os) (f := putCells id o (flatK enc k ys.toArray)) H (by simp [hlen]) (wf_map hk h1 ys) (fun C hC => ⟨by simp [putCells], fun i => ?_⟩) hw'
  simp only [List.length_map] at hC ⊢
  unfold putCells
  rw [Array.getElem?_mapIdx]
  simp only [size_flatK, List.size_toArray, hlen]
  by_cases hi : o ≤ i ∧ i < o + xs.length * k
  · rw [if_pos hi]
    have hiC : i < C.size := by omega
    rw [Array.getElem?_eq_getElem hiC, Option.map_some, if_pos hi, flat_at hk h1 (by rw [hlen]; omega)]
    rfl
  · rw [if_neg hi]
    cases C[i]? with
    | none => rfl
    | some u => simp only [Option.map_some, if_neg hi]
end
def insF {α : Type} (cf : α → α → Int) (x : α) : List α → List α
  | [] => [x]
  | y :: ys => if (ltOf cf) y x = true then y :: insF cf x ys else x :: y :: ys
def sortF {α : Type} (cf : α → α → Int) : List α → List α
  | [] => []
  | x :: xs => insF cf x (sortF cf xs)
section
variable {α : Type} {cf : α → α → Int}
theorem insF_perm (x : α) : ∀ ys : List α, (insF cf x ys).Perm (x :: ys)
  | [] => List.Perm.refl _
  | y :: ys => by
    unfold insF
    split
    · exact ((insF_perm x ys).cons y).trans (List.Perm.swap x y ys)
    · exact List.Perm.refl _
theorem sortF_isPerm : ∀ xs : List α, (sortF cf xs).Perm xs
  | [] => List.Perm.refl _
  | x :: xs => (insF_perm x (sortF cf xs)).trans ((sortF_isPerm xs).cons x)
theorem sortF_len (xs : List α) : (sortF cf xs).length = xs.length := (sortF_isPerm xs).length_eq
theorem sortF_mem {xs : List α} {a : α} : a ∈ sortF cf xs ↔ a ∈ xs := (sortF_isPerm xs).mem_iff
variable (hO : SWO (ltOf cf)) (hT : ∀ x y, (ltOf cf) x y = false → (ltOf cf) y x = false → x = y)
include hO in
theorem insF_sorted (x : α) : ∀ {ys : List α}, (ys.Pairwise fun a b => (ltOf cf) b a = false) → (insF cf x ys).Pairwise fun a b => (ltOf cf) b a = false
  | [], _ => List.pairwise_singleton _ _
  | y :: ys, h => by
    have h1 := List.pairwise_cons.1 h
    unfold insF
    split
    · rename_i hyx
      refine List.pairwise_cons.2 ⟨fun z hz => ?_, insF_sorted x h1.2⟩
      rcases List.mem_cons.1 ((insF_perm x ys).mem_iff.1 hz) with rfl | hz
      · cases h2 : (ltOf cf) z y with
        | false => rfl
        | true =>
          have := hO.trans z y z h2 hyx
          rw [hO.irrefl] at this
          cases this
      · exact h1.1 z hz
    · rename_i hyx
      have hyx' : (ltOf cf) y x = false := by simpa using hyx
      refine List.pairwise_cons.2 ⟨fun z hz => ?_, h⟩
      rcases List.mem_cons.1 hz with rfl | hz
      · exact hyx'
      · exact hO.ntrans z y x (h1.1 z hz) hyx'
include hO in
theorem sortF_sorted : ∀ xs : List α, (sortF cf xs).Pairwise fun a b => (ltOf cf) b a = false
  | [] => List.Pairwise.nil
  | x :: xs => insF_sorted hO x (sortF_sorted xs)
include hO hT in
theorem sortF_merge (xs : List α) : (xs.mergeSort fun x y => !(ltOf cf) y x) = sortF cf xs := by
  have tr : ∀ a b c : α, (!(ltOf cf) b a) = true → (!(ltOf cf) c b) = true → (!(ltOf cf) c a) = true := fun a b c h1 h2 => by
    simp only [Bool.not_eq_true'] at *
    exact hO.ntrans c b a h2 h1
  have to : ∀ a b : α, ((!(ltOf cf) b a) || (!(ltOf cf) a b)) = true := fun a b => by
    cases h1 : (ltOf cf) b a <;> cases h2 : (ltOf cf) a b <;> try rfl
    have := hO.trans a b a h2 h1
    rw [hO.irrefl] at this
    cases this
  exact List.Perm.eq_of_pairwise (le := fun a b => (ltOf cf) b a = false) (fun a b _ _ h1 h2 => hT a b h2 h1) ((List.pairwise_mergeSort tr to xs).imp fun h => by simpa using h) (sortF_sorted hO xs) ((List.mergeSort_perm xs _).trans (sortF_isPerm xs).symm)
include hO hT in
theorem sortF_perm {xs ys : List α} (h : xs.Perm ys) : sortF cf xs = sortF cf ys :=
  List.Perm.eq_of_pairwise (le := fun a b => (ltOf cf) b a = false) (fun a b _ _ h1 h2 => hT a b h2 h1) (sortF_sorted hO xs) (sortF_sorted hO ys) (((sortF_isPerm xs).trans h).trans (sortF_isPerm ys).symm)
end
variable {P : Program} {k : Nat} {g : FuncId} {E : World} {l m : List As} {v : Value}
theorem con_sortF {α : Type} [Inhabited α] {ρ : Ren} {el : TypeId} {enc : α → List Value} {cf : α → α → Int} {xs : List α}
    (L : SlLaysF0.n6 P ρ) (aE : ∀ w, (isAgg (ρ.t 24)).run P w = .ok true w) (zE : ∀ w, (Go.sizeOf (ρ.t 24)).run P w = .ok k w)
    (hk : ∀ x, (enc x).length = k) (h1 : ∀ x, ∀ v ∈ enc x, v.oneCell' = true) (hO : SWO (ltOf cf)) (hT : ∀ x y, (ltOf cf) x y = false → (ltOf cf) y x = false → x = y)
    (eg : ∀ args w, (callFunc g args).run P w = .ok (.enter g args) w)
    (hc : ∀ (x y : α) (W : World), Con P g #[.agg (enc x).toArray, .agg (enc y).toArray] W [old W] (fun _ : Unit => .int .i64 (cf x y)) (fun _ => [old W]))
    (hb : xs.length ≤ 1000000) (hp : Pick (row el k v (xs.map enc)) l m) :
    Con P (ρ.f 6) #[v, .func (.func g) #[] #[]] E l (fun _ : Unit => .tuple #[]) (fun _ => row el k v ((sortF cf xs).map enc) :: m) := fun w H => by
  have H' := H.pick hp
  obtain ⟨S, hwf, hS⟩ := H'.head
  rcases hS with ⟨rfl, hx, _⟩ | ⟨b, o, cap, C, rfl, h2, _⟩
  · have hx' : xs = [] := by simpa using hx
    subst hx'
    exact (AnyF.slices_SortFunc_none L none 0 _ w).mono fun e w' ⟨he, hw⟩ => ⟨(), he, by subst hw; rw [show sortF cf [] = [] by simp [sortF]]; exact H'⟩
  · have hcmp : CmpLays P g #[] enc k cf b o xs.toArray.size w := fun m' os dk _ x y => by
      rw [Array.append_empty]
      exact (hc x y _ _ (Sep.old_in _)).mono fun e w' ⟨_, he, hs⟩ => ⟨he, grown_of hs⟩
    have hh := AnyQ.slices_SortFunc_total L k aE zE enc hk h1 cf hO g #[] b o cap xs.toArray w eg hcmp (struct_holds hk h1 H') (row_cell H').1 (by simp; omega) hT
    simp only [List.size_toArray] at hh
    rw [← List.length_map enc] at hh
    exact hh.mono fun e w' ⟨he, n, os, hw⟩ => ⟨(), he, by rw [sortF_merge hO hT] at hw; have := struct_laid hk h1 H' (sortF_len (cf := cf) xs) hw; rw [List.length_map] at this; simpa [sortF_len] using this⟩
theorem sortF_permOn {α : Type} {cf : α → α → Int} (hO : SWO (ltOf cf)) {xs ys : List α} (hT : ∀ x ∈ xs, ∀ y ∈ xs, (ltOf cf) x y = false → (ltOf cf) y x = false → x = y) (h : xs.Perm ys) : sortF cf xs = sortF cf ys :=
  List.Perm.eq_of_pairwise (le := fun a b => (ltOf cf) b a = false) (fun a b ha hb h1 h2 => hT a (sortF_mem.1 ha) b (h.mem_iff.2 (sortF_mem.1 hb)) h2 h1) (sortF_sorted hO xs) (sortF_sorted hO ys) (((sortF_isPerm xs).trans h).trans (sortF_isPerm ys).symm)
theorem sorted_list {α : Type} [Inhabited α] {cf : α → α → Int} (hO : SWO (ltOf cf)) {xs : List α} (hT : ∀ x ∈ xs, ∀ y ∈ xs, (ltOf cf) x y = false → (ltOf cf) y x = false → x = y) {d' : Array α} (hp : PermIn 0 xs.toArray.size xs.toArray d') (hs : SortedIn (ltOf cf) 0 xs.toArray.size d') : d' = (sortF cf xs).toArray := by
  obtain ⟨h1, _, h3⟩ := hp
  have h1' : d'.size = xs.length := by simpa using h1
  have e1 : d'.extract 0 xs.length = d' := by rw [← h1']; simp
  have e2 : (xs.toArray.extract 0 xs.length).toList = xs := by simp
  have h3' : d'.toList.Perm xs := by
    rw [List.size_toArray, e1, e2] at h3; exact h3
  have : d'.toList = sortF cf xs := List.Perm.eq_of_pairwise (le := fun a b => (ltOf cf) b a = false)
    (fun a b ha hb g1 g2 => hT a (h3'.mem_iff.1 ha) b (sortF_mem.1 hb) g2 g1) (by
      rw [List.pairwise_iff_getElem]
      intro i j hi hj hij
      have hi' : i < d'.size := by simpa using hi
      have hj' : j < d'.size := by simpa using hj
      have := hs i j (Nat.zero_le _) hij (by simp; omega)
      rw [getElem!_pos d' j hj', getElem!_pos d' i hi'] at this
      simpa using this) (sortF_sorted hO xs) (h3'.trans (sortF_isPerm xs).symm)
  rw [← this]
theorem con_sortO {α : Type} [Inhabited α] {ρ : Ren} {el : TypeId} {enc : α → List Value} {cf : α → α → Int} {xs : List α}
    (L : SlLaysF0.n6 P ρ) (aE : ∀ w, (isAgg (ρ.t 24)).run P w = .ok true w) (zE : ∀ w, (Go.sizeOf (ρ.t 24)).run P w = .ok k w)
    (hk : ∀ x, (enc x).length = k) (h1 : ∀ x, ∀ v ∈ enc x, v.oneCell' = true) (hO : SWO (ltOf cf)) (hT : ∀ x ∈ xs, ∀ y ∈ xs, (ltOf cf) x y = false → (ltOf cf) y x = false → x = y)
    (eg : ∀ args w, (callFunc g args).run P w = .ok (.enter g args) w)
    (hc : ∀ (x y : α) (W : World), Con P g #[.agg (enc x).toArray, .agg (enc y).toArray] W [old W] (fun _ : Unit => .int .i64 (cf x y)) (fun _ => [old W]))
    (hb : xs.length ≤ 1000000) (hp : Pick (row el k v (xs.map enc)) l m) :
    Con P (ρ.f 6) #[v, .func (.func g) #[] #[]] E l (fun _ : Unit => .tuple #[]) (fun _ => row el k v ((sortF cf xs).map enc) :: m) := fun w H => by
  have H' := H.pick hp
  obtain ⟨S, hwf, hS⟩ := H'.head
  rcases hS with ⟨rfl, hx, _⟩ | ⟨b, o, cap, C, rfl, h2, _⟩
  · have hx' : xs = [] := by simpa using hx
    subst hx'
    exact (AnyF.slices_SortFunc_none L none 0 _ w).mono fun e w' ⟨he, hw⟩ => ⟨(), he, by subst hw; rw [show sortF cf [] = [] by simp [sortF]]; exact H'⟩
  · have hcmp : CmpLays P g #[] enc k cf b o xs.toArray.size w := fun m' os dk _ x y => by
      rw [Array.append_empty]
      exact (hc x y _ _ (Sep.old_in _)).mono fun e w' ⟨_, he, hs⟩ => ⟨he, grown_of hs⟩
    have hh := AnyQ.slices_SortFunc L k aE zE enc hk h1 cf hO g #[] b o cap xs.toArray w eg hcmp (struct_holds hk h1 H') (row_cell H').1 (by simp; omega)
    have hh2 : Calls P (ρ.f 6) #[.slice (some ⟨b, o, none⟩) (xs.map enc).length cap, .func (.func g) #[] #[]] w fun e w' => e = .returned (.tuple #[]) ∧ ∃ n os, w' = sortWorldK enc k w b o n (sortF cf xs).toArray os := by
      rw [List.length_map, ← List.size_toArray]
      exact hh.mono fun _ _ ⟨he, d', n, os, hp, hs, hw⟩ => ⟨he, n, os, by rw [hw, sorted_list hO hT hp hs]⟩
    exact hh2.mono fun e w' ⟨he, n, os, hw⟩ => ⟨(), he, by have := struct_laid hk h1 H' (sortF_len (cf := cf) xs) hw; rw [List.length_map] at this; simpa [sortF_len] using this⟩
end Go.Pse
namespace Go.Pse
open Go.RowKit Go.Proofs
def cmpZ (x y : Int) : Int := if x < y then -1 else if y < x then 1 else 0
def orZ (x y : Int) : Int := if x = 0 then y else x
def cmpP (a b : Int × Int) : Int := orZ (cmpZ a.1 b.1) (cmpZ a.2 b.2)
variable {E : World} {l : List As} {x : Int}
theorem nanZ :
    Con Tryz.prog 125 #[.int .i64 x] E l (fun _ : Unit => .bool false) (fun _ => l) := by
  refine Con.body (n := 6) Tryz.func125 Z Z _ (env_ok 1 Z) <| sr <| ag Z Z <| nx <| mv Z Z <| mv Z Z <| L_pur Z (p_neq Z Z) <| J_bool (t := 5) (c := false) Z (by simp) <| ag Z Z <| nq <| J_ret ?_
  exact J_return (()) Tryz.results125 (.tmp Z .nil) Z SU
theorem cmpZC {y : Int} :
    Con Tryz.prog 76 #[.int .i64 x, .int .i64 y] E l (fun _ : Unit => .int .i64 (cmpZ x y)) (fun _ => l) := by
  refine Con.body (n := 20) Tryz.func76 Z Z _ (env_ok 2 Z) <| sr <| ag Z Z <| nx <| mv Z Z <| xo fc125 (A1 Z) Z (nanZ) fun _ => ag Z Z <| nx <| mv Z Z <| xo fc125 (A1 Z) Z (nanZ) fun _ => ag Z Z <| nxx <| mv Z Z <| nq <| J_bool (t := 11) (c := false) Z (rfl) <| C_false Z <| J_skip <| Q_then <| J_seq <| sr <| mv Z Z <| nq <| J_bool (t := 13) (c := false) Z (rfl) <| C_false Z <| J_skip <| Q_then <| J_seq <| sr <| mv Z Z <| mv Z Z <| L_pur Z (p_lss Z Z) <| nq <| C_dec Z (fun h16 => ?_) (fun h16 => ?_)
  refine sr <| ag Z Z <| nq <| J_ret <| Q_then_ret <| J_return (()) Tryz.results76 (.tmp Z .nil) ?_ ?_
  · simp only [one, cmpZ]; congr 1; (repeat' split) <;> omega
  · exact SU
  refine J_skip <| Q_then <| J_seq <| sr <| mv Z Z <| mv Z Z <| L_pur Z (p_gtr Z Z) <| nq <| C_dec Z (fun h19 => ?_) (fun h19 => ?_)
  refine sr <| ag Z Z <| nq <| J_ret <| Q_then_ret <| J_return (()) Tryz.results76 (.tmp Z .nil) ?_ ?_
  · simp only [one, cmpZ]; congr 1; (repeat' split) <;> omega
  · exact SU
  refine J_skip <| qx <| ag Z Z <| nq <| J_ret <| J_return (()) Tryz.results76 (.tmp Z .nil) ?_ ?_
  · simp only [one, cmpZ]; congr 1; (repeat' split) <;> omega
  · exact SU
variable {m : List As} {v : Value}
theorem orZC {y : Int} (hp : Pick (row 3 1 v [[.int .i64 x], [.int .i64 y]]) l m) :
    Con Tryz.prog 83 #[v] E l (fun _ : Unit => .int .i64 (orZ x y)) (fun _ => m) := by
  refine Con.body (n := 18) Tryz.func83 Z Z _ (env_ok 1 Z) <| J_pick hp <| J_row .here fun hw a cap hv h1 h2 h3 => ?_
  subst hv
  obtain ⟨b, o, rfl⟩ := h3 (by simp)
  have hm : cap ≤ 9223372036854775807 := h2
  refine sr <| ag Z Z <| nx <| ag Z Z <| nxx <| mv Z Z <| L_pur Z (p_len Z Tryz.underlying55) <| J_slot (t := 7) (v := .int .i64 2) Z Z <| mv Z Z <| nq <| J_block <| J_loop (α := Nat) (fun i => i ≤ 2 ∧ (0 < i → x = 0) ∧ (1 < i → y = 0)) (fun _ => row 3 1 (.slice (some ⟨b, o, none⟩) [[Value.int .i64 x], [Value.int .i64 y]].length cap) [[.int .i64 x], [.int .i64 y]] :: m) (fun i => [(8, .int .i64 (i : Int)), (6, .slice (some ⟨b, o, none⟩) [[Value.int .i64 x], [Value.int .i64 y]].length cap), (7, .int .i64 2), (3, .int .i64 0)]) (fun i => 2 - i) 0 (by omega) SU KE ?_
  intro i hi
  obtain ⟨hi, hx, hy⟩ := hi
  refine sr <| L_pur Z (p_lss Z Z) <| nq <| J_seq <| C_dec Z (fun h9 => ?_) (fun h9 => ?_)
  have hml : [[Value.int .i64 x], [Value.int .i64 y]].length = 2 := rfl
  obtain ⟨c, hcc, hco⟩ : ∃ c : Int, [[Value.int .i64 x], [Value.int .i64 y]][i]? = some [.int .i64 c] ∧ ((i = 0 ∧ c = x) ∨ (i = 1 ∧ c = y)) := by
    have : i = 0 ∨ i = 1 := by omega
    rcases this with rfl | rfl
    · exact ⟨x, rfl, .inl ⟨rfl, rfl⟩⟩
    · exact ⟨y, rfl, .inr ⟨rfl, rfl⟩⟩
  refine J_skip <| Q_then <| J_seq <| J_block <| sr <| L_pur Z (p_indexAddr Z Z Tryz.underlying55 ty3 (by omega) (by omega)) <| L_val Z (v_loadE1 Z ty3 HS (by simpa using hcc)) <| ag Z Z <| nx <| mv Z Z <| mv Z Z <| L_pur Z (p_neq Z Z) <| nq <| C_dec Z (fun h14 => ?_) (fun h14 => ?_)
  refine sr <| mv Z Z <| ag Z Z <| nq <| J_ret <| Q_blk_ret <| Q_then_ret <| Q_then_ret <| Q_blk_ret <| Q_then_ret <| J_return (()) Tryz.results83 (.tmp Z .nil) ?_ ?_
  · have hor : orZ x y = c := by
      unfold orZ
      rcases hco with ⟨h0, rfl⟩ | ⟨h0, rfl⟩
      · exact if_neg h14
      · exact if_pos (hx (by omega))
    rw [hor]; rfl
  · exact SU
  have hc0 : c = 0 := by omega
  refine J_skip <| Q_blk_normal <| qr <| L_pur Z (p_add64 Z Z (by omega)) <| mv Z Z <| nq ?_
  exact J_again (i + 1) (by omega) (by refine ⟨by omega, fun h => ?_, fun h => ?_⟩ <;> rcases hco with ⟨h0, rfl⟩ | ⟨h0, rfl⟩ <;> first | exact hc0 | exact hx (by omega) | omega) SU KE
  have hi2 : i = 2 := by omega
  obtain ⟨hx, hy⟩ : x = 0 ∧ y = 0 := ⟨hx (by omega), hy (by omega)⟩
  subst hx hy
  refine J_exit <| Q_then_exit <| Q_then_exit <| Q_blk_this <| qx <| mv Z Z <| ag Z Z <| nq <| J_ret <| J_return (()) Tryz.results83 (.tmp Z .nil) ?_ ?_
  · simp [one, orZ]
  · exact SU
theorem cmpSl {a b : Int × Int} :
    Con Tryz.prog 79 #[.agg (encI a).toArray, .agg (encI b).toArray] E l (fun _ : Unit => .int .i64 (cmpP a b)) (fun _ => l) := by
  refine Con.body (n := 17) Tryz.func79 Z Z _ (env_ok 2 Z) <| sr <| L_op <| x_box Z Z Z fun b2 => L_op <| x_box Z Z Z fun b3 => ag Z Z <| nq <| J_seq <| J_drawL none mixed <| ip 0 Z Z Z Z (p_fieldAddr Z fa108_0) <| iv 1 Z Z Z Z (fun _ => v_load Z ty3 HS (by exact rfl)) <| ip 2 Z Z Z Z (p_fieldAddr Z fa108_0) <| iv 3 Z Z Z Z (fun _ => v_load Z ty3 HS (by exact rfl)) <| ip 5 Z Z Z Z (p_fieldAddr Z fa108_1) <| iv 6 Z Z Z Z (fun _ => v_load Z ty3 HS (by exact rfl)) <| ip 7 Z Z Z Z (p_fieldAddr Z fa108_1) <| iv 8 Z Z Z Z (fun _ => v_load Z ty3 HS (by exact rfl)) ?_
  refine i1 4 Z <| xc fc76 (A2 Z Z) Z (cmpZC (x := a.1) (y := b.1)) fun _ => i1 9 Z <| xc fc76 (A2 Z Z) Z (cmpZC (x := a.2) (y := b.2)) fun _ => i1 10 Z <| x_lit (vals := [_, _]) Tryz.underlying55 ty3 Z (.cons Z (.cons Z .nil)) (.one Z (.one Z .nil)) (Wf.cons Z Z (Wf.cons Z Z Wf.nil)) Z (by decide) Z Z <| JR fun a15 c15 hw15 hl15 hm15 hz15 => i1 11 Z <| xc fc83 (A1 Z) Z (orZC (x := cmpZ a.1 b.1) (y := cmpZ a.2 b.2) PC) fun _ => ip 12 Z Z Z Z (p_assign Z) <| i0 <| Q_then <| J_ret <| J_return (()) Tryz.results79 (.tmp Z .nil) ?_ ?_
  · rfl
  · exact SU
theorem cmpP_lt (a b : Int × Int) : Go.Proofs.ltOf cmpP a b = (decide (a.1 < b.1) || (decide (a.1 = b.1) && decide (a.2 < b.2))) := by
  have : (cmpP a b < 0) ↔ (a.1 < b.1 ∨ (a.1 = b.1 ∧ a.2 < b.2)) := by
    unfold cmpP orZ cmpZ
    (repeat' split) <;> omega
  unfold Go.Proofs.ltOf
  rw [Bool.eq_iff_iff]
  simp [this]
theorem cmpP_swo : Go.Sort.SWO (Go.Proofs.ltOf cmpP) where
  irrefl x := by rw [cmpP_lt]; simp
  trans x y z h1 h2 := by rw [cmpP_lt] at *; simp at *; omega
  ntrans x y z h1 h2 := by rw [cmpP_lt] at *; simp at *; omega
theorem cmpP_total (x y : Int × Int) (h1 : Go.Proofs.ltOf cmpP x y = false) (h2 : Go.Proofs.ltOf cmpP y x = false) : x = y := by
  rw [cmpP_lt] at h1 h2
  simp at h1 h2
  exact Prod.ext (by omega) (by omega)
def sortP (xs : List (Int × Int)) : List (Int × Int) := sortF cmpP xs
theorem sortP_perm {xs ys : List (Int × Int)} (h : xs.Perm ys) : sortP xs = sortP ys := sortF_perm cmpP_swo cmpP_total h
theorem sortP_len (xs : List (Int × Int)) : (sortP xs).length = xs.length := sortF_len xs
end Go.Pse
namespace Go.Pse
open Go.RowKit Go.Proofs
variable {E : World} {v : Value}
theorem keys128 {bm : Nat} {ps : List ((Int × Int) × SV)} :
  Gives Tryz.prog 128 #[.pointer (some ⟨bm, 0, none⟩)] kI (fun ss => ss.Perm (ps.map Prod.fst)) ps.length E (blk bm 124 [v]) (mapV kI evS v ps) := by
 intro lp L hy
 show Con Tryz.prog 128 #[.func (.yield lp) #[] #[], .pointer (some ⟨bm, 0, none⟩)] E (blk bm 124 [v] :: mapV kI evS v ps :: L []) _ _
 refine Con.body (n := 14) Tryz.func128 Z Z _ (env_ok 2 Z) <| sr <| L_val Z (v_load Z ty124 HS (by exact rfl)) <| L_op <| x_range (ek := kI) (ev := evS) Z Tryz.underlying124 PC Z fun r5 => nq <| J_block <| J_rangeKeyd (ek := kI) (ev := evS) (ps := ps) HS fun hK => J_loop (fun done => Come ps done) (fun done => rangeA kI evS v r5 ps done :: blk bm 124 [v] :: L done) (fun done => [(5, .pointer (some ⟨r5, 0, none⟩)), (0, .func (.yield lp) #[] #[]), (1, .pointer (some ⟨bm, 0, none⟩))]) (fun done => ps.length - done.length) [] Come.nil SU KE ?_
 intro done hC
 refine sr <| L_op (x_next (ek := kI) (ev := evS) Z PC Z (fun k6 u6 hm6 hn6 => ?_) (fun hd6 => ?_))
 refine L_pur Z (p_extract Z Z) <| nq <| J_seq <| C_true Z <| J_skip <| Q_then <| J_block <| sr <| L_val Z (v_entry (ek := kI) (ev := evS) Z HS (by simp) hm6) <| L_pur Z (p_extract Z Z) <| L_op <| x_alloc ty108 Z fun b3 => L_op <| x_store Z Z ty108 Z SM SM RO PT <| nq <| J_seq <| J_regionIn <| LI_op <| J_pur (p_move Z) Z Z Z <| LI_op <| J_val (v_loadA Z ty108 HS CT) Z Z Z <| LI_yield Z Z Z ((hy done k6 _ _ (hC.lt hK hm6 hn6)).drop) <| LI_op <| J_pur (p_not Z) Z Z Z <| LI_nil <| Q_then <| C_false Z <| J_skip <| Q_blk_normal <| Q_then ?_
 exact J_again ((done ++ [k6])) (by have := hC.lt hK hm6 hn6; simp; omega) (hC.step hm6 hn6) SU KE
 refine L_pur Z (p_extract Z Z) <| nq <| J_seq <| C_false Z <| J_exit <| Q_then_exit <| Q_then_exit <| Q_blk_this <| J_endnormal <| J_rangeEnd <| J_pure_in (p := done.Perm (ps.map Prod.fst)) (hC.perm hK hd6) ?_
 exact J_return (done) Tryz.results128 .nil Z SU
variable {l : List As}
theorem mapsKeys78 {ob : Option Nat} :
    Con Tryz.prog 78 #[.map ob] E l (fun b : Nat => .func (.func 128) #[] #[.pointer (some ⟨b, 0, none⟩)]) (fun b => blk b 124 [.map ob] :: l) := by
  refine Con.body (n := 4) Tryz.func78 Z Z _ (env_ok 1 Z) <| sr <| L_op <| x_box Z Z Z fun b1 => ag Z Z <| nx <| L_pur Z (p_makeFunc (.cons Z .nil)) <| ag Z Z <| nq <| J_ret ?_
  exact J_return (b1) Tryz.results78 (.tmp Z .nil) Z SU
variable {m : List As} {gf : FuncId} {fng : Func} {caps : Array Value} {N : Nat} {A B : As}
theorem slApp {S : List (Int × Int) → Prop} (hg : Tryz.prog.funcs[gf]? = some fng) (hgn : (fng.name == "runtime.NumGoroutine") = false) (hgb : fng.body.isNone = false) (hN : N ≤ 1000000) (hseq : Gives Tryz.prog gf caps kI S N E A B) (hp : Picks [A, B] l m) :
    Con Tryz.prog 189 #[.slice none 0 0, .func (.func gf) #[] caps] E l (fun x : Value × List (Int × Int) => x.1) (fun x => As.pure (S x.2) :: row 108 2 x.1 (x.2.map encI) :: A :: B :: m) := fun w H =>
  appendSeqS (sT := 57) (el := 108) (fT := 192) (cells := encI) Tryz.func189 (by kernel_rfl) (by kernel_rfl) (by kernel_rfl) hg hgn hgb Tryz.underlying57 ty108 ty57 rfl (by omega) rfl (fun _ => rfl) (fun _ => ⟨rfl, rfl⟩) (by omega) (by omega) hseq w (hp.sep H)
theorem slCol {S : List (Int × Int) → Prop} (hg : Tryz.prog.funcs[gf]? = some fng) (hgn : (fng.name == "runtime.NumGoroutine") = false) (hgb : fng.body.isNone = false) (hN : N ≤ 1000000) (hseq : Gives Tryz.prog gf caps kI S N E A B) (hp : Picks [A, B] l m) :
    Con Tryz.prog 126 #[.func (.func gf) #[] caps] E l (fun x : Value × List (Int × Int) => x.1) (fun x => As.pure (S x.2) :: row 108 2 x.1 (x.2.map encI) :: A :: B :: m) := by
  refine Con.body (n := 5) Tryz.func126 Z Z _ (env_ok 1 Z) <| sr <| ag Z Z <| nx <| mv Z Z <| xo fc189 (A2 Z Z) Z (slApp hg hgn hgb hN hseq hp) fun x4 => ag Z Z <| nq <| J_ret ?_
  exact J_return (x4) Tryz.results126 (.tmp Z .nil) Z SU
theorem slSort {xs : List (Int × Int)} (hp : Pick (row 108 2 v (xs.map encI)) l m) (hb : xs.length ≤ 1000000) : Con Tryz.prog 127 #[v, .func (.func 79) #[] #[]] E l (fun _ : Unit => .tuple #[]) (fun _ => row 108 2 v ((sortP xs).map encI) :: m) :=
  con_sortF Tryz.sortPl (fun w => ty108.isAgg w) (fun w => ty108.sizeOf w) (fun _ => rfl) (fun x v hv => by simp [encI] at hv; rcases hv with rfl | rfl <;> rfl) cmpP_swo cmpP_total (enters_of Tryz.func79 nm79 rfl) (fun x y W => cmpSl) hb hp
theorem slSd {ks : List (Int × Int)} (hg : Tryz.prog.funcs[gf]? = some fng) (hgn : (fng.name == "runtime.NumGoroutine") = false) (hgb : fng.body.isNone = false) (hN : ks.length ≤ 1000000) (hseq : Gives Tryz.prog gf caps kI (fun ss => ss.Perm ks) ks.length E A B) (hp : Picks [A, B] l m) :
    Con Tryz.prog 77 #[.func (.func gf) #[] caps, .func (.func 79) #[] #[]] E l (fun v : Value => v) (fun v => row 108 2 v ((sortP ks).map encI) :: A :: B :: m) := by
  refine Con.body (n := 12) Tryz.func77 Z Z _ (env_ok 2 Z) <| sr <| ag Z Z <| nx <| mv Z Z <| xo fc126 (A1 Z) Z (slCol hg hgn hgb hN hseq hp) fun x7 => J_pure fun hperm => ?_
  obtain ⟨v7, ss⟩ := x7
  dsimp only at hperm ⊢
  refine ag Z Z <| nx <| mv Z Z <| mv Z Z <| xo fc127 (A2 Z Z) Z (slSort (xs := ss) PC (by rw [hperm.length_eq]; exact hN)) fun _ => nx <| mv Z Z <| ag Z Z <| nq <| J_ret <| J_rowEq (ys := (sortP ks).map encI) (by rw [sortP_perm hperm]) ?_
  exact J_return (v7) Tryz.results77 (.tmp Z .nil) Z SU
end Go.Pse
namespace Go.Pse
open Go.RowKit Go.Proofs
variable {E : World} {l m : List As}
theorem slAllC {b o : Nat} {ps : List (Place × SV)} (hp : Pick (slA b o ps) l m) (hb : ps.length ≤ 1000000) :
    Con Tryz.prog 29 #[.pointer (some ⟨b, o, none⟩)] E l (fun v : Value => v) (fun v => row 108 2 v ((sortP (ps.map Prod.fst)).map encI) :: slA b o ps :: m) := by
  refine Con.body (n := 9) Tryz.func29 Z Z _ (env_ok 1 Z) <| J_pick hp <| J_slO fun ob _ => sr <| ag Z Z <| nx <| mv Z Z <| nc Z Z <| fa Z Z fa126_0 <| L_val Z (v_loadL Z ty124 HS Z (by exact rfl)) <| xo fc78 (A1 Z) Z (mapsKeys78) fun b7 => xo fc77 (A2 Z Z) Z (slSd (ks := ps.map Prod.fst) (A := blk b7 124 [.map ob]) (B := mapV kI evS (.map ob) ps) Tryz.func128 nm128 bd128 (by simpa using hb) (by simpa using keys128) PX) <| JR fun a8 c8 hw8 hl8 hm8 hz8 => ag Z Z <| nq <| J_ret <| J_slS (b := b) (o := o) (ps := ps) _ PX trivial ?_
  exact J_return (_) Tryz.results29 (.tmp Z .nil) Z SU
theorem slGetC  {b o : Nat} {ps : List (Place × SV)} (hp : Pick (slA b o ps) l m) {p : Place} :
    Con Tryz.prog 277 #[.pointer (some ⟨b, o, none⟩), .agg (encI p).toArray] E l (fun _ : Unit => .tuple #[.agg (encC ((look ps p).getD s0).1).toArray, .bool (look ps p).isSome]) (fun _ => slA b o ps :: m) := by
  refine Con.body (n := 20) Tryz.func277 Z Z _ (env_ok 2 Z) <| J_pick hp <| J_slO fun ob _ => sr <| L_op <| x_box Z Z Z fun b3 => L_op <| x_alloc ty110 Z fun b4 => ag Z Z <| nq <| J_seq <| J_drawL none mixed <| ip 0 Z Z Z Z (p_move Z) <| ip 1 Z Z Z Z (p_nilCheck Z) <| ip 2 Z Z Z Z (p_fieldAddr Z fa126_0) <| iv 3 Z Z Z Z (fun _ => v_loadL Z ty124 HS Z (by exact rfl)) <| iv 4 Z Z Z Z (fun _ => v_loadA Z ty108 HS CT) <| iv 5 Z Z Z Z (fun _ => v_lookOk (ek := kI) (ev := evS) (a := p) Z Z ky108 Tryz.underlying124 zv195 HS) <| J_slot (t := 14) (v := .tuple #[evS ((look ps p).getD s0), .bool (look ps p).isSome]) Z (by cases look ps p <;> rfl) <| ip 6 Z Z Z Z (p_move Z) <| ip 7 Z Z Z Z (p_extract Z Z) <| ip 8 Z Z Z Z (p_extract Z Z) <| i1 9 Z <| x_alloc ty195 Z fun b6 => i1 10 Z <| x_store Z Z ty195 Z SM SM RO PT ?_
  refine ip 11 Z Z Z Z (p_assign Z) <| i0 <| qx <| fa Z Z fa195_0 <| L_val Z (v_loadA Z ty110 HS CT) <| mv Z Z <| L_op <| x_store Z Z ty110 Z SM SM RO PT <| ag Z Z <| nq <| J_ret <| J_slS (b := b) (o := o) (ps := ps) _ PX trivial <| J_return (()) Tryz.results277 (.cellA Z ty110 HS CT (.tmp Z .nil)) ?_ ?_
  · rfl
  · exact SU
variable {s : KS} {u : Int}
theorem coBell {p : Nat} (hp : Pick (coA p s) l m) :
    Con Tryz.prog 177 #[.pointer (some ⟨p, 0, none⟩), .int .i64 u] E l (fun _ : Unit => .tuple #[.int .i64 ((look s.be u).getD (0, 0)).1, .int .u32 ((look s.be u).getD (0, 0)).2]) (fun _ => coA p s :: m) := by
  refine Con.body (n := 17) Tryz.func177 Z Z _ (env_ok 2 Z) <| J_pick hp <| J_coO fun bn be br bg bt bs bp bl bk _ => sr <| ag Z Z <| ag Z Z <| nx <| mv Z Z <| nc Z Z <| fa Z Z fa153_16 <| L_val Z (v_loadL (o := 13) (i := 7) Z ty151 HS Z (by exact rfl)) <| mv Z Z <| L_val Z (v_look (ek := kZ) (ev := evL) (a := u) Z Z ky3 Tryz.underlying151 zv304 HS) <| J_slot (t := 12) (v := evL ((look s.be u).getD (0, 0))) Z (by cases look s.be u <;> rfl) <| L_op <| x_alloc ty304 Z fun b6 => L_op <| x_store Z Z ty304 Z SM SM RO PT <| nq <| J_seq <| J_drawS mixed (by kernel_rfl) <| sp Z (p_fieldAddr Z fa304_0) <| S_val Z (v_load Z ty3 HS (by exact rfl)) <| sp Z (p_fieldAddr Z fa304_1) <| S_val Z (v_load Z ty22 HS (by exact rfl)) <| sp Z (p_assign Z) <| sp Z (p_assign Z) <| sq <| J_ret <| J_coS (p := p) (s := s) bn be br bg bt bs bp bl bk PX trivial ?_
  refine J_return (()) Tryz.results177 (.tmp Z (.tmp Z .nil)) ?_ ?_
  · rfl
  · exact SU
theorem coNotif {p : Nat} (hp : Pick (coA p s) l m) :
    Con Tryz.prog 170 #[.pointer (some ⟨p, 0, none⟩), .int .i64 u] E l (fun _ : Unit => ptrOf (look (ptrs s.nt) u)) (fun _ => coA p s :: m) := by
  refine Con.body (n := 11) Tryz.func170 Z Z _ (env_ok 2 Z) <| J_pick hp <| J_coO fun bn be br bg bt bs bp bl bk _ => sr <| ag Z Z <| nx <| mv Z Z <| nc Z Z <| fa Z Z fa153_9 <| L_val Z (v_loadL (o := 13) (i := 0) Z ty144 HS Z (by exact rfl)) <| mv Z Z <| L_val Z (v_look (ek := kZ) (ev := evA) (a := u) Z Z ky3 Tryz.underlying144 zv223 HS) <| J_slot (t := 10) (v := ptrOf (look (ptrs s.nt) u)) Z (by cases look (ptrs s.nt) u <;> rfl) <| ag Z Z <| nq <| J_ret <| J_coS (p := p) (s := s) bn be br bg bt bs bp bl bk PX trivial ?_
  exact J_return (()) Tryz.results170 (.tmp Z .nil) Z SU
theorem coEp {p : Nat} (hp : Pick (coA p s) l m) :
    Con Tryz.prog 60 #[.pointer (some ⟨p, 0, none⟩), .int .i64 u] E l (fun _ : Unit => ptrOf (look (ptrs s.ep) u)) (fun _ => coA p s :: m) := by
  refine Con.body (n := 11) Tryz.func60 Z Z _ (env_ok 2 Z) <| J_pick hp <| J_coO fun bn be br bg bt bs bp bl bk _ => sr <| ag Z Z <| nx <| mv Z Z <| nc Z Z <| fa Z Z fa153_10 <| L_val Z (v_loadL (o := 13) (i := 1) Z ty145 HS Z (by exact rfl)) <| mv Z Z <| L_val Z (v_look (ek := kZ) (ev := evA) (a := u) Z Z ky3 Tryz.underlying145 zv112 HS) <| J_slot (t := 10) (v := ptrOf (look (ptrs s.ep) u)) Z (by cases look (ptrs s.ep) u <;> rfl) <| ag Z Z <| nq <| J_ret <| J_coS (p := p) (s := s) bn be br bg bt bs bp bl bk PX trivial ?_
  exact J_return (()) Tryz.results60 (.tmp Z .nil) Z SU
theorem coReply {p : Nat} (hp : Pick (coA p s) l m) :
    Con Tryz.prog 172 #[.pointer (some ⟨p, 0, none⟩), .int .i64 u] E l (fun _ : Unit => ptrOf (look (ptrs s.rp) u)) (fun _ => coA p s :: m) := by
  refine Con.body (n := 11) Tryz.func172 Z Z _ (env_ok 2 Z) <| J_pick hp <| J_coO fun bn be br bg bt bs bp bl bk _ => sr <| ag Z Z <| nx <| mv Z Z <| nc Z Z <| fa Z Z fa153_11 <| L_val Z (v_loadL (o := 13) (i := 2) Z ty146 HS Z (by exact rfl)) <| mv Z Z <| L_val Z (v_look (ek := kZ) (ev := evA) (a := u) Z Z ky3 Tryz.underlying146 zv241 HS) <| J_slot (t := 10) (v := ptrOf (look (ptrs s.rp) u)) Z (by cases look (ptrs s.rp) u <;> rfl) <| ag Z Z <| nq <| J_ret <| J_coS (p := p) (s := s) bn be br bg bt bs bp bl bk PX trivial ?_
  exact J_return (()) Tryz.results172 (.tmp Z .nil) Z SU
def Owns (s : KS) (r : Int) (x : Option Th) : Prop := match x with
  | none => ∀ q ∈ s.th, q.2.ring ≠ r
  | some t => ∃ k, look s.th k = some t ∧ t.ring = r
theorem coOwner {p : Nat} (hp : Pick (coA p s) l m) {r : Int} :
    Con Tryz.prog 117 #[.pointer (some ⟨p, 0, none⟩), .int .i64 r] E l (fun x : Option Th => .tuple #[evT (x.getD t0), .bool x.isSome]) (fun x => As.pure (Owns s r x) :: coA p s :: m) := by
  refine Con.body (n := 23) Tryz.func117 Z Z _ (env_ok 2 Z) <| J_pick hp <| J_coO fun bn be br bg bt bs bp bl bk _ => sr <| L_op <| x_alloc ty213 Z fun b4 => ag Z Z <| nxx <| mv Z Z <| nc Z Z <| fa Z Z fa153_13 <| L_val Z (v_loadL (o := 13) (i := 4) Z ty148 HS Z (by exact rfl)) <| L_op <| x_range (ek := kZ) (ev := evT) Z Tryz.underlying148 PC Z fun r12 => nq <| J_block <| J_rangeKeyd (ek := kZ) (ev := evT) (ps := s.th) HS fun hK => ?_
  refine J_loop (fun done => Come s.th done ∧ ∀ q ∈ s.th, q.1 ∈ done → q.2.ring ≠ r) (fun done => rangeA kZ evT (.map (some bt)) r12 s.th done :: blk b4 213 [.int .i64 0, .int .i64 0, .int .i64 0, .int .i64 0, .int .i64 0, .int .i64 0, .int .i64 0, .int .i64 0] :: fld p 0 [.int .i64 s.ct, .int .i64 s.cu, .int .i64 s.cs, .int .i64 s.cc, .bool s.sh, .pointer (some ⟨s.mb, 0, none⟩)] :: memA s.mb s.mem :: slA p 6 s.sl :: mkA p 7 s.mr :: spA p 8 s.mp :: rqA p 9 s.q :: rtA p 10 s.rt :: tmrA p 11 s.tm :: jnlA p 12 s.jn :: fld p 13 [.map (some bn), .map (some be), .map (some br), .map (some bg), .map (some bt), .map (some bs), .map (some bp), .map (some bl), .map (some bk)] :: mapV kZ evA (.map (some bn)) (ptrs s.nt) :: each ntF s.nt :: mapV kZ evA (.map (some be)) (ptrs s.ep) :: each epF s.ep :: mapV kZ evA (.map (some br)) (ptrs s.rp) :: each rpF s.rp :: mapV kZ evA (.map (some bg)) (ptrs s.rg) :: each (rgF s.mb) s.rg :: mapV kZ evB (.map (some bs)) s.sp :: mapV kZ evZ (.map (some bp)) s.pr :: mapV kZ evL (.map (some bl)) s.be :: mapV kZ evZ (.map (some bk)) s.tk :: fld p 22 [.int .u64 s.now] :: m) (fun done => [(12, .pointer (some ⟨r12, 0, none⟩)), (0, .pointer (some ⟨p, 0, none⟩)), (1, .int .i64 r), (4, .pointer (some ⟨b4, 0, none⟩))]) (fun done => s.th.length - done.length) [] ⟨Come.nil, fun _ _ h => by cases h⟩ SU KE ?_
  intro done hC
  obtain ⟨hC, hN⟩ := hC
  refine sr <| L_op (x_next (ek := kZ) (ev := evT) Z PC Z (fun k13 u13 hm13 hn13 => ?_) (fun hd13 => ?_))
  refine L_pur Z (p_extract Z Z) <| nq <| J_seq <| C_true Z <| J_skip <| Q_then <| J_block <| sr <| L_val Z (v_entry (ek := kZ) (ev := evT) Z HS (by simp) hm13) <| L_pur Z (p_extract Z Z) <| L_op <| x_alloc ty213 Z fun b7 => L_op <| x_store Z Z ty213 Z SM SM RO PT <| nx <| fa Z Z fa213_2 <| L_val Z (v_load Z ty3 HS (by exact rfl)) <| mv Z Z <| L_pur Z (p_eql Z Z) <| nq <| C_dec Z (fun h20 => ?_) (fun h20 => ?_)
  refine sr <| L_val Z (v_loadA Z ty213 HS CT) <| L_op <| x_store Z Z ty213 Z SM SM RO PT <| ag Z Z <| nq <| J_ret <| Q_blk_ret <| Q_then_ret <| Q_blk_ret <| Q_then_ret <| J_pick (A := rangeA kZ evT _ _ _ _) PC <| J_rangeEnd <| J_coS (p := p) (s := s) bn be br bg bt bs bp bl bk PX trivial <| J_pure_in (p := Owns s r (some u13)) (⟨k13, look_mem hK hm13, h20⟩) <| J_return (some u13) Tryz.results117 (.cellA Z ty213 HS CT (.tmp Z .nil)) ?_ ?_
  · rfl
  · exact SU
  refine J_skip <| Q_blk_normal <| Q_then ?_
  exact J_again ((done ++ [k13])) (by have := hC.lt hK hm13 hn13; simp; omega) (⟨hC.step hm13 hn13, fun q hq hd => by
      rcases List.mem_append.1 hd with h | h
      · exact hN q hq h
      · obtain rfl := List.mem_singleton.1 h
        have h1 := look_mem hK hq
        rw [look_mem hK hm13] at h1
        cases h1
        exact h20⟩) SU KE
  refine L_pur Z (p_extract Z Z) <| nq <| J_seq <| C_false Z <| J_exit <| Q_then_exit <| Q_then_exit <| Q_blk_this <| qx <| L_pur Z (bld213 .nil (by repeat constructor)) <| L_op <| x_store Z Z ty213 Z SM SM RO PT <| ag Z Z <| nq <| J_ret <| J_pick (A := rangeA kZ evT _ _ _ _) PC <| J_rangeEnd <| J_coS (p := p) (s := s) bn be br bg bt bs bp bl bk PX trivial <| J_pure_in (p := Owns s r none) (fun q hq => hN q hq (hd13 q hq)) <| J_return (none) Tryz.results117 (.cellA Z ty213 HS CT (.tmp Z .nil)) ?_ ?_
  · rfl
  · exact SU
end Go.Pse
namespace Go.Pse
open Go.RowKit Go.Proofs
abbrev encZ (z : Int) : List Value := [.int .i64 z]
end Go.Pse
namespace Go.Pse
open Go.RowKit Go.Proofs
theorem fr0 : Fr 0 [] ({ tmps := #[], defers := [] } : Act) := ⟨rfl, rfl, fun t v hv => by cases hv⟩
variable {P : Program} {f : FuncId} {args : Array Value} {E : World} {l : List As}
theorem J_con0 {α : Type} {rv : α → Value} {L : α → List As} (k : Jk E l 0 [] fun _ w => Calls P f args w fun e w' => ∃ x, e = .returned (rv x) ∧ Sep E w' (L x)) : Con P f args E l rv L := fun w H => k w _ H fr0
theorem J_con {α : Type} {Q : Program} {rv : α → Value} {L L' : α → List As} (hc : Con Q f args E l rv L) (k : ∀ x, Jk E (L x) 0 [] fun _ w' => Sep E w' (L' x)) : Jk E l 0 [] fun _ w => Calls Q f args w fun e w' => ∃ x, e = .returned (rv x) ∧ Sep E w' (L' x) :=
  fun w _ H _ => (hc w H).mono fun e w' ⟨x, he, H'⟩ => ⟨x, he, k x w' _ H' fr0⟩
theorem J_end {l' : List As} (h : Sub l l') : Jk E l 0 [] fun _ w => Sep E w l' := fun _ _ H _ => h.sep H
end Go.Pse
namespace Go.Pse
open Go.RowKit Go.Proofs
variable {E : World} {A B : As} {l m : List As} {n : Nat} {F : Env} {K : Act → World → Prop}
theorem J_picks2 (hp : Picks [A, B] l m) (k : Jk E (A :: B :: m) n F K) : Jk E l n F K := fun w a H hF => k w a (hp.sep H) hF
/-! ### maps.DeleteFunc at pages -/
section
variable {κ υ : Type} [DecidableEq κ] {q : κ → υ → Bool} {ps : List (κ × υ)} {done : List κ} {a : κ} {u : υ}
def cur (q : κ → υ → Bool) (ps : List (κ × υ)) (done : List κ) : List (κ × υ) := ps.filter fun e => !(decide (e.1 ∈ done) && q e.1 e.2)
end
end Go.Pse
namespace Go.Pse
open Go.RowKit Go.Proofs
def rem {α : Type} (xs : List (Int × α)) (u : Int) : List (Int × α) := xs.filter fun x => !decide (x.1 = u)
def kGone (s : KS) (k u : Int) : KS :=
  if k = 4 then { s with ep := rem s.ep u } else if k = 5 then { s with nt := rem s.nt u } else if k = 7 then { s with rp := rem s.rp u } else if k = 3 then { s with mp := s.mp.filter fun e => !decide (e.2.1 = u) } else if k = 8 then { s with mp := s.mp.filter fun e => !decide (e.1.1 = u), sp := del s.sp u } else if k = 6 then { s with q := qRem s.q u, th := del s.th u } else if k = 9 then { s with rg := rem s.rg u } else s
end Go.Pse
