/-
  Own layer: ranges over maps: a map and an iterator over it as one assertion; the steps of the iterator; deletions on the way.
-/
import Derived.Test.YthjgdlhkdjgjpaaGreatMap
import Derived.Laws.IdiomRangeMap
namespace Go.Pse
open Go.RowKit

/-- 'next', the iterator in whatever block. -/
theorem run_nextR {P : Program} (w : World) (ty : TypeId) {b r since c0 : Nat} {seen : Array Nat} {es : Array MapEntry} {clock : Nat} (hb : w.heap[b]? = some (.map es clock)) (hr : w.heap[r]? = some (.mapIter (some b) since seen c0))
    (hold : ∀ x ∈ es.toList, x.born < since) (hsc : since ≤ c0) :
    ((∀ e ∈ es.toList, seen.contains e.born = true) ∧ (Instr.next (.pointer (some ⟨r, 0, none⟩)) false ty).run P w = .ok (.tuple #[.bool false]) w) ∨
    ∃ e ∈ es.toList, seen.contains e.born = false ∧ ∃ dn, w.drawn ≤ dn ∧ (Instr.next (.pointer (some ⟨r, 0, none⟩)) false ty).run P w = .ok (.tuple #[.bool true, e.key, e.val]) { w with drawn := dn, heap := w.heap.setIfInBounds r (.mapIter (some b) since (seen.push e.born) clock) } := by
  simp only [Instr.next, getObj, Sem.run_bind, Sem.run, hr, hb, Result.andThen, next_test_false seen es since c0 hold hsc, Bool.false_eq_true, if_false]
  have hL : ∀ x, x ∈ Array.filter (fun e => !seen.contains e.born) es ↔ x ∈ es.toList ∧ seen.contains x.born = false := fun x => by simp
  generalize Array.filter (fun e => !seen.contains e.born) es = L at hL ⊢
  have e1 : L.filter (fun x => decide (x.born < since)) = L := Array.filter_eq_self.2 (fun x hx => by simpa using hold x ((hL x).1 hx).1)
  have e2 : L.filter (fun x => decide (x.born ≥ since)) = #[] := by
    rw [Array.filter_eq_empty_iff]
    intro x hx
    have := hold x ((hL x).1 hx).1
    simp; omega
  simp only [e1, e2, Array.append_empty]
  by_cases h0 : L.size = 0
  · left
    have h1 : L = #[] := Array.eq_empty_of_size_eq_zero h0
    subst h1
    refine ⟨fun e he => ?_, by simp [choose, Sem.run, Question.forced]⟩
    cases hc : seen.contains e.born with
    | true => rfl
    | false => exact absurd ((hL e).2 ⟨he, hc⟩) (by simp)
  · right
    have hne : L.isEmpty = false := by simp [Array.isEmpty, h0]
    simp only [hne, Bool.false_eq_true, if_false, Array.empty_append, Array.size_map]
    obtain ⟨j, dn, hj, hdn, hrun⟩ : ∃ (j dn : Nat), j < L.size ∧ w.drawn ≤ dn ∧ (choose (Question.mapNext L.size)).run P w = .ok j { w with drawn := dn } := by
      by_cases hf : L.size ≤ 1
      · exact ⟨0, w.drawn, by omega, Nat.le_refl _, by simp [choose, Sem.run, Question.forced, hf]⟩
      · exact ⟨_, w.drawn + 1, Nat.mod_lt _ (by omega), Nat.le_succ _, by
          simp only [choose, Sem.run, Question.forced, decide_eq_true_eq, hf, if_false, Question.cut]
          rfl⟩
    have hm := (hL L[j]).1 (Array.getElem_mem hj)
    refine ⟨L[j], hm.1, hm.2, dn, hdn, ?_⟩
    have hset : ∀ (o' : Obj), (setObj r o').run P { w with drawn := dn } = .ok () { w with drawn := dn, heap := w.heap.setIfInBounds r o' } := fun o' => by
      simp [setObj, Sem.run, hr]
    simp only [hrun, Array.getElem?_map, Array.getElem?_eq_getElem hj, Option.map_some, Sem.run_bind, hset, Result.andThen]
    rfl

section
variable {κ υ : Type} [DecidableEq κ] {ek : κ → Value} {ev : υ → Value}
/-- The map that v leads to, and in block r an iterator over it that has handed out the keys 'done'. -/
def rangeA (ek : κ → Value) (ev : υ → Value) (v : Value) (r : Nat) (ps : List (κ × υ)) (done : List κ) : As where
  h w S := Keyd ps ∧ ((v = .map none ∧ ps = [] ∧ w.heap[r]? = some (.mapIter none 0 #[] 0) ∧ ∀ k, S k ↔ k.1 = r) ∨
    ∃ b es c since seen last, v = .map (some b) ∧ w.heap[b]? = some (.map es c) ∧ w.heap[r]? = some (.mapIter (some b) since seen last) ∧ es.toList.map (fun e => (e.key, e.val)) = ps.map (enP ek ev) ∧ (es.toList.map (·.born)).Nodup ∧ (∀ e ∈ es.toList, e.born < c) ∧
      (∀ e ∈ es.toList, e.born < since) ∧ since ≤ last ∧ since ≤ c ∧ (∀ (i : Nat) e p, es.toList[i]? = some e → ps[i]? = some p → (seen.contains e.born = true ↔ p.1 ∈ done)) ∧ (∀ a, done.getLast? = some a → last = c ∧ ∀ (i : Nat) e p, es.toList[i]? = some e → ps[i]? = some p → p.1 = a → seen.back? = some e.born) ∧ ∀ k, S k ↔ k.1 = b ∨ k.1 = r)
  loc := fun {w w' S} ⟨hk, h⟩ hs => ⟨hk, by
    rcases h with ⟨h1, h2, h3, h4⟩ | ⟨b, es, c, since, seen, last, h1, h2, h3, h4, h5, h6, h7, h8, h9, h10, h12, h11⟩
    · exact .inl ⟨h1, h2, (heap_of_lk fun i => hs (r, i) ((h4 (r, i)).2 rfl)).trans h3, h4⟩
    · exact .inr ⟨b, es, c, since, seen, last, h1, (heap_of_lk fun i => hs (b, i) ((h11 (b, i)).2 (.inl rfl))).trans h2, (heap_of_lk fun i => hs (r, i) ((h11 (r, i)).2 (.inr rfl))).trans h3, h4, h5, h6, h7, h8, h9, h10, h12, h11⟩⟩
  lt := fun {w S q} ⟨hk, h⟩ hb => by
    rcases h with ⟨h1, h2, h3, h4⟩ | ⟨b, es, c, since, seen, last, h1, h2, h3, h4, h5, h6, h7, h8, h9, h10, h12, h11⟩
    · rw [(h4 _).1 hb]; exact (Array.getElem?_eq_some_iff.1 h3).1
    · rcases (h11 _).1 hb with h | h
      · rw [h]; exact (Array.getElem?_eq_some_iff.1 h2).1
      · rw [h]; exact (Array.getElem?_eq_some_iff.1 h3).1

variable {P : Program} {ops : Array Oper} {Q : Exit → Act → World → Prop} {E : World} {l l' m : List As} {n : Nat} {F : Env} {K : Act → World → Prop}
variable {d : Nat} {T : TypeId} {p : String} {e : Array Edge} {g : Option (Nat × Bool)} {dst : Option Tmp} {t : TypeId} {x y z : Operand} {u v : Value}

omit [DecidableEq κ] in
theorem x_range {kt et : TypeId} {ps : List (κ × υ)} (hx : evl F x = some v) (ht : P.underlying t = some (.map kt et)) (hp : Pick (mapV ek ev v ps) l m) (hd : Nat.blt d n = true)
    (k : ∀ r, Jk E (rangeA ek ev v r ps [] :: m) n ((d, .pointer (some ⟨r, 0, none⟩)) :: F) K) : Jop P ops Q ⟨some d, .range t x, T, p, e, none⟩ E l n F K := fun w A H hF => by
  have hw : Region.wanted (⟨some d, .range t x, T, p, e, none⟩ : Oper) (yielded ops A.tmps) = true := rfl
  rw [if_pos hw]
  unfold Oper.wp
  have H' := H.pick hp
  obtain ⟨S, hk, h⟩ := H'.head
  rcases h with ⟨rfl, rfl, _⟩ | ⟨b, es, c, rfl, h2, h3, h4, h5, h6⟩
  · have hrun : (execOp A.eval ⟨some d, .range t x, T, p, e, none⟩).run P w = .ok (.value (.pointer (some ⟨w.heap.size, 0, none⟩))) (w.alloc (.mapIter none 0 #[] 0)) := by
      simp [execOp, hF.evl hx, run_range_nilMap w t kt et ht]
    rw [hrun]
    refine k _ _ _ (H'.rep .here alloc_same fun S' hS' => ⟨⟨fun q => q.1 = w.heap.size, ⟨hk, .inl ⟨rfl, rfl, heap_alloc_new w _, fun _ => Iff.rfl⟩⟩, fun b hb => .inr (by omega)⟩, fun b hb _ => lk_of_heap (alloc_old hb)⟩) (hF.put hd)
  · have hrun : (execOp A.eval ⟨some d, .range t x, T, p, e, none⟩).run P w = .ok (.value (.pointer (some ⟨w.heap.size, 0, none⟩))) (w.alloc (.mapIter (some b) c #[] c)) := by
      simp [execOp, hF.evl hx, run_range_map w t kt et b es c ht h2]
    rw [hrun]
    have hb := (Array.getElem?_eq_some_iff.1 h2).1
    refine k _ _ _ (H'.rep .here alloc_same fun S' hS' => ⟨⟨fun q => q.1 = b ∨ q.1 = w.heap.size, ⟨hk, .inr ⟨b, es, c, c, #[], c, rfl, (alloc_old hb).trans h2, heap_alloc_new w _, h3, h4, h5, h5, Nat.le_refl _, Nat.le_refl _, fun _ _ _ _ _ => by simp, fun _ h => (by cases h), fun _ => Iff.rfl⟩⟩, fun q hq => ?_⟩, fun b hb _ => lk_of_heap (alloc_old hb)⟩) (hF.put hd)
    obtain ⟨_, hS'⟩ := hS'
    rcases hS' with ⟨h, _⟩ | ⟨b', _, _, h, _, _, _, _, h8⟩
    · cases h
    · cases h
      rcases hq with hq | hq
      · exact .inl ((h8 _).2 hq)
      · exact .inr (by omega)

theorem x_next {ps : List (κ × υ)} {r : Nat} {done : List κ} (hx : evl F x = some (.pointer (some ⟨r, 0, none⟩))) (hp : Pick (rangeA ek ev v r ps done) l m) (hd : Nat.blt d n = true)
    (k1 : ∀ a u, (a, u) ∈ ps → a ∉ done → Jk E (rangeA ek ev v r ps (done ++ [a]) :: m) n ((d, .tuple #[.bool true, ek a, ev u]) :: F) K)
    (k0 : (∀ q ∈ ps, q.1 ∈ done) → Jk E (rangeA ek ev v r ps done :: m) n ((d, .tuple #[.bool false]) :: F) K) :
    Jop P ops Q ⟨some d, .next x false, T, p, e, none⟩ E l n F K := fun w A H hF => by
  have hw : Region.wanted (⟨some d, .next x false, T, p, e, none⟩ : Oper) (yielded ops A.tmps) = true := rfl
  rw [if_pos hw]
  unfold Oper.wp
  have H' := H.pick hp
  obtain ⟨S, hk, h⟩ := H'.head
  rcases h with ⟨rfl, rfl, h3, h4⟩ | ⟨b, es, c, since, seen, last, rfl, h2, h3, h4, h5, h6, h7, h8, h9, h10, h12, h11⟩
  · have hrun : (execOp A.eval ⟨some d, .next x false, T, p, e, none⟩).run P w = .ok (.value (.tuple #[.bool false])) w := by
      simp [execOp, hF.evl hx, Instr.next, getObj, Sem.run, h3]
    rw [hrun]
    exact k0 (fun q hq => by cases hq) _ _ H' (hF.put hd)
  · rcases run_nextR (P := P) w T h2 h3 h7 h8 with ⟨g1, g2⟩ | ⟨en, g1, g2, dn, g3, g4⟩
    · have hrun : (execOp A.eval ⟨some d, .next x false, T, p, e, none⟩).run P w = .ok (.value (.tuple #[.bool false])) w := by
        simp [execOp, hF.evl hx, g2]
      rw [hrun]
      refine k0 (fun q hq => ?_) _ _ H' (hF.put hd)
      obtain ⟨i, hi⟩ := List.getElem?_of_mem hq
      obtain ⟨en, e1, _⟩ := entry_at h4 hi
      exact (h10 i en q e1 hi).1 (g1 en (List.mem_of_getElem? e1))
    · obtain ⟨i, hi⟩ := List.getElem?_of_mem g1
      have hil : i < ps.length := by
        have := congrArg List.length h4
        simp at this
        have h0 := (List.getElem?_eq_some_iff.1 hi).1
        simp at h0
        omega
      obtain ⟨q, hq⟩ : ∃ q, ps[i]? = some q := ⟨_, List.getElem?_eq_getElem hil⟩
      obtain ⟨en', e1, e2, e3⟩ := entry_at h4 hq
      rw [hi] at e1
      cases e1
      have hrun : (execOp A.eval ⟨some d, .next x false, T, p, e, none⟩).run P w = .ok (.value (.tuple #[.bool true, ek q.1, ev q.2])) { w with drawn := dn, heap := w.heap.setIfInBounds r (.mapIter (some b) since (seen.push en.born) c) } := by
        simp [execOp, hF.evl hx, g4, e2, e3]
      rw [hrun]
      have hnd : q.1 ∉ done := fun hd => by have := (h10 i en q hi hq).2 hd; rw [g2] at this; cases this
      have hbr : b ≠ r := fun hh => by subst hh; rw [h2] at h3; cases h3
      refine k1 q.1 q.2 (List.mem_of_getElem? hq) hnd _ _ (H'.rep .here ⟨rfl, rfl, ⟨rfl, g3⟩, by simp⟩ fun S' hS' => ?_) (hF.put hd)
      obtain ⟨_, hS'⟩ := hS'
      have hSb : ∀ k, S' k ↔ k.1 = b ∨ k.1 = r := by
        rcases hS' with ⟨h, _⟩ | ⟨b', _, _, _, _, _, h, _, _, _, _, _, _, _, _, _, _, hx⟩
        · cases h
        · cases h; exact hx
      have out : ∀ q : Loc, q.1 ≠ r → lk { w with drawn := dn, heap := w.heap.setIfInBounds r (.mapIter (some b) since (seen.push en.born) c) } q = lk w q := fun q hq => lk_of_heap <| by
        show (w.heap.setIfInBounds r _)[q.1]? = _
        rw [Array.getElem?_setIfInBounds_ne (fun e => hq e.symm)]
      refine ⟨⟨S', ⟨hk, .inr ⟨b, es, c, since, seen.push en.born, c, rfl, ?_, ?_, h4, h5, h6, h7, h9, h9, fun j ej pj hj hpj => ?_, fun a ha => ⟨rfl, fun j ej pj hj hpj hpa => ?_⟩, hSb⟩⟩, fun _ h => .inl h⟩, fun k _ hk => out k fun h => hk ((hSb k).2 (.inr h))⟩
      · show (w.heap.setIfInBounds r _)[b]? = _
        rw [Array.getElem?_setIfInBounds_ne (fun e => hbr e.symm)]; exact h2
      · show (w.heap.setIfInBounds r _)[r]? = _
        rw [Array.getElem?_setIfInBounds_self_of_lt (Array.getElem?_eq_some_iff.1 h3).1]
      · rw [Array.contains_push, List.mem_append, Bool.or_eq_true, h10 j ej pj hj hpj, List.mem_singleton, beq_iff_eq]
        have : en.born = ej.born ↔ pj.1 = q.1 := by
          constructor
          · intro hh
            have : i = j := nodup_idx h5 (by rw [List.getElem?_map, hi]; rfl) (by rw [List.getElem?_map, hj, Option.map_some]; exact congrArg some hh.symm)
            subst this
            rw [hq] at hpj; cases hpj; rfl
          · intro hh
            have : i = j := nodup_idx hk (by rw [List.getElem?_map, hq]; rfl) (by rw [List.getElem?_map, hpj, Option.map_some, hh])
            subst this
            rw [hi] at hj; cases hj; rfl
        rw [eq_comm (a := ej.born), this]
      · rw [List.getLast?_append, List.getLast?_singleton] at ha
        simp at ha
        subst ha
        have : i = j := nodup_idx hk (by rw [List.getElem?_map, hq]; rfl) (by rw [List.getElem?_map, hpj, Option.map_some, hpa])
        subst this
        rw [hi] at hj; cases hj
        simp
omit [DecidableEq κ] in
/-- The entry that has come last. -/
theorem v_entry {ps : List (κ × υ)} {r : Nat} {done : List κ} {a : κ} {c : υ} (hx : evl F x = some (.pointer (some ⟨r, 0, none⟩))) (hh : Has (rangeA ek ev v r ps done) l) (hl : done.getLast? = some a) (hm : (a, c) ∈ ps) :
    Vl P ⟨dst, .entry x, T, p, e, g⟩ E l F n (.tuple #[ek a, ev c]) := fun w A H hF => by
  obtain ⟨S, hk, h⟩ := H.has hh
  rcases h with ⟨rfl, rfl, h3, h4⟩ | ⟨b, es, ck, since, seen, last, rfl, h2, h3, h4, h5, h6, h7, h8, h9, h10, h12, h11⟩
  · cases hm
  · obtain ⟨i, hi⟩ := List.getElem?_of_mem hm
    obtain ⟨en, e1, e2, e3⟩ := entry_at h4 hi
    obtain ⟨rfl, g2⟩ := h12 a hl
    have g3 := g2 i en _ e1 hi rfl
    have hf : es.find? (·.born == en.born) = some en := by rw [← Array.find?_toList]; exact find_born en es.toList h5 (List.mem_of_getElem? e1)
    simp [execOp, hF.evl hx, Instr.entry, getObj, Sem.run, h3, h2, g3, hf, e2, e3]
/-- A key taken out of the map on the way. -/
theorem x_deleteR {kt et kt' : TypeId} {ps : List (κ × υ)} {a : κ} {r : Nat} {done : List κ} (hx : evl F x = some v) (hy : evl F y = some (ek a)) (Ke : Ky P kt ek) (ht : P.underlying t = some (.map kt et))
    (hp : Pick (rangeA ek ev v r ps done) l m) (k : Jk E (rangeA ek ev v r (del ps a) done :: m) n F K) : Jop P ops Q ⟨none, .call { callee := .builtin .delete, args := #[x, y], argTypes := #[t, kt'] }, T, p, e, none⟩ E l n F K := fun w A H hF => by
  have hw : Region.wanted (⟨none, .call { callee := .builtin .delete, args := #[x, y], argTypes := #[t, kt'] }, T, p, e, none⟩ : Oper) (yielded ops A.tmps) = true := rfl
  rw [if_pos hw]
  unfold Oper.wp
  have H' := H.pick hp
  obtain ⟨S, hk, h⟩ := H'.head
  rcases h with ⟨rfl, rfl, _⟩ | ⟨b, es, ck, since, seen, last, rfl, h2, hr, h3, h4, h5, h7, h8, h9, h10, h12, h11⟩
  · have hrun : (execOp A.eval ⟨none, .call { callee := .builtin .delete, args := #[x, y], argTypes := #[t, kt'] }, T, p, e, none⟩).run P w = .ok (.value (.tuple #[])) w := by
      simp [execOp, resolve, invoke, builtin, hF.evl hx, hF.evl hy, Builtin.delete_, run_underlying ht, Ke.check]
    rw [hrun]
    exact k _ _ H' hF
  · have hg : (getObj b).run P w = .ok (.map es ck) w := by simp [getObj, Sem.run, h2]
    have hs : ∀ o, (setObj b o).run P w = .ok () { w with heap := w.heap.setIfInBounds b o } := fun o => by simp [setObj, Sem.run, h2]
    have hf := Ke.find a es.toList (ps.map Prod.fst) w (keys_of h3)
    have hbr : b ≠ r := fun hh => by subst hh; rw [h2] at hr; cases hr
    have upd : ∀ (es' : Array MapEntry), es'.toList.map (fun e => (e.key, e.val)) = (del ps a).map (enP ek ev) → (es'.toList.map (·.born)).Nodup → (∀ e ∈ es'.toList, e ∈ es.toList) →
        (∀ (j : Nat) en q, es'.toList[j]? = some en → (del ps a)[j]? = some q → ∃ j0, es.toList[j0]? = some en ∧ ps[j0]? = some q) →
        Sep E { w with heap := w.heap.setIfInBounds b (.map es' ck) } (rangeA ek ev (.map (some b)) r (del ps a) done :: m) := fun es' g1 g2 g3 g4 => by
      refine H'.rep .here put_same fun S' hS' => ?_
      obtain ⟨_, hS'⟩ := hS'
      have hSb : ∀ k, S' k ↔ k.1 = b ∨ k.1 = r := by
        rcases hS' with ⟨h, _⟩ | ⟨b', _, _, _, _, _, h, _, _, _, _, _, _, _, _, _, _, hx⟩
        · cases h
        · cases h; exact hx
      refine ⟨⟨S', ⟨hk.del a, .inr ⟨b, es', ck, since, seen, last, rfl, put_in h2, ?_, g1, g2, fun en hen => h5 en (g3 en hen), fun en hen => h7 en (g3 en hen), h8, h9, fun j en q hj hq => ?_, fun c hc => ?_, hSb⟩⟩, fun _ h => .inl h⟩, fun k _ hk => put_out fun h => hk ((hSb k).2 (.inl h))⟩
      · show (w.heap.setIfInBounds b _)[r]? = _
        rw [Array.getElem?_setIfInBounds_ne hbr]; exact hr
      · obtain ⟨j0, e0, e1⟩ := g4 j en q hj hq
        exact h10 j0 en q e0 e1
      · obtain ⟨f1, f2⟩ := h12 c hc
        refine ⟨f1, fun j en q hj hq hqc => ?_⟩
        obtain ⟨j0, e0, e1⟩ := g4 j en q hj hq
        exact f2 j0 en q e0 e1 hqc
    cases hxi : (ps.map Prod.fst).findIdx? (fun c => decide (c = a)) with
    | none =>
      rw [hxi] at hf
      have hrun : (execOp A.eval ⟨none, .call { callee := .builtin .delete, args := #[x, y], argTypes := #[t, kt'] }, T, p, e, none⟩).run P w = .ok (.value (.tuple #[])) { w with heap := w.heap.setIfInBounds b (.map es ck) } := by
        simp [execOp, resolve, invoke, builtin, hF.evl hx, hF.evl hy, Builtin.delete_, run_underlying ht, hg, Ke.check, hf, hs]
      rw [hrun]
      exact k _ _ (upd _ (by rw [del_no (look_idx hxi)]; exact h3) h4 (fun _ h => h) (fun j en q hj hq => ⟨j, hj, by rwa [del_no (look_idx hxi)] at hq⟩)) hF
    | some i =>
      rw [hxi] at hf
      obtain ⟨q, g1, g2, g3⟩ := look_at hxi
      obtain ⟨en, e1, e2, e3⟩ := entry_at h3 g1
      simp only [e1, Option.map_some] at hf
      have hrun : (execOp A.eval ⟨none, .call { callee := .builtin .delete, args := #[x, y], argTypes := #[t, kt'] }, T, p, e, none⟩).run P w = .ok (.value (.tuple #[])) { w with heap := w.heap.setIfInBounds b (.map (es.eraseIdxIfInBounds i) ck) } := by
        simp [execOp, resolve, invoke, builtin, hF.evl hx, hF.evl hy, Builtin.delete_, run_underlying ht, hg, Ke.check, hf, hs]
      rw [hrun]
      have hsub : (es.toList.eraseIdx i).Sublist es.toList := List.eraseIdx_sublist es.toList i
      refine k _ _ (upd _ ?_ ?_ ?_ ?_) hF
      · rw [del_at hk g1 g2, Array.toList_eraseIdxIfInBounds, List.eraseIdx_eq_take_drop_succ, List.eraseIdx_eq_take_drop_succ, List.map_append, List.map_append, List.map_take, List.map_drop, List.map_take, List.map_drop, h3]
      · rw [Array.toList_eraseIdxIfInBounds]
        exact List.Nodup.sublist (hsub.map _) h4
      · intro f hf'
        rw [Array.toList_eraseIdxIfInBounds] at hf'
        exact hsub.mem hf'
      · intro j en' q' hj hq
        rw [Array.toList_eraseIdxIfInBounds, List.getElem?_eraseIdx] at hj
        rw [del_at hk g1 g2, List.getElem?_eraseIdx] at hq
        by_cases hji : j < i
        · rw [if_pos hji] at hj hq; exact ⟨j, hj, hq⟩
        · rw [if_neg hji] at hj hq; exact ⟨j + 1, hj, hq⟩
omit [DecidableEq κ] in
/-- The loop is over: the map alone. -/
theorem J_rangeEnd {ps : List (κ × υ)} {r : Nat} {done : List κ} (k : Jk E (mapV ek ev v ps :: l) n F K) : Jk E (rangeA ek ev v r ps done :: l) n F K :=
  J_imp (fun w S ⟨hk, h⟩ => by
    rcases h with ⟨h1, h2, h3, h4⟩ | ⟨b, es, c, since, seen, last, h1, h2, h3, h4, h5, h6, h7, h8, h9, h10, h12, h11⟩
    · exact ⟨fun _ => False, ⟨hk, .inl ⟨h1, h2, fun _ h => h⟩⟩, fun _ h => h.elim⟩
    · exact ⟨fun q => q.1 = b, ⟨hk, .inr ⟨b, es, c, h1, h2, h4, h5, h6, fun _ => Iff.rfl⟩⟩, fun q hq => (h11 q).2 (.inl hq)⟩) k
omit [DecidableEq κ] in
theorem J_rangeKeyd {ps : List (κ × υ)} {r : Nat} {done : List κ} (hh : Has (rangeA ek ev v r ps done) l) (k : Keyd ps → Jk E l n F K) : Jk E l n F K :=
  J_know (fun _ H => let ⟨_, hk, _⟩ := H.has hh; hk) k
omit [DecidableEq κ] in
theorem J_mapKeyd {ps : List (κ × υ)} (hh : Has (mapV ek ev v ps) l) (k : Keyd ps → Jk E l n F K) : Jk E l n F K :=
  J_know (fun _ H => let ⟨_, hk, _⟩ := H.has hh; hk) k
end

/-! ### plain: keys that come one by one -/
section
variable {κ υ : Type} [DecidableEq κ]
def Come (ps : List (κ × υ)) (done : List κ) : Prop := done.Nodup ∧ ∀ a ∈ done, a ∈ ps.map Prod.fst
omit [DecidableEq κ] in
theorem Come.nil {ps : List (κ × υ)} : Come ps [] := ⟨List.nodup_nil, fun _ h => by cases h⟩
omit [DecidableEq κ] in
theorem Come.step {ps : List (κ × υ)} {done : List κ} {a : κ} {u : υ} (h : Come ps done) (hm : (a, u) ∈ ps) (hn : a ∉ done) : Come ps (done ++ [a]) := by
  refine ⟨?_, fun c hc => ?_⟩
  · rw [List.nodup_append]
    refine ⟨h.1, by simp, fun x hx y hy => ?_⟩
    simp at hy; subst hy; exact fun e => hn (e ▸ hx)
  · rcases List.mem_append.1 hc with hc | hc
    · exact h.2 c hc
    · simp at hc; subst hc; exact List.mem_map.2 ⟨_, hm, rfl⟩
omit [DecidableEq κ] in
theorem Come.perm {ps : List (κ × υ)} {done : List κ} (h : Come ps done) (hk : Keyd ps) (ha : ∀ q ∈ ps, q.1 ∈ done) : done.Perm (ps.map Prod.fst) :=
  (List.perm_ext_iff_of_nodup h.1 hk).2 fun a => ⟨h.2 a, fun hm => by obtain ⟨q, hq, rfl⟩ := List.mem_map.1 hm; exact ha q hq⟩
theorem Come.len {ps : List (κ × υ)} {done : List κ} (h : Come ps done) (hk : Keyd ps) : done.length ≤ ps.length := by
  have hp : done.Perm ((ps.map Prod.fst).filter fun a => decide (a ∈ done)) := (List.perm_ext_iff_of_nodup h.1 (List.Nodup.sublist List.filter_sublist hk)).2 fun a => by
    rw [List.mem_filter]
    exact ⟨fun ha => ⟨h.2 a ha, by simpa using ha⟩, fun ha => by simpa using ha.2⟩
  have := hp.length_eq
  have h2 := List.length_filter_le (fun a => decide (a ∈ done)) (ps.map Prod.fst)
  simp only [List.length_map] at h2
  omega
theorem Come.lt {ps : List (κ × υ)} {done : List κ} {a : κ} {u : υ} (h : Come ps done) (hk : Keyd ps) (hm : (a, u) ∈ ps) (hn : a ∉ done) : done.length < ps.length := by
  have := (h.step hm hn).len hk
  simp at this
  omega
theorem look_mem {ps : List (κ × υ)} (hk : Keyd ps) {a : κ} {u : υ} (hm : (a, u) ∈ ps) : look ps a = some u := by
  induction ps with
  | nil => cases hm
  | cons q ps ih =>
    rw [look_cons]
    obtain ⟨h1, h2⟩ := List.nodup_cons.1 hk
    rcases List.mem_cons.1 hm with rfl | hm
    · simp
    · have : ¬ q.1 = a := fun e => h1 (List.mem_map.2 ⟨_, hm, e.symm⟩)
      rw [if_neg this]; exact ih h2 hm
theorem mem_look {ps : List (κ × υ)} {a : κ} {u : υ} (h : look ps a = some u) : (a, u) ∈ ps := by
  induction ps with
  | nil => cases h
  | cons q ps ih =>
    rw [look_cons] at h
    split at h
    · rename_i e; cases h; subst e; simp
    · exact List.mem_cons_of_mem _ (ih h)
end
/-! ### pointers against nil -/
section
variable {P : Program} {n : Nat} {F : Env} {T : TypeId} {p : String} {e : Array Edge} {g : Option (Nat × Bool)} {dst : Option Tmp} {t et ty : TypeId} {x : Operand}
theorem ptr_guard {op : BinOp} {y : Operand} {a b : Option Addr} (w : World) : (eqGuard op t x y (.pointer a) (.pointer b)).run P w = .ok () w := by
  unfold eqGuard
  cases op <;> rfl
theorem run_eqPtr {a : Option Addr} (ht : P.underlying t = some (.pointer et)) (w : World) : (Op.equal t (.pointer a) (.pointer none)).run P w = .ok a.isNone w := by
  have h0 : ∀ D, (Op.equalIn (D + 1) t (.pointer a) (.pointer none)).run P w = .ok a.isNone w := fun D => by
    cases a <;> simp [Op.equalIn, run_underlying ht]
  exact h0 9999
theorem p_eqNilPtr {a : Option Addr} (ht : P.underlying t = some (.pointer et)) (hx : evl F x = some (.pointer a)) : Pur P ⟨dst, .binOp .eql t x (.const (.pointer none)) ty, T, p, e, g⟩ F n (.bool a.isNone) :=
  p_eqv hx rfl (fun w => ptr_guard w) (fun w => by simp only [binOp, Sem.run_bind, run_eqPtr ht]; rfl)
theorem p_neNilPtr {a : Option Addr} (ht : P.underlying t = some (.pointer et)) (hx : evl F x = some (.pointer a)) : Pur P ⟨dst, .binOp .neq t x (.const (.pointer none)) ty, T, p, e, g⟩ F n (.bool a.isSome) :=
  p_nev hx rfl (fun w => ptr_guard w) (fun w => by
    simp only [binOp, Sem.run_bind, run_eqPtr ht]
    cases a <;> rfl)
end
end Go.Pse
