/-
  Own layer, part 3b: cells of a block that are owned apart from the block's others (structs within structs): loads, stores, taking apart, putting together.
-/
import Derived.Test.YthjgdlhkdjgjpaaGreatOps
namespace Go.Pse
open Go.RowKit

/-- The cells of block b from o on. -/
def fld (b o : Nat) (vs : List Value) : As where
  h w S := (∀ i v, vs[i]? = some v → ∃ n t, lk w (b, o + i) = some (.inl (n, t, (0, 0), some v))) ∧ ∀ k, S k ↔ k.1 = b ∧ o ≤ k.2 ∧ k.2 < o + vs.length
  loc := fun ⟨h1, h2⟩ hs => ⟨fun i v hi => by
    obtain ⟨n, t, h⟩ := h1 i v hi
    exact ⟨n, t, (hs (_, _) ((h2 _).2 ⟨rfl, Nat.le_add_right _ _, by have := (List.getElem?_eq_some_iff.1 hi).1; simp; omega⟩)).trans h⟩, h2⟩
  lt := fun {w S q} ⟨h1, h2⟩ hq => by
    obtain ⟨e1, e2, e3⟩ := (h2 q).1 hq
    obtain ⟨n, t, h⟩ := h1 (q.2 - o) _ (List.getElem?_eq_getElem (by omega))
    unfold lk at h
    rw [e1]
    cases hb : w.heap[b]? with
    | none => simp only [hb] at h; cases h
    | some _ => exact (Array.getElem?_eq_some_iff.1 hb).1

theorem lk_cell {w : World} {b o n : Nat} {t : TypeId} {fr : Nat × Nat} {v : Value} (h : lk w (b, o) = some (.inl (n, t, fr, some v))) :
    ∃ C, w.heap[b]? = some (.cells C t fr) ∧ C.size = n ∧ C[o]? = some v := by
  unfold lk at h
  cases hb : w.heap[b]? with
  | none => simp only [hb] at h; cases h
  | some x => cases x with
    | cells c t' fr' =>
      simp only [hb, Option.some.injEq, Sum.inl.injEq, Prod.mk.injEq] at h
      obtain ⟨h1, rfl, rfl, h4⟩ := h
      exact ⟨c, rfl, h1, h4⟩
    | _ => simp only [hb] at h; cases h
theorem fld_cell {w : World} {b o i : Nat} {vs : List Value} {v : Value} {S : Loc → Prop} (h : (fld b o vs).h w S) (hi : vs[i]? = some v) : w.cell? ⟨b, o + i, none⟩ = some v := by
  obtain ⟨n, t, hl⟩ := h.1 i v hi
  obtain ⟨C, h1, _, h3⟩ := lk_cell hl
  simp [World.cell?, h1, h3]

/-- A block known whole, as cells. -/
theorem blk_fld {w : World} {b : Nat} {t : TypeId} {cs : List Value} {S : Loc → Prop} (h : (blk b t cs).h w S) : ∃ S', (fld b 0 cs).h w S' ∧ ∀ q, S' q → S q :=
  ⟨fun q => q.1 = b ∧ 0 ≤ q.2 ∧ q.2 < 0 + cs.length, ⟨fun i v hi => ⟨cs.length, t, by unfold lk; rw [h.1]; simp [hi]⟩, fun _ => Iff.rfl⟩, fun _ hq => (h.2 _).2 hq.1⟩
theorem Sep.fld_split {E w : World} {b o : Nat} {xs ys : List Value} {l : List As} (H : Sep E w (fld b o (xs ++ ys) :: l)) : Sep E w (fld b o xs :: fld b (o + xs.length) ys :: l) := by
  refine ⟨H.os, H.tape, H.output, ?_⟩
  obtain ⟨S, S1, S2, ⟨h1, h1'⟩, h2, hd, he⟩ := H.own
  refine ⟨S, fun k => k.1 = b ∧ o ≤ k.2 ∧ k.2 < o + xs.length, fun k => (k.1 = b ∧ o + xs.length ≤ k.2 ∧ k.2 < o + xs.length + ys.length) ∨ S2 k, ⟨fun i v hi => ?_, fun _ => Iff.rfl⟩, ⟨fun k => k.1 = b ∧ o + xs.length ≤ k.2 ∧ k.2 < o + xs.length + ys.length, S2, ⟨fun i v hi => ?_, fun _ => Iff.rfl⟩, h2, fun k hk => ?_, fun _ => Iff.rfl⟩, fun k hk => ?_, fun k => ?_⟩
  · exact h1 i v (by rw [List.getElem?_append_left (List.getElem?_eq_some_iff.1 hi).1]; exact hi)
  · have := h1 (xs.length + i) v (by rw [List.getElem?_append_right (by omega)]; simpa using hi)
    rwa [← Nat.add_assoc] at this
  · exact hd k ((h1' k).2 ⟨hk.1, by omega, by simp; omega⟩)
  · rintro (h | h)
    · omega
    · exact hd k ((h1' k).2 ⟨hk.1, by omega, by simp; omega⟩) h
  · rw [he k, h1' k]
    simp only [List.length_append]
    constructor
    · rintro (⟨h, h', h''⟩ | h)
      · by_cases hx : k.2 < o + xs.length
        · exact .inl ⟨h, h', hx⟩
        · exact .inr (.inl ⟨h, by omega, by omega⟩)
      · exact .inr (.inr h)
    · rintro (⟨h, h', h''⟩ | ⟨h, h', h''⟩ | h)
      · exact .inl ⟨h, h', by omega⟩
      · exact .inl ⟨h, by omega, by omega⟩
      · exact .inr h
theorem Sep.fld_join {E w : World} {b o : Nat} {xs ys : List Value} {l : List As} (H : Sep E w (fld b o xs :: fld b (o + xs.length) ys :: l)) : Sep E w (fld b o (xs ++ ys) :: l) := by
  refine ⟨H.os, H.tape, H.output, ?_⟩
  obtain ⟨S, S1, U, ⟨h1, h1'⟩, ⟨S2, S3, ⟨h2, h2'⟩, h3, hd2, he2⟩, hd, he⟩ := H.own
  refine ⟨S, fun k => S1 k ∨ S2 k, S3, ⟨fun i v hi => ?_, fun k => ?_⟩, h3, fun k hk h => ?_, fun k => by rw [he k, he2 k, or_assoc]⟩
  · by_cases hx : i < xs.length
    · exact h1 i v (by rwa [List.getElem?_append_left hx] at hi)
    · rw [List.getElem?_append_right (by omega)] at hi
      have := h2 _ v hi
      rwa [show o + xs.length + (i - xs.length) = o + i by omega] at this
  · show S1 k ∨ S2 k ↔ _
    rw [h1' k, h2' k]
    simp only [List.length_append]
    omega
  · rcases hk with hk | hk
    · exact hd k hk ((he2 k).2 (.inr h))
    · exact hd2 k hk h

section
variable {P : Program} {ops : Array Oper} {Q : Exit → Act → World → Prop} {E : World} {l l' m : List As} {n : Nat} {F : Env} {K : Act → World → Prop}
variable {d : Nat} {T : TypeId} {p : String} {e : Array Edge} {g : Option (Nat × Bool)} {dst : Option Tmp} {t : TypeId} {x y z : Operand} {u v : Value}

theorem J_fld {b : Nat} {bt : TypeId} {cs : List Value} (k : Jk E (fld b 0 cs :: l) n F K) : Jk E (blk b bt cs :: l) n F K := J_imp (fun _ _ h => blk_fld h) k
theorem J_split {b o : Nat} (xs ys : List Value) {zs : List Value} (hz : zs = xs ++ ys) (k : Jk E (fld b o xs :: fld b (o + xs.length) ys :: l) n F K) : Jk E (fld b o zs :: l) n F K := by
  subst hz; exact J_to (fun _ H => H.fld_split) k
theorem J_join {b o o' : Nat} {xs ys : List Value} (ho : o' = o + xs.length) (k : Jk E (fld b o (xs ++ ys) :: l) n F K) : Jk E (fld b o xs :: fld b o' ys :: l) n F K := by
  subst ho; exact J_to (fun _ H => H.fld_join) k
/-- A load of one cell. -/
theorem v_loadL {b o q i sz by_ : Nat} {vs zs : List Value} (hx : evl F x = some (.pointer (some ⟨b, q, none⟩))) (hT : Ty P t sz by_ false zs) (hh : Has (fld b o vs) l) (hq : q = o + i) (hc : vs[i]? = some v) : Vl P ⟨dst, .load t x, T, p, e, g⟩ E l F n (v) := fun w a H hF => by
  obtain ⟨S, hS⟩ := H.has hh
  subst hq
  simp [execOp, hF.evl hx, Instr.loadAt, Instr.sureAddr, loadVar, hT.isAgg, fld_cell hS hc]
/-- A load of a struct. -/
theorem v_loadLA {b o q i sz by_ : Nat} {cs vs zs : List Value} (hx : evl F x = some (.pointer (some ⟨b, q, none⟩))) (hT : Ty P t sz by_ true zs) (hh : Has (fld b o cs) l) (hq : q = o + i) (hc : Cut i sz cs vs) : Vl P ⟨dst, .load t x, T, p, e, g⟩ E l F n (.agg vs.toArray) := fun w a H hF => by
  obtain ⟨S, hS⟩ := H.has hh
  subst hq
  have hl : (loadCells ⟨b, o + i, none⟩ sz).run P w = .ok vs.toArray w := by
    rw [← hc.eq.1]
    refine run_loadCells_list w _ vs fun j u hu => ?_
    rw [Addr.add_lit, Nat.add_assoc, fld_cell hS (v := u)]
    rw [hc.eq.2 j (by have := (List.getElem?_eq_some_iff.1 hu).1; rw [hc.eq.1] at this; exact this)]
    exact hu
  simp [execOp, hF.evl hx, Instr.loadAt, Instr.sureAddr, loadVar, hT.isAgg, hT.sizeOf, hl]
theorem fld_block {w : World} {b o : Nat} {vs : List Value} {S : Loc → Prop} (h : (fld b o vs).h w S) (h0 : 0 < vs.length) : ∃ C t, w.heap[b]? = some (.cells C t (0, 0)) ∧ o + vs.length ≤ C.size ∧ ∀ i v, vs[i]? = some v → C[o + i]? = some v := by
  obtain ⟨n, t, hl⟩ := h.1 0 _ (List.getElem?_eq_getElem h0)
  obtain ⟨C, h1, h2, h3⟩ := lk_cell hl
  have each : ∀ i v, vs[i]? = some v → C[o + i]? = some v := fun i v hi => by
    obtain ⟨n', t', hl'⟩ := h.1 i v hi
    obtain ⟨C', g1, g2, g3⟩ := lk_cell hl'
    rw [h1] at g1
    cases g1
    exact g3
  refine ⟨C, t, h1, ?_, each⟩
  have := each (vs.length - 1) _ (List.getElem?_eq_getElem (by omega))
  have := (Array.getElem?_eq_some_iff.1 this).1
  omega
theorem fld_set {w : World} {b o i : Nat} {t : TypeId} {C : Array Value} {us vs vs' : List Value} (hC : w.heap[b]? = some (.cells C t (0, 0))) (hp : Put i us vs vs') (hle : o + vs.length ≤ C.size) :
    Upd w (w.setRow b (C.toList.take (o + i) ++ us ++ C.toList.drop (o + i + us.length)).toArray) (fld b o vs) (fld b o vs') := fun S hS => by
  obtain ⟨hi, hvs⟩ := hp.eq
  have hl := hp.length
  have hCs : C.size = C.toList.length := by simp
  have hnew := setRow_heap w b C (C.toList.take (o + i) ++ us ++ C.toList.drop (o + i + us.length)).toArray t (0, 0) hC
  have hsz : (C.toList.take (o + i) ++ us ++ C.toList.drop (o + i + us.length)).toArray.size = C.size := by simp; omega
  have hlk : ∀ j, lk (w.setRow b (C.toList.take (o + i) ++ us ++ C.toList.drop (o + i + us.length)).toArray) (b, j) = some (.inl (C.size, t, (0, 0), (C.toList.take (o + i) ++ us ++ C.toList.drop (o + i + us.length))[j]?)) := fun j => by
    unfold lk; simp only [hnew, hsz]; simp
  have hlk0 : ∀ j, lk w (b, j) = some (.inl (C.size, t, (0, 0), C.toList[j]?)) := fun j => by
    unfold lk; simp only [hC]; simp
  have out : ∀ j, (j < o + i ∨ o + i + us.length ≤ j) → (C.toList.take (o + i) ++ us ++ C.toList.drop (o + i + us.length))[j]? = C.toList[j]? := fun j hj => by
    rcases hj with hj | hj
    · rw [List.append_assoc, List.getElem?_append_left (by simp; omega), List.getElem?_take, if_pos hj]
    · rw [List.getElem?_append_right (by simp; omega), List.getElem?_drop]
      congr 1; simp; omega
  refine ⟨⟨S, ⟨fun j v hj => ?_, fun k => by rw [hl]; exact hS.2 k⟩, fun _ h => .inl h⟩, fun k _ hk => ?_⟩
  · refine ⟨C.size, t, ?_⟩
    rw [hlk]
    suffices hx : (C.toList.take (o + i) ++ us ++ C.toList.drop (o + i + us.length))[o + j]? = some v by rw [hx]
    have lt1 : (C.toList.take (o + i)).length = o + i := by simp; omega
    have lt2 : (vs.take i).length = i := by simp; omega
    rw [hvs] at hj
    by_cases h1 : j < i
    · rw [out _ (by omega)]
      rw [List.append_assoc, List.getElem?_append_left (by simp; omega), List.getElem?_take, if_pos h1] at hj
      obtain ⟨n', t', hl'⟩ := hS.1 j v hj
      rw [hlk0] at hl'
      simp only [Option.some.injEq, Sum.inl.injEq, Prod.mk.injEq] at hl'
      exact hl'.2.2.2
    · by_cases h2 : j < i + us.length
      · rw [List.append_assoc, List.getElem?_append_right (by omega), List.getElem?_append_left (by omega), lt2] at hj
        rw [List.append_assoc, List.getElem?_append_right (by omega), List.getElem?_append_left (by omega), lt1, ← hj]
        congr 1; omega
      · rw [out _ (by omega)]
        rw [List.getElem?_append_right (by simp; omega), List.getElem?_drop] at hj
        have e : i + us.length + (j - (vs.take i ++ us).length) = j := by simp; omega
        rw [e] at hj
        obtain ⟨n', t', hl'⟩ := hS.1 j v hj
        rw [hlk0] at hl'
        simp only [Option.some.injEq, Sum.inl.injEq, Prod.mk.injEq] at hl'
        exact hl'.2.2.2
  · by_cases hb : k.1 = b
    · obtain ⟨kb, kj⟩ := k
      simp only at hb
      subst hb
      rw [hlk, hlk0, out]
      by_cases h1 : kj < o + i
      · exact .inl h1
      · refine .inr (Nat.le_of_not_lt fun h2 => hk ((hS.2 _).2 ⟨rfl, ?_, ?_⟩))
        · show o ≤ kj; omega
        · show kj < o + vs.length; omega
    · exact setRow_out hb
/-- A store. -/
theorem x_storeL {b o q i sz by_ : Nat} {cs cs' zs : List Value} {agg : Bool} {vs : List Value} (hx : evl F x = some (.pointer (some ⟨b, q, none⟩))) (hy : evl F y = some v) (hT : Ty P t sz by_ agg zs) (hv : v.cells = vs.toArray) (hs : vs.length = sz) (h1 : ones vs = true) (h0 : Nat.blt 0 sz = true)
    (hr : Rep1 (fld b o cs) (fld b o cs') l l') (hq : q = o + i) (hp : Put i vs cs cs') (k : Jk E l' n F K) : Jop P ops Q ⟨none, .store t x y, T, p, e, none⟩ E l n F K := fun w a H hF => by
  have hh : Has (fld b o cs) l := by
    clear H k
    induction hr with
    | here => exact .here
    | there _ ih => exact .there ih
  obtain ⟨S, hS⟩ := H.has hh
  have h0' : 0 < sz := by simpa using h0
  obtain ⟨hle, hcs⟩ := hp.eq
  obtain ⟨C, bt, hC, hCl, _⟩ := fld_block hS (by omega)
  have hw : Region.wanted (⟨none, .store t x y, T, p, e, none⟩ : Oper) (yielded ops a.tmps) = true := rfl
  rw [if_pos hw]
  unfold Oper.wp
  subst hq
  have hst := run_storeCells_at P b (o + i) bt vs 0 C w hC (by omega) (fun u hu => List.all_eq_true.1 h1 u hu)
  simp only [Nat.add_zero] at hst
  have : (execOp a.eval ⟨none, .store t x y, T, p, e, none⟩).run P w = .ok .skip (w.setRow b (C.toList.take (o + i) ++ vs ++ C.toList.drop (o + i + vs.length)).toArray) := by
    simp [execOp, hF.evl hx, hF.evl hy, Instr.storeAt, Instr.sureAddr, storeVar, hT.sizeOf, hv, hs] at hst ⊢
    simp [hst]
  rw [this]
  exact k _ _ (H.rep hr setRow_same (fld_set hC hp hCl)) hF
end
end Go.Pse
