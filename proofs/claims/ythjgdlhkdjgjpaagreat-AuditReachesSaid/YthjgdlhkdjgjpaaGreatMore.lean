/-
  Own layer, part 5: writes into rows; parts that lie over each other; clear; function values.
-/
import Derived.Test.YthjgdlhkdjgjpaaGreatRow
import Derived.Laws.MakeOwn
namespace Go.Pse
open Go.RowKit

section
variable {P : Program} {ops : Array Oper} {Q : Exit → Act → World → Prop} {E : World} {l l' m : List As} {n : Nat} {F : Env} {K : Act → World → Prop}
variable {d : Nat} {T : TypeId} {p : String} {e : Array Edge} {g : Option (Nat × Bool)} {dst : Option Tmp} {t : TypeId} {x y z : Operand} {u v : Value}

/-- The row's first k elements alone. -/
theorem row_take {el : TypeId} {sz : Nat} {a0 : Option Addr} {len cap k : Nat} {xs : List (List Value)} {w : World} {S : Loc → Prop} (h : (row el sz (.slice a0 len cap) xs).h w S) (hk : k ≤ xs.length) :
    (row el sz (.slice a0 k cap) (xs.take k)).h w S := by
  obtain ⟨hw, h⟩ := h
  refine ⟨hw.sub fun y hy => List.mem_of_mem_take hy, ?_⟩
  rcases h with ⟨h1, h2, h3⟩ | ⟨b, o, c, C, h1, h2, h3, h4, h5, h6, h7⟩
  · cases h1
    subst h2
    have : k = 0 := by simpa using hk
    subst this
    exact .inl ⟨rfl, by simp, h3⟩
  · cases h1
    refine .inr ⟨b, o, cap, C, by simp [Nat.min_eq_left hk], h2, by simp; omega, h4, h5, ?_, h7⟩
    rw [← take_take_flatten hw, ← h6, List.take_take]
    congr 1
    simp only [List.length_take, Nat.min_eq_left hk]
    rw [Nat.min_eq_left (Nat.mul_le_mul_right _ hk)]
theorem J_take {el : TypeId} {sz : Nat} {a0 : Option Addr} {len cap k : Nat} {xs : List (List Value)} (hk : k ≤ xs.length)
    (j : Jk E (row el sz (.slice a0 k cap) (xs.take k) :: l) n F K) : Jk E (row el sz (.slice a0 len cap) xs :: l) n F K :=
  J_imp (fun w S h => ⟨S, row_take h hk, fun _ h => h⟩) j

theorem splice_list {D X Y : List Value} {N a : Nat} (hX : D.take N = X) (hN : N ≤ D.length) (ha : a + Y.length ≤ N) : (D.take a ++ Y ++ D.drop (a + Y.length)).take N = X.take a ++ Y ++ X.drop (a + Y.length) := by
  subst hX
  rw [List.take_append, List.take_take, Nat.min_eq_left (by omega : a ≤ N), List.drop_take]
  rw [List.take_of_length_le (by simp; omega)]
  congr 2
  simp
  omega
theorem splice_flat {sz i : Nat} {xs ys : List (List Value)} (hw : Wf sz xs) (hy : Wf sz ys) : xs.flatten.take (i * sz) ++ ys.flatten ++ xs.flatten.drop (i * sz + ys.flatten.length) = (xs.take i ++ ys ++ xs.drop (i + ys.length)).flatten := by
  rw [take_take_flatten hw, hy.len, ← Nat.add_mul, drop_flatten hw]
  simp
def spl (b o sz i : Nat) (C : Array Value) (ys : List (List Value)) (w : World) : World := w.setRow b (C.toList.take (o + i * sz) ++ ys.flatten ++ C.toList.drop (o + i * sz + ys.flatten.length)).toArray
theorem row_splice {w : World} {b o len cap sz i : Nat} {el : TypeId} {xs ys : List (List Value)} {C : Array Value} (hC : w.heap[b]? = some (.cells C el (0, 0))) (hys : Wf sz ys) (hi : i + ys.length ≤ xs.length) :
    Upd w (spl b o sz i C ys w) (row el sz (.slice (some ⟨b, o, none⟩) len cap) xs) (row el sz (.slice (some ⟨b, o, none⟩) len cap) (xs.take i ++ ys ++ xs.drop (i + ys.length))) := fun S ⟨hw, h⟩ => by
  rcases h with ⟨h1, _⟩ | ⟨b', o', c, C', h1, h2, h3, h4, h5, h6, h7⟩
  · cases h1
  · cases h1
    rw [hC] at h2
    cases h2
    have hwf : Wf sz (xs.take i ++ ys ++ xs.drop (i + ys.length)) := (Wf.append (hw.sub fun y hy => List.mem_of_mem_take hy) hys).append (hw.sub fun y hy => List.mem_of_mem_drop hy)
    have hl : (xs.take i ++ ys ++ xs.drop (i + ys.length)).length = xs.length := by simp; omega
    have hyl := hys.len
    have hmul : i * sz + ys.length * sz ≤ xs.length * sz := by rw [← Nat.add_mul]; exact Nat.mul_le_mul_right _ hi
    have hmul2 : xs.length * sz ≤ cap * sz := Nat.mul_le_mul_right _ h3
    have hsz : C.size = C.toList.length := by simp
    refine ⟨⟨S, ⟨hwf, .inr ⟨b, o, cap, _, by rw [hl], setRow_heap w b _ _ el (0, 0) hC, by rw [hl]; exact h3, h4, ?_, ?_, h7⟩⟩, fun _ h => .inl h⟩, fun k _ hk => setRow_out fun h => hk ((h7 k).2 h)⟩
    · simp [hyl]; omega
    · rw [hl, ← splice_flat hw hys]
      show List.take _ (List.drop o _) = _
      simp only [List.append_assoc]
      rw [List.drop_append_of_le_length (by simp; omega), List.drop_take, show o + i * sz - o = i * sz by omega]
      have := splice_list (D := C.toList.drop o) (X := xs.flatten) (Y := ys.flatten) (N := xs.length * sz) (a := i * sz) h6 (by simp; omega) (by omega)
      rw [List.drop_drop, show o + (i * sz + ys.flatten.length) = o + i * sz + ys.flatten.length by omega] at this
      simpa [List.append_assoc] using this
theorem row_block {w : World} {b o len cap sz : Nat} {el : TypeId} {xs : List (List Value)} {S : Loc → Prop} (h : (row el sz (.slice (some ⟨b, o, none⟩) len cap) xs).h w S) :
    ∃ C, w.heap[b]? = some (.cells C el (0, 0)) ∧ len = xs.length ∧ len ≤ cap ∧ o + cap * sz ≤ C.size := by
  obtain ⟨_, h⟩ := h
  rcases h with ⟨h1, _⟩ | ⟨b', o', c, C', h1, h2, h3, h4, h5, h6, h7⟩
  · cases h1
  · cases h1; exact ⟨C', h2, rfl, h3, h5⟩
theorem run_splice {w : World} {b o len cap sz i : Nat} {el : TypeId} {xs ys : List (List Value)} (H : Sep E w (row el sz (.slice (some ⟨b, o, none⟩) len cap) xs :: l)) (hys : Wf sz ys) (hi : i + ys.length ≤ xs.length) :
    ∃ w', (storeCells ⟨b, o + i * sz, none⟩ ys.flatten).run P w = .ok () w' ∧ Sep E w' (row el sz (.slice (some ⟨b, o, none⟩) len cap) (xs.take i ++ ys ++ xs.drop (i + ys.length)) :: l) := by
  obtain ⟨S, hS⟩ := H.head
  obtain ⟨C, hC, hl, hlc, hsz⟩ := row_block hS
  have hyl := hys.len
  have hmul : i * sz + ys.length * sz ≤ xs.length * sz := by rw [← Nat.add_mul]; exact Nat.mul_le_mul_right _ hi
  have hmul2 : xs.length * sz ≤ cap * sz := Nat.mul_le_mul_right _ (by omega)
  have hst := run_storeCells_at P b (o + i * sz) el ys.flatten 0 C w hC (by rw [hyl]; omega) hys.one
  simp only [Nat.add_zero] at hst
  exact ⟨_, hst, H.rep .here setRow_same (row_splice hC hys hi)⟩

/-- append within the row itself: the result's elements are among the row's own. -/
theorem x_appIn {el sT : TypeId} {b o cap len i : Nat} {sz by_ : Nat} {agg : Bool} {zs : List Value} {xs ys : List (List Value)} {v2 : Value} (hx : evl F x = some (.slice (some ⟨b, o, none⟩) i cap)) (hy : evl F y = some v2) (ht : P.underlying sT = some (.slice el)) (hT : Ty P el sz by_ agg zs)
    (hp : Pick (row el sz (.slice (some ⟨b, o, none⟩) len cap) xs) l m) (hr : ∀ w, Sep E w l → Reads w sz v2 ys) (hi : i + ys.length ≤ xs.length) (hd : Nat.blt d n = true)
    (k : Jk E (row el sz (.slice (some ⟨b, o, none⟩) len cap) (xs.take i ++ ys ++ xs.drop (i + ys.length)) :: m) n ((d, .slice (some ⟨b, o, none⟩) (i + ys.length) cap) :: F) K) :
    Jop P ops Q ⟨some d, .call { callee := .builtin .append, args := #[x, y], argTypes := #[sT, sT] }, T, p, e, none⟩ E l n F K := fun w a H hF => by
  obtain ⟨i0, z, hi0, hi1, hi2, hi3, hi4⟩ := hT.get
  have hrd := hr w H
  obtain ⟨a2, c2, hv2, hc2, hc2', hn2, ha2⟩ := hrd.is
  have H' := H.pick hp
  obtain ⟨S, hS⟩ := H'.head
  obtain ⟨C, hC, hl, hlc, hsz⟩ := row_block hS
  obtain ⟨w', hst, hw'⟩ := run_splice (P := P) H' hrd.wf hi
  have hfc : (Builtin.firstCells sz ys.length (.slice a2 ys.length c2)).run P w = .ok ys.flatten.toArray w := by
    cases a2 with
    | none =>
      have : ys = [] := (hn2 rfl).1
      subst this
      simp [Builtin.firstCells]
    | some ad => exact run_firstCells_some w sz ys.length ad _ _ ys.flatten hrd.wf.len (ha2 ad rfl).2
  have hroom : i + ys.length ≤ cap := by omega
  have hrun : (Builtin.append_ #[sT, sT] T #[.slice (some ⟨b, o, none⟩) i cap, v2]).run P w = .ok (.slice (some ⟨b, o, none⟩) (i + ys.length) cap) w' := by
    subst hv2
    simp [Builtin.append_, run_underlying ht, sizeOf, typeInfo, hi0, hi1, Builtin.lenOf, hroom, hfc, Addr.add_lit, hst]
  have hw : Region.wanted (⟨some d, .call { callee := .builtin .append, args := #[x, y], argTypes := #[sT, sT] }, T, p, e, none⟩ : Oper) (yielded ops a.tmps) = true := rfl
  rw [if_pos hw]
  unfold Oper.wp
  have : (execOp a.eval ⟨some d, .call { callee := .builtin .append, args := #[x, y], argTypes := #[sT, sT] }, T, p, e, none⟩).run P w = .ok (.value (.slice (some ⟨b, o, none⟩) (i + ys.length) cap)) w' := by
    simp [execOp, resolve, invoke, builtin, hF.evl hx, hF.evl hy, hrun]
  rw [this]
  exact k w' _ hw' (hF.put hd)

/-- A whole element stored. -/
theorem x_storeE {b o len cap sz by_ : Nat} {i : Int} {el : TypeId} {agg : Bool} {xs : List (List Value)} {vs : List Value} {zs : List Value} (hx : evl F x = some (.pointer (some ⟨b, o + i.toNat * sz, none⟩))) (hy : evl F y = some v) (hT : Ty P t sz by_ agg zs) (hv : v.cells = vs.toArray) (hs : vs.length = sz) (h1 : ones vs = true)
    (hp : Pick (row el sz (.slice (some ⟨b, o, none⟩) len cap) xs) l m) (hi : i.toNat < xs.length)
    (k : Jk E (row el sz (.slice (some ⟨b, o, none⟩) len cap) (xs.set i.toNat vs) :: m) n F K) : Jop P ops Q ⟨none, .store t x y, T, p, e, none⟩ E l n F K := fun w a H hF => by
  have hys : Wf sz [vs] := .cons hs h1 .nil
  obtain ⟨w', hst, hw'⟩ := run_splice (P := P) (i := i.toNat) (H.pick hp) hys (by simp; omega)
  have hset : xs.take i.toNat ++ [vs] ++ xs.drop (i.toNat + [vs].length) = xs.set i.toNat vs := by
    rw [List.set_eq_take_append_cons_drop, if_pos hi]; simp
  rw [hset] at hw'
  simp only [List.flatten_cons, List.flatten_nil, List.append_nil] at hst
  have hw : Region.wanted (⟨none, .store t x y, T, p, e, none⟩ : Oper) (yielded ops a.tmps) = true := rfl
  rw [if_pos hw]
  unfold Oper.wp
  have : (execOp a.eval ⟨none, .store t x y, T, p, e, none⟩).run P w = .ok .skip w' := by
    simp [execOp, hF.evl hx, hF.evl hy, Instr.storeAt, Instr.sureAddr, storeVar, hT.sizeOf, hv, hs, hst]
  rw [this]
  exact k w' a hw' hF

theorem set_mid {α : Type} {A c B : List α} {q : Nat} {v : α} (hq : q < c.length) : (A ++ c ++ B).set (A.length + q) v = A ++ c.set q v ++ B := by
  rw [List.append_assoc, List.set_append_right _ _ (by omega), List.append_assoc]
  simp only [Nat.add_sub_cancel_left]
  rw [List.set_append_left _ _ hq]
/-- One cell of an element, stored. -/
theorem x_storeF {b o len cap sz by_ q : Nat} {i : Int} {el : TypeId} {xs : List (List Value)} {c : List Value} {zs : List Value} (hx : evl F x = some (.pointer (some ⟨b, o + i.toNat * sz + q, none⟩))) (hy : evl F y = some v) (hT : Ty P t 1 by_ false zs) (hv : v.cells.toList = [v]) (h1 : v.oneCell' = true)
    (hp : Pick (row el sz (.slice (some ⟨b, o, none⟩) len cap) xs) l m) (hi : xs[i.toNat]? = some c) (hq : Nat.blt q sz = true)
    (k : Jk E (row el sz (.slice (some ⟨b, o, none⟩) len cap) (xs.set i.toNat (c.set q v)) :: m) n F K) : Jop P ops Q ⟨none, .store t x y, T, p, e, none⟩ E l n F K := fun w a H hF => by
  have hq' : q < sz := by simpa using hq
  have H' := H.pick hp
  obtain ⟨S, hS⟩ := H'.head
  have hwf := hS.1
  have hc1 := hwf c (List.mem_of_getElem? hi)
  have hlt : i.toNat < xs.length := (List.getElem?_eq_some_iff.1 hi).1
  obtain ⟨C, hC, hl, hlc, hsz⟩ := row_block hS
  have hfl : (C.toList.drop o).take (xs.length * sz) = xs.flatten := by
    rcases hS.2 with ⟨h, _⟩ | ⟨b', o', c', C', g1, g2, g3, g4, g5, g6, g7⟩
    · cases h
    · cases g1
      rw [hC] at g2
      cases g2
      exact g6
  have hmul : i.toNat * sz + sz ≤ xs.length * sz := by
    have := Nat.mul_le_mul_right sz (show i.toNat + 1 ≤ xs.length by omega)
    rw [Nat.add_mul] at this; omega
  have hmul2 : xs.length * sz ≤ cap * sz := Nat.mul_le_mul_right _ (by omega)
  have hCs : C.size = C.toList.length := by simp
  have hseg : (C.toList.drop (o + i.toNat * sz)).take sz = c := by
    have e1 : xs.flatten.drop (i.toNat * sz) = (xs.drop i.toNat).flatten := drop_flatten hwf
    rw [List.drop_eq_getElem_cons hlt, List.flatten_cons] at e1
    have e2 : xs[i.toNat] = c := (List.getElem?_eq_some_iff.1 hi).2
    rw [e2] at e1
    have e3 : (xs.flatten.drop (i.toNat * sz)).take sz = c := by rw [e1, ← hc1.1, List.take_left]
    rw [← hfl, List.drop_take, List.drop_drop, List.take_take, Nat.min_eq_left (by omega)] at e3
    exact e3
  have hD : C.toList = C.toList.take (o + i.toNat * sz) ++ c ++ C.toList.drop (o + i.toNat * sz + sz) := by
    conv => lhs; rw [← List.take_append_drop (o + i.toNat * sz) C.toList]
    rw [List.append_assoc]
    congr 1
    have e4 := List.take_append_drop sz (C.toList.drop (o + i.toNat * sz))
    rw [List.drop_drop, hseg] at e4
    exact e4.symm
  have hst := run_storeCells_at P b (o + i.toNat * sz + q) el [v] 0 C w hC (by simp; omega) (fun u hu => by simp at hu; subst hu; exact h1)
  have hset : C.toList.take (o + i.toNat * sz + q) ++ [v] ++ C.toList.drop (o + i.toNat * sz + q + 1) = C.toList.take (o + i.toNat * sz) ++ [c.set q v].flatten ++ C.toList.drop (o + i.toNat * sz + [c.set q v].flatten.length) := by
    have e0 : o + i.toNat * sz + q < C.toList.length := by omega
    have e1 : C.toList.take (o + i.toNat * sz + q) ++ [v] ++ C.toList.drop (o + i.toNat * sz + q + 1) = C.toList.set (o + i.toNat * sz + q) v := by
      rw [List.set_eq_take_append_cons_drop, if_pos e0]; simp
    rw [e1]
    conv => lhs; rw [hD]
    have e2 : (C.toList.take (o + i.toNat * sz)).length = o + i.toNat * sz := by simp; omega
    have := set_mid (A := C.toList.take (o + i.toNat * sz)) (c := c) (B := C.toList.drop (o + i.toNat * sz + sz)) (v := v) (q := q) (by rw [hc1.1]; exact hq')
    rw [e2] at this
    rw [this]
    simp [hc1.1]
  have hys : Wf sz [c.set q v] := .cons (by simp [hc1.1]) (by
    unfold ones
    rw [List.all_eq_true]
    intro u hu
    rcases List.mem_or_eq_of_mem_set hu with h | h
    · exact List.all_eq_true.1 hc1.2 u h
    · subst h; exact h1) .nil
  have hw' := H'.rep .here setRow_same (row_splice (i := i.toNat) hC hys (by simp; omega))
  have hsl : ∀ c' : List Value, xs.take i.toNat ++ [c'] ++ xs.drop (i.toNat + [c'].length) = xs.set i.toNat c' := fun c' => by
    rw [List.set_eq_take_append_cons_drop, if_pos hlt]; simp
  rw [hsl] at hw'
  try unfold spl at hw'
  rw [← hset] at hw'
  have hw : Region.wanted (⟨none, .store t x y, T, p, e, none⟩ : Oper) (yielded ops a.tmps) = true := rfl
  rw [if_pos hw]
  unfold Oper.wp
  have hvc : v.cells = #[v] := by apply Array.ext'; rw [hv]
  have : (execOp a.eval ⟨none, .store t x y, T, p, e, none⟩).run P w = .ok .skip (w.setRow b (C.toList.take (o + i.toNat * sz + q) ++ [v] ++ C.toList.drop (o + i.toNat * sz + q + 1)).toArray) := by
    simp only [Nat.add_zero, List.length_cons, List.length_nil, Nat.zero_add] at hst
    simp [execOp, hF.evl hx, hF.evl hy, Instr.storeAt, Instr.sureAddr, storeVar, hT.sizeOf, hvc, hst]
  rw [this]
  exact k _ a hw' hF
theorem zeroCells_flat {zs : List Value} : ∀ (k : Nat), (Builtin.zeroCells zs.toArray k).toList = (List.replicate k zs).flatten := by
  intro k
  apply List.ext_getElem?
  intro j
  by_cases h0 : zs.length = 0
  · have : zs = [] := List.eq_nil_of_length_eq_zero h0
    subst this
    have : (List.replicate k ([] : List Value)).flatten = [] := by simp
    simp [Builtin.zeroCells, this]
  · have hw : ∀ x ∈ List.replicate k zs, x.length = zs.length := fun x hx => by rw [List.eq_of_mem_replicate hx]
    have hfl : (List.replicate k zs).flatten.length = k * zs.length := by
      clear hw; induction k with
      | zero => simp
      | succ k ih => simp [List.replicate_succ, ih, Nat.add_mul, Nat.add_comm]
    by_cases hj : j < k * zs.length
    · have e1 : (Builtin.zeroCells zs.toArray k).toList[j]? = zs[j % zs.length]? := by
        have hm : j % zs.length < zs.length := Nat.mod_lt _ (by omega)
        simp [Builtin.zeroCells, hj, hm]
      rw [e1]
      clear e1
      induction k generalizing j with
      | zero => simp at hj
      | succ k ih =>
        rw [List.replicate_succ, List.flatten_cons]
        by_cases hlt : j < zs.length
        · rw [List.getElem?_append_left hlt, Nat.mod_eq_of_lt hlt]
        · rw [List.getElem?_append_right (by omega), ← ih (j - zs.length) (fun x hx => by rw [List.eq_of_mem_replicate hx]) (by clear ih hfl hw; induction k with
            | zero => simp
            | succ k ih => simp [List.replicate_succ, ih, Nat.add_mul, Nat.add_comm]) (by rw [Nat.add_mul] at hj; omega)]
          congr 1
          exact (Nat.mod_eq_sub_mod (by omega))
    · rw [List.getElem?_eq_none (by simp [Builtin.zeroCells]; omega), List.getElem?_eq_none (by rw [hfl]; omega)]
/-- clear of a part of a row. -/
theorem x_clear {el sT : TypeId} {b o len cap sz by_ k0 len' c' : Nat} {agg : Bool} {zs : List Value} {xs : List (List Value)} (hx : evl F x = some (.slice (if cap = k0 then some ⟨b, o, none⟩ else (some (⟨b, o, none⟩ : Addr)).map (·.add (k0 * sz))) len' c')) (ht : P.underlying sT = some (.slice el)) (hT : Ty P el sz by_ agg zs) (hz : zs.length = sz) (h1 : ones zs = true)
    (hp : Pick (row el sz (.slice (some ⟨b, o, none⟩) len cap) xs) l m) (hi : k0 + len' ≤ xs.length)
    (k : Jk E (row el sz (.slice (some ⟨b, o, none⟩) len cap) (xs.take k0 ++ List.replicate len' zs ++ xs.drop (k0 + len')) :: m) n F K) :
    Jop P ops Q ⟨none, .call { callee := .builtin .clear, args := #[x], argTypes := #[sT] }, T, p, e, none⟩ E l n F K := fun w a H hF => by
  have hys : Wf sz (List.replicate len' zs) := fun y hy => by rw [List.eq_of_mem_replicate hy]; exact ⟨hz, h1⟩
  have H' := H.pick hp
  obtain ⟨S, hS⟩ := H'.head
  obtain ⟨C, hC, hl, hlc, hsz⟩ := row_block hS
  obtain ⟨w', hst, hw'⟩ := run_splice (P := P) (i := k0) H' hys (by simpa using hi)
  simp only [List.length_replicate] at hw'
  have hw : Region.wanted (⟨none, .call { callee := .builtin .clear, args := #[x], argTypes := #[sT] }, T, p, e, none⟩ : Oper) (yielded ops a.tmps) = true := rfl
  rw [if_pos hw]
  unfold Oper.wp
  obtain ⟨z, hzv, hzs⟩ := hT.zero w
  have hzc : z.cells = zs.toArray := by rw [← hzs]
  by_cases h0 : len' = 0
  · subst h0
    have hw'' : w' = w := by simp [storeCells] at hst; exact hst.symm
    subst hw''
    have : (execOp a.eval ⟨none, .call { callee := .builtin .clear, args := #[x], argTypes := #[sT] }, T, p, e, none⟩).run P w' = .ok (.value (.tuple #[])) w' := by
      split at hx <;> simp [execOp, resolve, invoke, builtin, hF.evl hx, Builtin.clear_, run_underlying ht]
    rw [this]
    exact k w' a hw' hF
  · have hne : cap ≠ k0 := by omega
    rw [if_neg hne] at hx
    simp only [Option.map_some, Addr.add_lit] at hx
    have : (execOp a.eval ⟨none, .call { callee := .builtin .clear, args := #[x], argTypes := #[sT] }, T, p, e, none⟩).run P w = .ok (.value (.tuple #[])) w' := by
      obtain ⟨q, rfl⟩ : ∃ q, len' = q + 1 := ⟨len' - 1, by omega⟩
      rw [← zeroCells_flat] at hst
      simp [execOp, resolve, invoke, builtin, hF.evl hx, Builtin.clear_, run_underlying ht, hzv, hzc, hst]
    rw [this]
    exact k w' a hw' hF
theorem p_slice3 {a0 : Option Addr} {len cap sz by_ : Nat} {lo hi mx : Int} {qlo qhi qmx : Operand} {el : TypeId} {agg : Bool} {zs : List Value} (hx : evl F x = some (.slice a0 len cap)) (ht : P.underlying t = some (.slice el)) (hT : Ty P el sz by_ agg zs)
    (hlo : evl F qlo = some (.int .i64 lo)) (hhi : evl F qhi = some (.int .i64 hi)) (hmx : evl F qmx = some (.int .i64 mx)) (h0 : 0 ≤ lo) (h1 : lo ≤ hi) (h2 : hi ≤ mx) (h3 : mx ≤ cap) :
    Pur P ⟨dst, .slice t x (some qlo) (some qhi) (some qmx), T, p, e, g⟩ F n (.slice (if mx.toNat = lo.toNat then a0 else a0.map (·.add (lo.toNat * sz))) (hi.toNat - lo.toNat) (mx.toNat - lo.toNat)) := fun a hF w => by
  have h4 : 0 ≤ hi := by omega
  have h5 : 0 ≤ mx := by omega
  have h6 : hi ≤ (mx.toNat : Int) := by omega
  have h7 : lo ≤ (hi.toNat : Int) := by omega
  have e1 : a.eval qlo = .int .i64 lo := hF.evl hlo
  have e2 : a.eval qhi = .int .i64 hi := hF.evl hhi
  have e3 : a.eval qmx = .int .i64 mx := hF.evl hmx
  have s1 : (Instr.sliceBound (.int .i64 mx) cap .slice3Acap).run P w = .ok mx.toNat w := by simp [Instr.sliceBound, asIntOf, h5, h3]
  have s2 : (Instr.sliceBound (.int .i64 hi) mx.toNat .slice3B).run P w = .ok hi.toNat w := by simp only [Instr.sliceBound, asIntOf]; simp [h4]; omega
  have s3 : (Instr.sliceBound (.int .i64 lo) hi.toNat .slice3C).run P w = .ok lo.toNat w := by simp only [Instr.sliceBound, asIntOf]; simp [h0]; omega
  simp [execOp, hF.evl hx, Instr.sliceAt, run_underlying ht, Instr.slice, Instr.sliceBounds, e1, e2, e3, s1, s2, s3, hT.sizeOf]
theorem p_makeFunc {f : FuncId} {caps : Array Operand} {vs : List Value} (h : Args F caps.toList vs) : Pur P ⟨dst, .makeFunc (.func f) #[] caps, T, p, e, g⟩ F n (.func (.func f) #[] vs.toArray) := fun a hF w => by
  have hm : caps.map a.eval = vs.toArray := by apply Array.ext'; rw [Array.toList_map, h.map hF]
  simp [execOp, Instr.makeFunc, hm]

theorem J_rowEq {el : TypeId} {sz : Nat} {xs ys : List (List Value)} (h : xs = ys) (k : Jk E (row el sz v ys :: l) n F K) : Jk E (row el sz v xs :: l) n F K := h ▸ k
theorem J_rowTo {el : TypeId} {sz : Nat} {v' : Value} {xs ys : List (List Value)} (h : xs = ys) (hv : v = v') (k : Jk E (row el sz v' ys :: l) n F K) : Jk E (row el sz v xs :: l) n F K := by subst h; subst hv; exact k

/-! ### what DeleteFunc does, round by round -/
def kept {α : Type} (p : α → Bool) (xs : List α) (j : Nat) : List α := (xs.take j).filter fun c => !p c
theorem kept_le {α : Type} (p : α → Bool) (xs : List α) (j : Nat) : (kept p xs j).length ≤ j := by
  unfold kept
  exact Nat.le_trans (List.length_filter_le _ _) (List.length_take_le _ _)
theorem kept_le' {α : Type} (p : α → Bool) (xs : List α) (j : Nat) : (kept p xs j).length ≤ xs.length := by
  unfold kept
  exact Nat.le_trans (List.length_filter_le _ _) (by simp; omega)
theorem kept_get {α : Type} {p : α → Bool} {xs : List α} {j : Nat} : (kept p xs j ++ xs.drop (kept p xs j).length)[j]? = xs[j]? := by
  have := kept_le p xs j
  rw [List.getElem?_append_right this, List.getElem?_drop]
  congr 1; omega
theorem kept_succ {α : Type} {p : α → Bool} {xs : List α} {j : Nat} {c : α} (h : xs[j]? = some c) : kept p xs (j + 1) = kept p xs j ++ if p c then [] else [c] := by
  unfold kept
  rw [List.take_add_one, h]
  by_cases hp : p c = true
  · simp [List.filter_append, hp]
  · simp [List.filter_append, hp]
theorem kept_set {α : Type} {p : α → Bool} {xs : List α} {j : Nat} {c : α} (h : xs[j]? = some c) (hp : p c = false) :
    (kept p xs j ++ xs.drop (kept p xs j).length).set (kept p xs j).length c = kept p xs (j + 1) ++ xs.drop (kept p xs (j + 1)).length := by
  have h1 := kept_le p xs j
  have h2 : j < xs.length := (List.getElem?_eq_some_iff.1 h).1
  rw [kept_succ h, hp]
  simp only [Bool.false_eq_true, if_false, List.length_append, List.length_cons, List.length_nil, Nat.zero_add]
  have e := List.drop_eq_getElem_cons (l := xs) (by omega : (kept p xs j).length < xs.length)
  rw [List.set_append_right _ _ (Nat.le_refl _), Nat.sub_self, e, List.set_cons_zero, List.append_assoc]
  rfl
theorem kept_all {α : Type} {p : α → Bool} {xs : List α} {j : Nat} (h : xs.length ≤ j) : kept p xs j = xs.filter fun c => !p c := by
  unfold kept; rw [List.take_of_length_le h]
/-- The first place at which p holds; else -1. -/
def idx {α : Type} (p : α → Bool) (xs : List α) : Int := match xs.findIdx? p with | some i => i | none => -1
theorem idx_here {α : Type} {p : α → Bool} {xs : List α} {i : Nat} {c : α} (h0 : ∀ c ∈ xs.take i, p c = false) (h : xs[i]? = some c) (hp : p c = true) : idx p xs = i := by
  have h2 : i < xs.length := (List.getElem?_eq_some_iff.1 h).1
  unfold idx
  have : xs.findIdx? p = some i := by
    rw [List.findIdx?_eq_some_iff_getElem]
    refine ⟨h2, ?_, fun j hj => ?_⟩
    · have := (List.getElem?_eq_some_iff.1 h).2; rw [this]; exact hp
    · have := h0 xs[j] (List.mem_iff_getElem?.2 ⟨j, by rw [List.getElem?_take, if_pos hj]; exact List.getElem?_eq_getElem (by omega)⟩)
      simp [this]
  rw [this]
theorem idx_none {α : Type} {p : α → Bool} {xs : List α} (h0 : ∀ c ∈ xs, p c = false) : idx p xs = -1 := by
  unfold idx
  have : xs.findIdx? p = none := by rw [List.findIdx?_eq_none_iff]; exact h0
  rw [this]
theorem idx_cases {α : Type} (p : α → Bool) (xs : List α) : (idx p xs = -1 ∧ ∀ c ∈ xs, p c = false) ∨ (∃ i : Nat, idx p xs = (i : Int) ∧ i < xs.length ∧ (∀ c ∈ xs.take i, p c = false) ∧ ∃ c, xs[i]? = some c ∧ p c = true) := by
  unfold idx
  cases h : xs.findIdx? p with
  | none => exact .inl ⟨rfl, by simpa [List.findIdx?_eq_none_iff] using h⟩
  | some i =>
    rw [List.findIdx?_eq_some_iff_getElem] at h
    obtain ⟨h1, h2, h3⟩ := h
    refine .inr ⟨i, rfl, h1, fun c hc => ?_, xs[i], List.getElem?_eq_getElem h1, h2⟩
    obtain ⟨j, hj⟩ := List.mem_iff_getElem?.1 hc
    rw [List.getElem?_take] at hj
    split at hj
    · rename_i hlt
      have := h3 j hlt
      have h4 := (List.getElem?_eq_some_iff.1 hj).2
      rw [h4] at this
      simpa using this
    · cases hj
theorem take_false_succ {α : Type} {p : α → Bool} {xs : List α} {i : Nat} {c : α} (h0 : ∀ c ∈ xs.take i, p c = false) (h : xs[i]? = some c) (hp : p c = false) : ∀ c ∈ xs.take (i + 1), p c = false := fun d hd => by
  rw [List.take_add_one, h] at hd
  rcases List.mem_append.1 hd with hd | hd
  · exact h0 d hd
  · simp at hd; subst hd; exact hp
theorem kept_first {α : Type} {p : α → Bool} {xs : List α} {i : Nat} {c : α} (h0 : ∀ c ∈ xs.take i, p c = false) (h : xs[i]? = some c) (hp : p c = true) : kept p xs (i + 1) = xs.take i := by
  rw [kept_succ h, hp]
  simp [kept]
  intro c hc
  exact h0 c hc

/-! ### structs of several parts: opened, shut -/
theorem J_all2 {A B : As} (k : Jk E (A :: B :: l) n F K) : Jk E (As.all [A, B] :: l) n F K := J_all k
theorem J_all3 {A B C : As} (k : Jk E (A :: B :: C :: l) n F K) : Jk E (As.all [A, B, C] :: l) n F K := J_all k
theorem J_all4 {A B C D : As} (k : Jk E (A :: B :: C :: D :: l) n F K) : Jk E (As.all [A, B, C, D] :: l) n F K := J_all k
theorem J_shut2 {α : Type} {f : α → As} {A B : As} {l1 : List As} (x : α) (hf : f x = As.all [A, B]) (hA : Pick A l l1) (hB : Pick B l1 m) (k : Jk E (As.ex f :: m) n F K) : Jk E l n F K :=
  J_pick hA (J_pick (.there hB) (J_pick (A := A) (.there .here) (J_all_in (m := [A, B]) (hf ▸ J_ex_in x k))))
theorem J_shut3 {α : Type} {f : α → As} {A B C : As} {l1 l2 : List As} (x : α) (hf : f x = As.all [A, B, C]) (hA : Pick A l l1) (hB : Pick B l1 l2) (hC : Pick C l2 m) (k : Jk E (As.ex f :: m) n F K) : Jk E l n F K :=
  J_pick hA (J_pick (.there hB) (J_pick (.there (.there hC)) (J_pick (A := B) (.there .here) (J_pick (A := A) (.there (.there .here)) (J_all_in (m := [A, B, C]) (hf ▸ J_ex_in x k))))))
theorem J_shut3' {α β : Type} {f : α → β → As} {A B C : As} {l1 l2 : List As} (x : α) (y : β) (hf : f x y = As.all [A, B, C]) (hA : Pick A l l1) (hB : Pick B l1 l2) (hC : Pick C l2 m) (k : Jk E (As.ex (fun x => As.ex (f x)) :: m) n F K) : Jk E l n F K :=
  J_shut3 (f := f x) y hf hA hB hC (J_ex_in x k)
theorem J_shut4 {α : Type} {f : α → As} {A B C D : As} {l1 l2 l3 : List As} (x : α) (hf : f x = As.all [A, B, C, D]) (hA : Pick A l l1) (hB : Pick B l1 l2) (hC : Pick C l2 l3) (hD : Pick D l3 m) (k : Jk E (As.ex f :: m) n F K) : Jk E l n F K :=
  J_pick hA (J_pick (.there hB) (J_pick (.there (.there hC)) (J_pick (.there (.there (.there hD))) (J_pick (A := C) (.there .here) (J_pick (A := B) (.there (.there .here)) (J_pick (A := A) (.there (.there (.there .here))) (J_all_in (m := [A, B, C, D]) (hf ▸ J_ex_in x k))))))))

/-! ### loops and cuts with more ghosts -/
def Again2 {α β : Type} (E : World) (R : α → β → Prop) (L : α → β → List As) (n : Nat) (G : α → β → Env) (μ : α → β → Nat) (x : α) (y : β) : Act → World → Prop :=
  Again E (fun p : α × β => R p.1 p.2) (fun p => L p.1 p.2) n (fun p => G p.1 p.2) (fun p => μ p.1 p.2) (x, y)
theorem J_loop2 {α β : Type} {c : Code} (R : α → β → Prop) (L : α → β → List As) (G : α → β → Env) (μ : α → β → Nat) (x : α) (y : β) (hR : R x y) (hl : Sub l (L x y)) (hF0 : Keep F (G x y))
    (round : ∀ x y, R x y → Jk E (L x y) n (G x y) (c.wp P (Exit.then (Again2 E R L n G μ x y) Q))) : Jk E l n F ((Code.loop c).wp P Q) :=
  J_loop (fun p : α × β => R p.1 p.2) (fun p => L p.1 p.2) (fun p => G p.1 p.2) (fun p => μ p.1 p.2) (x, y) hR hl hF0 fun p h => round p.1 p.2 h
theorem J_again2 {α β : Type} {R : α → β → Prop} {L : α → β → List As} {G : α → β → Env} {μ : α → β → Nat} {x : α} {y : β} (x' : α) (y' : β) (hμ : μ x' y' < μ x y) (hR : R x' y') (hl : Sub l (L x' y')) (hF0 : Keep F (G x' y')) : Jk E l n F (Again2 E R L n G μ x y) :=
  J_again (R := fun p : α × β => R p.1 p.2) (L := fun p => L p.1 p.2) (G := fun p => G p.1 p.2) (μ := fun p => μ p.1 p.2) (x := (x, y)) (x', y') hμ hR hl hF0
def At2 {α β : Type} (E : World) (L : α → β → List As) (n : Nat) (G : α → β → Env) : Act → World → Prop := fun a w => ∃ p : α × β, Sep E w (L p.1 p.2) ∧ Fr n (G p.1 p.2) a
theorem J_cut2 {α β : Type} {x' y' : Code} (L : α → β → List As) (G : α → β → Env)
    (hx : Jk E l n F (x'.wp P (Exit.then (At2 E L n G) Q))) (hy : ∀ x y, Jk E (L x y) n (G x y) (y'.wp P Q)) : Jk E l n F ((Code.seq x' y').wp P Q) :=
  J_cut (fun p : α × β => L p.1 p.2) (fun p => G p.1 p.2) hx fun p => hy p.1 p.2
theorem J_at2 {α β : Type} {L : α → β → List As} {G : α → β → Env} (x : α) (y : β) (hl : Sub l (L x y)) (hF0 : Keep F (G x y)) : Jk E l n F (At2 E L n G) :=
  J_at (L := fun p : α × β => L p.1 p.2) (G := fun p => G p.1 p.2) (x, y) hl hF0
def Again3 {α β γ : Type} (E : World) (R : α → β → γ → Prop) (L : α → β → γ → List As) (n : Nat) (G : α → β → γ → Env) (μ : α → β → γ → Nat) (x : α) (y : β) (z : γ) : Act → World → Prop :=
  Again E (fun p : α × β × γ => R p.1 p.2.1 p.2.2) (fun p => L p.1 p.2.1 p.2.2) n (fun p => G p.1 p.2.1 p.2.2) (fun p => μ p.1 p.2.1 p.2.2) (x, y, z)
theorem J_loop3 {α β γ : Type} {c : Code} (R : α → β → γ → Prop) (L : α → β → γ → List As) (G : α → β → γ → Env) (μ : α → β → γ → Nat) (x : α) (y : β) (z : γ) (hR : R x y z) (hl : Sub l (L x y z)) (hF0 : Keep F (G x y z))
    (round : ∀ x y z, R x y z → Jk E (L x y z) n (G x y z) (c.wp P (Exit.then (Again3 E R L n G μ x y z) Q))) : Jk E l n F ((Code.loop c).wp P Q) :=
  J_loop (fun p : α × β × γ => R p.1 p.2.1 p.2.2) (fun p => L p.1 p.2.1 p.2.2) (fun p => G p.1 p.2.1 p.2.2) (fun p => μ p.1 p.2.1 p.2.2) (x, y, z) hR hl hF0 fun p h => round p.1 p.2.1 p.2.2 h
theorem J_again3 {α β γ : Type} {R : α → β → γ → Prop} {L : α → β → γ → List As} {G : α → β → γ → Env} {μ : α → β → γ → Nat} {x : α} {y : β} {z : γ} (x' : α) (y' : β) (z' : γ) (hμ : μ x' y' z' < μ x y z) (hR : R x' y' z') (hl : Sub l (L x' y' z')) (hF0 : Keep F (G x' y' z')) : Jk E l n F (Again3 E R L n G μ x y z) :=
  J_again (R := fun p : α × β × γ => R p.1 p.2.1 p.2.2) (L := fun p => L p.1 p.2.1 p.2.2) (G := fun p => G p.1 p.2.1 p.2.2) (μ := fun p => μ p.1 p.2.1 p.2.2) (x := (x, y, z)) (x', y', z') hμ hR hl hF0
def At3 {α β γ : Type} (E : World) (L : α → β → γ → List As) (n : Nat) (G : α → β → γ → Env) : Act → World → Prop := fun a w => ∃ p : α × β × γ, Sep E w (L p.1 p.2.1 p.2.2) ∧ Fr n (G p.1 p.2.1 p.2.2) a
theorem J_cut3 {α β γ : Type} {x' y' : Code} (L : α → β → γ → List As) (G : α → β → γ → Env)
    (hx : Jk E l n F (x'.wp P (Exit.then (At3 E L n G) Q))) (hy : ∀ x y z, Jk E (L x y z) n (G x y z) (y'.wp P Q)) : Jk E l n F ((Code.seq x' y').wp P Q) :=
  J_cut (fun p : α × β × γ => L p.1 p.2.1 p.2.2) (fun p => G p.1 p.2.1 p.2.2) hx fun p => hy p.1 p.2.1 p.2.2
theorem J_at3 {α β γ : Type} {L : α → β → γ → List As} {G : α → β → γ → Env} (x : α) (y : β) (z : γ) (hl : Sub l (L x y z)) (hF0 : Keep F (G x y z)) : Jk E l n F (At3 E L n G) :=
  J_at (L := fun p : α × β × γ => L p.1 p.2.1 p.2.2) (G := fun p => G p.1 p.2.1 p.2.2) (x, y, z) hl hF0
def Again4 {α β γ δ : Type} (E : World) (R : α → β → γ → δ → Prop) (L : α → β → γ → δ → List As) (n : Nat) (G : α → β → γ → δ → Env) (μ : α → β → γ → δ → Nat) (x : α) (y : β) (z : γ) (r : δ) : Act → World → Prop :=
  Again E (fun p : α × β × γ × δ => R p.1 p.2.1 p.2.2.1 p.2.2.2) (fun p => L p.1 p.2.1 p.2.2.1 p.2.2.2) n (fun p => G p.1 p.2.1 p.2.2.1 p.2.2.2) (fun p => μ p.1 p.2.1 p.2.2.1 p.2.2.2) (x, y, z, r)
theorem J_loop4 {α β γ δ : Type} {c : Code} (R : α → β → γ → δ → Prop) (L : α → β → γ → δ → List As) (G : α → β → γ → δ → Env) (μ : α → β → γ → δ → Nat) (x : α) (y : β) (z : γ) (r : δ) (hR : R x y z r) (hl : Sub l (L x y z r)) (hF0 : Keep F (G x y z r))
    (round : ∀ x y z r, R x y z r → Jk E (L x y z r) n (G x y z r) (c.wp P (Exit.then (Again4 E R L n G μ x y z r) Q))) : Jk E l n F ((Code.loop c).wp P Q) :=
  J_loop (fun p : α × β × γ × δ => R p.1 p.2.1 p.2.2.1 p.2.2.2) (fun p => L p.1 p.2.1 p.2.2.1 p.2.2.2) (fun p => G p.1 p.2.1 p.2.2.1 p.2.2.2) (fun p => μ p.1 p.2.1 p.2.2.1 p.2.2.2) (x, y, z, r) hR hl hF0 fun p h => round p.1 p.2.1 p.2.2.1 p.2.2.2 h
theorem J_again4 {α β γ δ : Type} {R : α → β → γ → δ → Prop} {L : α → β → γ → δ → List As} {G : α → β → γ → δ → Env} {μ : α → β → γ → δ → Nat} {x : α} {y : β} {z : γ} {r : δ} (x' : α) (y' : β) (z' : γ) (r' : δ) (hμ : μ x' y' z' r' < μ x y z r) (hR : R x' y' z' r') (hl : Sub l (L x' y' z' r')) (hF0 : Keep F (G x' y' z' r')) : Jk E l n F (Again4 E R L n G μ x y z r) :=
  J_again (R := fun p : α × β × γ × δ => R p.1 p.2.1 p.2.2.1 p.2.2.2) (L := fun p => L p.1 p.2.1 p.2.2.1 p.2.2.2) (G := fun p => G p.1 p.2.1 p.2.2.1 p.2.2.2) (μ := fun p => μ p.1 p.2.1 p.2.2.1 p.2.2.2) (x := (x, y, z, r)) (x', y', z', r') hμ hR hl hF0
def At4 {α β γ δ : Type} (E : World) (L : α → β → γ → δ → List As) (n : Nat) (G : α → β → γ → δ → Env) : Act → World → Prop := fun a w => ∃ p : α × β × γ × δ, Sep E w (L p.1 p.2.1 p.2.2.1 p.2.2.2) ∧ Fr n (G p.1 p.2.1 p.2.2.1 p.2.2.2) a
theorem J_cut4 {α β γ δ : Type} {x' y' : Code} (L : α → β → γ → δ → List As) (G : α → β → γ → δ → Env)
    (hx : Jk E l n F (x'.wp P (Exit.then (At4 E L n G) Q))) (hy : ∀ x y z r, Jk E (L x y z r) n (G x y z r) (y'.wp P Q)) : Jk E l n F ((Code.seq x' y').wp P Q) :=
  J_cut (fun p : α × β × γ × δ => L p.1 p.2.1 p.2.2.1 p.2.2.2) (fun p => G p.1 p.2.1 p.2.2.1 p.2.2.2) hx fun p => hy p.1 p.2.1 p.2.2.1 p.2.2.2
theorem J_at4 {α β γ δ : Type} {L : α → β → γ → δ → List As} {G : α → β → γ → δ → Env} (x : α) (y : β) (z : γ) (r : δ) (hl : Sub l (L x y z r)) (hF0 : Keep F (G x y z r)) : Jk E l n F (At4 E L n G) :=
  J_at (L := fun p : α × β × γ × δ => L p.1 p.2.1 p.2.2.1 p.2.2.2) (G := fun p => G p.1 p.2.1 p.2.2.1 p.2.2.2) (x, y, z, r) hl hF0
def Again5 {α β γ δ ε : Type} (E : World) (R : α → β → γ → δ → ε → Prop) (L : α → β → γ → δ → ε → List As) (n : Nat) (G : α → β → γ → δ → ε → Env) (μ : α → β → γ → δ → ε → Nat) (x : α) (y : β) (z : γ) (r : δ) (q : ε) : Act → World → Prop :=
  Again E (fun p : α × β × γ × δ × ε => R p.1 p.2.1 p.2.2.1 p.2.2.2.1 p.2.2.2.2) (fun p => L p.1 p.2.1 p.2.2.1 p.2.2.2.1 p.2.2.2.2) n (fun p => G p.1 p.2.1 p.2.2.1 p.2.2.2.1 p.2.2.2.2) (fun p => μ p.1 p.2.1 p.2.2.1 p.2.2.2.1 p.2.2.2.2) (x, y, z, r, q)
theorem J_loop5 {α β γ δ ε : Type} {c : Code} (R : α → β → γ → δ → ε → Prop) (L : α → β → γ → δ → ε → List As) (G : α → β → γ → δ → ε → Env) (μ : α → β → γ → δ → ε → Nat) (x : α) (y : β) (z : γ) (r : δ) (q : ε) (hR : R x y z r q) (hl : Sub l (L x y z r q)) (hF0 : Keep F (G x y z r q))
    (round : ∀ x y z r q, R x y z r q → Jk E (L x y z r q) n (G x y z r q) (c.wp P (Exit.then (Again5 E R L n G μ x y z r q) Q))) : Jk E l n F ((Code.loop c).wp P Q) :=
  J_loop (fun p : α × β × γ × δ × ε => R p.1 p.2.1 p.2.2.1 p.2.2.2.1 p.2.2.2.2) (fun p => L p.1 p.2.1 p.2.2.1 p.2.2.2.1 p.2.2.2.2) (fun p => G p.1 p.2.1 p.2.2.1 p.2.2.2.1 p.2.2.2.2) (fun p => μ p.1 p.2.1 p.2.2.1 p.2.2.2.1 p.2.2.2.2) (x, y, z, r, q) hR hl hF0 fun p h => round p.1 p.2.1 p.2.2.1 p.2.2.2.1 p.2.2.2.2 h
theorem J_again5 {α β γ δ ε : Type} {R : α → β → γ → δ → ε → Prop} {L : α → β → γ → δ → ε → List As} {G : α → β → γ → δ → ε → Env} {μ : α → β → γ → δ → ε → Nat} {x : α} {y : β} {z : γ} {r : δ} {q : ε} (x' : α) (y' : β) (z' : γ) (r' : δ) (q' : ε) (hμ : μ x' y' z' r' q' < μ x y z r q) (hR : R x' y' z' r' q') (hl : Sub l (L x' y' z' r' q')) (hF0 : Keep F (G x' y' z' r' q')) : Jk E l n F (Again5 E R L n G μ x y z r q) :=
  J_again (R := fun p : α × β × γ × δ × ε => R p.1 p.2.1 p.2.2.1 p.2.2.2.1 p.2.2.2.2) (L := fun p => L p.1 p.2.1 p.2.2.1 p.2.2.2.1 p.2.2.2.2) (G := fun p => G p.1 p.2.1 p.2.2.1 p.2.2.2.1 p.2.2.2.2) (μ := fun p => μ p.1 p.2.1 p.2.2.1 p.2.2.2.1 p.2.2.2.2) (x := (x, y, z, r, q)) (x', y', z', r', q') hμ hR hl hF0
def At5 {α β γ δ ε : Type} (E : World) (L : α → β → γ → δ → ε → List As) (n : Nat) (G : α → β → γ → δ → ε → Env) : Act → World → Prop := fun a w => ∃ p : α × β × γ × δ × ε, Sep E w (L p.1 p.2.1 p.2.2.1 p.2.2.2.1 p.2.2.2.2) ∧ Fr n (G p.1 p.2.1 p.2.2.1 p.2.2.2.1 p.2.2.2.2) a
theorem J_cut5 {α β γ δ ε : Type} {x' y' : Code} (L : α → β → γ → δ → ε → List As) (G : α → β → γ → δ → ε → Env)
    (hx : Jk E l n F (x'.wp P (Exit.then (At5 E L n G) Q))) (hy : ∀ x y z r q, Jk E (L x y z r q) n (G x y z r q) (y'.wp P Q)) : Jk E l n F ((Code.seq x' y').wp P Q) :=
  J_cut (fun p : α × β × γ × δ × ε => L p.1 p.2.1 p.2.2.1 p.2.2.2.1 p.2.2.2.2) (fun p => G p.1 p.2.1 p.2.2.1 p.2.2.2.1 p.2.2.2.2) hx fun p => hy p.1 p.2.1 p.2.2.1 p.2.2.2.1 p.2.2.2.2
theorem J_at5 {α β γ δ ε : Type} {L : α → β → γ → δ → ε → List As} {G : α → β → γ → δ → ε → Env} (x : α) (y : β) (z : γ) (r : δ) (q : ε) (hl : Sub l (L x y z r q)) (hF0 : Keep F (G x y z r q)) : Jk E l n F (At5 E L n G) :=
  J_at (L := fun p : α × β × γ × δ × ε => L p.1 p.2.1 p.2.2.1 p.2.2.2.1 p.2.2.2.2) (G := fun p => G p.1 p.2.1 p.2.2.1 p.2.2.2.1 p.2.2.2.2) (x, y, z, r, q) hl hF0
/-- What hangs on an operation that did not run does not run. -/
theorem G_offU {dst : Option Tmp} {op : Op} {T : TypeId} {p : String} {e : Array Edge} {j t : Nat} {c : Bool} {og : Oper} (hj : ops[j]? = some og) (ht : og.dst = some t) (hb : get F t = some undef)
    {d : Nat} (hd : dst = some d) (hdn : Nat.blt d n = true) (k : Jk E l n ((d, undef) :: F) K) : Jop P ops Q ⟨dst, op, T, p, e, some (j, c)⟩ E l n F K := fun w a H hF => by
  have h0 : yielded ops a.tmps j = none := by simp [yielded, hj, ht, hF.get t _ hb, undef]
  have h1 : Region.wanted (⟨dst, op, T, p, e, some (j, c)⟩ : Oper) (yielded ops a.tmps) = false := by simp only [Region.wanted, h0]; cases c <;> rfl
  rw [h1]
  subst hd
  exact k w _ H (hF.put hdn)
theorem G_offU_ {op : Op} {T : TypeId} {p : String} {e : Array Edge} {j t : Nat} {c : Bool} {og : Oper} (hj : ops[j]? = some og) (ht : og.dst = some t) (hb : get F t = some undef)
    (k : Jk E l n F K) : Jop P ops Q ⟨none, op, T, p, e, some (j, c)⟩ E l n F K := fun w a H hF => by
  have h0 : yielded ops a.tmps j = none := by simp [yielded, hj, ht, hF.get t _ hb, undef]
  have h1 : Region.wanted (⟨none, op, T, p, e, some (j, c)⟩ : Oper) (yielded ops a.tmps) = false := by simp only [Region.wanted, h0]; cases c <;> rfl
  rw [h1]
  exact k w _ H hF
theorem S_offU {op : Op} {rest : List Oper} {j t : Nat} {c : Bool} {og : Oper} (hdn : Nat.blt d n = true) (hj : ops[j]? = some og) (ht : og.dst = some t) (hb : get F t = some undef)
    (k : Jk E l n ((d, undef) :: F) (stl P ops K rest)) : Jk E l n F (stl P ops K (⟨some d, op, T, p, e, some (j, c)⟩ :: rest)) := fun w a H hF => by
  have h0 : yielded ops a.tmps j = none := by simp [yielded, hj, ht, hF.get t _ hb, undef]
  have h1 : Region.wanted (⟨some d, op, T, p, e, some (j, c)⟩ : Oper) (yielded ops a.tmps) = false := by simp only [Region.wanted, h0]; cases c <;> rfl
  show wpStill P ops w (fun a' => K a' w) (_ :: rest) a
  unfold wpStill
  rw [h1]
  exact k w _ H (hF.put hdn)

/-! ### slices that are known to read -/
theorem J_readsB {sz : Nat} {xs : List (List Value)} (hr : ∀ w, Sep E w l → Reads w sz v xs)
    (k : Wf sz xs → ∀ a cap, v = .slice a xs.length cap → xs.length ≤ cap → cap ≤ maxLen → (xs ≠ [] → ∃ b o, a = some ⟨b, o, none⟩) → Jk E l n F K) : Jk E l n F K := fun w a H hF => by
  obtain ⟨a0, cap, h1, h2, h3, h4, h5⟩ := (hr w H).is
  refine k (hr w H).wf a0 cap h1 h2 h3 (fun hne => ?_) w a H hF
  cases a0 with
  | none => exact absurd (h4 rfl).1 hne
  | some ad =>
    obtain ⟨b, o, sp⟩ := ad
    have := (h5 _ rfl).1
    simp only at this
    subst this
    exact ⟨b, o, rfl⟩
theorem v_loadR {b o len cap sz by_ : Nat} {i : Int} {xs : List (List Value)} {c : List Value} {zs : List Value} (hx : evl F x = some (.pointer (some ⟨b, o + i.toNat * sz, none⟩))) (hT : Ty P t sz by_ true zs)
    (hr : ∀ w, Sep E w l → Reads w sz (.slice (some ⟨b, o, none⟩) len cap) xs) (hi : xs[i.toNat]? = some c) : Vl P ⟨dst, .load t x, T, p, e, g⟩ E l F n (.agg c.toArray) := fun w a H hF => by
  have hl : c.length = sz := ((hr w H).wf c (List.mem_of_getElem? hi)).1
  exact v_loadAW hx hT hl (fun w H j u hu => by
    have hj : j < sz := by have := (List.getElem?_eq_some_iff.1 hu).1; omega
    rw [Nat.add_assoc, (hr w H).at hi hj, hu]) w a H hF
theorem v_loadR1 {b o len cap by_ : Nat} {i : Int} {xs : List (List Value)} {zs : List Value} (hx : evl F x = some (.pointer (some ⟨b, o + i.toNat * 1, none⟩))) (hT : Ty P t 1 by_ false zs)
    (hr : ∀ w, Sep E w l → Reads w 1 (.slice (some ⟨b, o, none⟩) len cap) xs) (hi : xs[i.toNat]? = some [v]) : Vl P ⟨dst, .load t x, T, p, e, g⟩ E l F n (v) :=
  v_loadW hx hT (fun w H => by have := (hr w H).at hi (k := 0) (by omega); simpa using this)
theorem v_loadRF {b o len cap sz sz' by_ q : Nat} {i : Int} {xs : List (List Value)} {c : List Value} {zs : List Value} (hx : evl F x = some (.pointer (some ⟨b, o + i.toNat * sz + q, none⟩))) (hT : Ty P t sz' by_ false zs)
    (hr : ∀ w, Sep E w l → Reads w sz (.slice (some ⟨b, o, none⟩) len cap) xs) (hi : xs[i.toNat]? = some c) (hc : c[q]? = some v) : Vl P ⟨dst, .load t x, T, p, e, g⟩ E l F n (v) := fun w a H hF => by
  have hl : c.length = sz := ((hr w H).wf c (List.mem_of_getElem? hi)).1
  have hq : q < sz := by have := (List.getElem?_eq_some_iff.1 hc).1; omega
  exact v_loadW hx hT (fun w H => by rw [Nat.add_assoc, (hr w H).at hi hq, hc]) w a H hF
theorem v_loadRFA {b o len cap sz sz' by_ q : Nat} {i : Int} {xs : List (List Value)} {c vs : List Value} {zs : List Value} (hx : evl F x = some (.pointer (some ⟨b, o + i.toNat * sz + q, none⟩))) (hT : Ty P t sz' by_ true zs)
    (hr : ∀ w, Sep E w l → Reads w sz (.slice (some ⟨b, o, none⟩) len cap) xs) (hi : xs[i.toNat]? = some c) (hc : Cut q sz' c vs) : Vl P ⟨dst, .load t x, T, p, e, g⟩ E l F n (.agg vs.toArray) := fun w a H hF => by
  have hl : c.length = sz := ((hr w H).wf c (List.mem_of_getElem? hi)).1
  exact v_loadAW hx hT hc.eq.1 (fun w H j u hu => by
    have hj : j < sz' := by have := (List.getElem?_eq_some_iff.1 hu).1; rw [hc.eq.1] at this; exact this
    have h1 := hc.eq.2 j hj
    rw [hu] at h1
    have h2 : q + j < sz := by have := (List.getElem?_eq_some_iff.1 h1).1; omega
    rw [show o + i.toNat * sz + q + j = o + (i.toNat * sz + (q + j)) by omega, (hr w H).at hi h2, h1]) w a H hF
theorem Reads.old {W w : World} {sz : Nat} {xs : List (List Value)} (h : Reads W sz v xs) (hh : Has (old W) l) (H : Sep E w l) : Reads w sz v xs := by
  obtain ⟨S, h1, _, h3⟩ := H.has hh
  obtain ⟨a, c, g1, g2, g3, g4, g5⟩ := h.is
  refine ⟨h.wf, a, c, g1, g2, g3, g4, fun ad had => ⟨(g5 ad had).1, fun j u hu => ?_⟩⟩
  have hc := (g5 ad had).2 j u hu
  have hb : (ad.add j).block < W.heap.size := by
    simp only [World.cell?] at hc
    split at hc
    · rename_i hq; exact (Array.getElem?_eq_some_iff.1 hq).1
    · cases hc
  rw [← hc]
  simp only [World.cell?, h3 _ hb]

theorem J_asTo {A B : As} (h : A = B) (k : Jk E (B :: l) n F K) : Jk E (A :: l) n F K := h ▸ k
/-! ### guarded operations in drawn orders -/
theorem A_takeOn {i : Nat} {o : Oper} {v : Value} {d : Nat} {fuel : Nat} {listed : Array Bool} (ho : ops[i]? = some o) (hd : o.dst = some d) (hdn : Nat.blt d n = true) {j t : Nat} {c : Bool} {og : Oper} (hg : o.guard = some (j, c)) (hj : ops[j]? = some og) (ht : og.dst = some t) (hb : get F t = some (.bool c))
    (hs : Region.noSelect ops = true) (hf : Region.free .any ops listed i = true) (hr : (Region.ready .any ops listed).contains i = true)
    (hQ : ∀ c a v w, Q (.panic c) (a.put (some d) v) w → Q (.panic c) a w) (hv : Pur P o F n v)
    (k : Jk E l n ((d, v) :: F) (wpAny P .any ops Q fuel (listed.setIfInBounds i true))) : Jk E l n F (wpAny P .any ops Q (fuel + 1) listed) := fun w a H hF => by
  have h0 : yielded ops a.tmps j = some c := by simp [yielded, hj, ht, hF.get t _ hb]
  exact wpAny_take ho hs hf hr (by rw [hd]; exact fun c a w => hQ c a v w) (Or.inl ⟨by simp [Region.wanted, hg, h0], hv a hF⟩) (by rw [hd]; exact k w _ H (hF.put hdn))
theorem A_takeOff {i : Nat} {o : Oper} {d : Nat} {fuel : Nat} {listed : Array Bool} (ho : ops[i]? = some o) (hd : o.dst = some d) (hdn : Nat.blt d n = true) {j t : Nat} {b c : Bool} {og : Oper} (hg : o.guard = some (j, c)) (hj : ops[j]? = some og) (ht : og.dst = some t) (hb : get F t = some (.bool b)) (hc : (b == c) = false)
    (hs : Region.noSelect ops = true) (hf : Region.free .any ops listed i = true) (hr : (Region.ready .any ops listed).contains i = true)
    (hQ : ∀ c a v w, Q (.panic c) (a.put (some d) v) w → Q (.panic c) a w)
    (k : Jk E l n ((d, undef) :: F) (wpAny P .any ops Q fuel (listed.setIfInBounds i true))) : Jk E l n F (wpAny P .any ops Q (fuel + 1) listed) := fun w a H hF => by
  have h0 : yielded ops a.tmps j = some b := by simp [yielded, hj, ht, hF.get t _ hb]
  have h1 : Region.wanted o (yielded ops a.tmps) = false := by simp only [Region.wanted, hg, h0]; cases b <;> cases c <;> first | rfl | (simp at hc)
  exact wpAny_take ho hs hf hr (by rw [hd]; exact fun c a w => hQ c a undef w) (Or.inr ⟨h1, rfl⟩) (by rw [hd]; exact k w _ H (hF.put hdn))
theorem A_takeU {i : Nat} {o : Oper} {d : Nat} {fuel : Nat} {listed : Array Bool} (ho : ops[i]? = some o) (hd : o.dst = some d) (hdn : Nat.blt d n = true) {j t : Nat} {c : Bool} {og : Oper} (hg : o.guard = some (j, c)) (hj : ops[j]? = some og) (ht : og.dst = some t) (hb : get F t = some (undef))
    (hs : Region.noSelect ops = true) (hf : Region.free .any ops listed i = true) (hr : (Region.ready .any ops listed).contains i = true)
    (hQ : ∀ c a v w, Q (.panic c) (a.put (some d) v) w → Q (.panic c) a w)
    (k : Jk E l n ((d, undef) :: F) (wpAny P .any ops Q fuel (listed.setIfInBounds i true))) : Jk E l n F (wpAny P .any ops Q (fuel + 1) listed) := fun w a H hF => by
  have h0 : yielded ops a.tmps j = none := by simp [yielded, hj, ht, hF.get t _ hb, undef]
  have h1 : Region.wanted o (yielded ops a.tmps) = false := by simp only [Region.wanted, hg, h0]; cases c <;> rfl
  exact wpAny_take ho hs hf hr (by rw [hd]; exact fun c a w => hQ c a undef w) (Or.inr ⟨h1, rfl⟩) (by rw [hd]; exact k w _ H (hF.put hdn))

/-- What an operation is to show, as of a frame and a world. -/
def JopK (P : Program) (ops : Array Oper) (Q : Exit → Act → World → Prop) (o : Oper) (K : Act → World → Prop) : Act → World → Prop := fun a w =>
  if Region.wanted o (yielded ops a.tmps) = true then o.wp P a w K Q else K (a.put o.dst undef) w
theorem Jop_out {o : Oper} (k : Jk E l n F (JopK P ops Q o K)) : Jop P ops Q o E l n F K := k
theorem Jop_in {o : Oper} (k : Jop P ops Q o E l n F K) : Jk E l n F (JopK P ops Q o K) := k

/-! ### make; division; bits -/
theorem madeCells_zero {zs : List Value} {z : Value} {k : Nat} (h : z.cells.toList = zs) : madeCells z.cells (k * zs.length) = Builtin.zeroCells zs.toArray k := by
  subst h
  simp [madeCells, Builtin.zeroCells]
theorem x_make {el : TypeId} {sz by_ len cap : Nat} {agg : Bool} {zs : List Value} (hx : evl F x = some (.int .i64 (len : Int))) (hy : evl F y = some (.int .i64 (cap : Int))) (ht : P.underlying t = some (.slice el)) (hT : Ty P el sz by_ agg zs) (hzl : zs.length = sz) (h1 : ones zs = true)
    (hlc : len ≤ cap) (hb : cap ≤ 1000000) (hbb : Nat.ble by_ 100000 = true) (hd : Nat.blt d n = true)
    (k : ∀ v', Jk E (row el sz v' (List.replicate len zs) :: l) n ((d, v') :: F) K) :
    Jop P ops Q ⟨some d, .makeSlice t x y, T, p, e, none⟩ E l n F K := fun w a H hF => by
  have hw : Region.wanted (⟨some d, .makeSlice t x y, T, p, e, none⟩ : Oper) (yielded ops a.tmps) = true := rfl
  rw [if_pos hw]
  unfold Oper.wp
  obtain ⟨i, z, hi, hi1, hi2, hi3, hi4⟩ := hT.get
  have hbb' : by_ ≤ 100000 := by simpa using hbb
  have hmul : by_ * cap ≤ 100000 * 1000000 := Nat.mul_le_mul hbb' hb
  have hrun := run_make (P := P) w t el i z ht hi hi3 .i64 .i64 (len : Int) (cap : Int) (by omega) (by omega) (by rw [hi2, ← Int.natCast_mul]; omega) (by omega)
  have hmc : madeCells z.cells ((cap : Int).toNat * i.size) = Builtin.zeroCells zs.toArray cap := by
    rw [hi1, ← hzl]; exact madeCells_zero hi4
  rw [hmc] at hrun
  simp only [Int.toNat_natCast] at hrun
  have : (execOp a.eval ⟨some d, .makeSlice t x y, T, p, e, none⟩).run P w = .ok (.value (.slice (some ⟨w.heap.size, 0, none⟩) len cap)) (w.alloc (.cells (Builtin.zeroCells zs.toArray cap) el)) := by
    simp [execOp, hF.evl hx, hF.evl hy, hrun]
  rw [this]
  have hwf : ∀ q, Wf sz (List.replicate q zs) := fun q y hy => by rw [List.eq_of_mem_replicate hy]; exact ⟨hzl, h1⟩
  have hr := row_new (el := el) (w := w) (C := Builtin.zeroCells zs.toArray cap) (cap := cap) (hwf len) (by simpa using hlc) (by simp [maxLen]; omega) (by simp [Builtin.zeroCells, hzl])
    (by rw [zeroCells_flat, take_take_flatten (hwf cap), List.take_replicate]; simp [Nat.min_eq_left hlc])
  rw [List.length_replicate] at hr
  exact k _ _ _ (H.add alloc_same (fun _ hb => alloc_old hb) hr (fun b hb => by omega)) (hF.put hd)
variable {kd : IntKind} {a b : Int} {ty : TypeId}
theorem p_neg64 {a : Int} (hx : evl F x = some (.int .i64 a)) (h : -9223372036854775807 ≤ a ∧ a ≤ 9223372036854775807) : Pur P ⟨dst, .unOp .neg t x, T, p, e, g⟩ F n (.int .i64 (-a)) := fun A hF w => by
  have := wrap64_of (a := -a) (by omega)
  simp [execOp, hF.evl hx, Op.unary, Op.intArith, this]
theorem p_rem (hx : evl F x = some (.int kd a)) (hy : evl F y = some (.int kd b)) (h0 : b ≠ 0) : Pur P ⟨dst, .binOp .rem t x y ty, T, p, e, g⟩ F n (.int kd (a.tmod b)) := fun A hF w => by
  simp [execOp, hF.evl hx, hF.evl hy, eqGuard_rem, binOp_rem, Op.intDiv, h0]
theorem p_quo (hx : evl F x = some (.int kd a)) (hy : evl F y = some (.int kd b)) (h0 : b ≠ 0) : Pur P ⟨dst, .binOp .quo t x y ty, T, p, e, g⟩ F n (.int kd (kd.wrap (a.tdiv b))) := fun A hF w => by
  simp [execOp, hF.evl hx, hF.evl hy, eqGuard_quo, binOp_quo, Op.intDiv, h0]
theorem p_xor (hx : evl F x = some (.int kd a)) (hy : evl F y = some (.int kd b)) : Pur P ⟨dst, .binOp .xor t x y ty, T, p, e, g⟩ F n (.int kd (bits .xor kd a b)) := fun A hF w => by
  simp [execOp, hF.evl hx, hF.evl hy, eqGuard_xor, binOp_xor, intBits_xor]
theorem p_andNot (hx : evl F x = some (.int kd a)) (hy : evl F y = some (.int kd b)) : Pur P ⟨dst, .binOp .andNot t x y ty, T, p, e, g⟩ F n (.int kd (bits .andNot kd a b)) := fun A hF w => by
  simp [execOp, hF.evl hx, hF.evl hy, eqGuard_andNot, binOp_andNot, intBits_andNot]
theorem p_shl {ky : IntKind} (hx : evl F x = some (.int kd a)) (hy : evl F y = some (.int ky b)) (h0 : 0 ≤ b) (h1 : b ≤ kd.bits) : Pur P ⟨dst, .binOp .shl t x y ty, T, p, e, g⟩ F n (.int kd (kd.wrap (a * 2 ^ b.toNat))) := fun A hF w => by
  simp [execOp, hF.evl hx, hF.evl hy, eqGuard_shl, binOp_shl, shift_shl _ _ _ _ h0 h1]
theorem p_shr {ky : IntKind} (hx : evl F x = some (.int kd a)) (hy : evl F y = some (.int ky b)) (h0 : 0 ≤ b) (h1 : b ≤ kd.bits) : Pur P ⟨dst, .binOp .shr t x y ty, T, p, e, g⟩ F n (.int kd (a / 2 ^ b.toNat)) := fun A hF w => by
  simp [execOp, hF.evl hx, hF.evl hy, eqGuard_shr, binOp_shr, shift_shr _ _ _ _ h0 h1]
end
section
variable {P : Program} {ops : Array Oper} {Q : Exit → Act → World → Prop} {E : World} {l : List As} {n : Nat} {F : Env} {o : Oper} {v : Value} {d : Nat} {fuel : Nat} {listed : Array Bool}
theorem ap (i : Nat) (ho : ops[i]? = some o) (hd : o.dst = some d) (hdn : Nat.blt d n = true) (hg : o.guard = none) (hv : Pur P o F n v)
    (k : Jk E l n ((d, v) :: F) (wpAny P .any ops Q fuel (listed.setIfInBounds i true)))
    (hs : Region.noSelect ops = true := by kernel_rfl) (hf : Region.free .any ops listed i = true := by kernel_rfl) (hr : (Region.ready .any ops listed).contains i = true := by kernel_rfl)
    (hQ : ∀ c a v w, Q (.panic c) (a.put (some d) v) w → Q (.panic c) a w := by exact fun _ _ _ _ h => h) : Jk E l n F (wpAny P .any ops Q (fuel + 1) listed) := A_take ho hd hdn hg hs hf hr hQ hv k
end
section
variable {E : World} {l : List As} {n : Nat} {F : Env} {K : Act → World → Prop} {el : TypeId} {sz d : Nat} {xs : List (List Value)}
/-- A new row, its slice taken apart. -/
theorem JR (k : ∀ a c, Wf sz xs → xs.length ≤ c → c ≤ maxLen → (xs ≠ [] → ∃ b o, a = some ⟨b, o, none⟩) → Jk E (row el sz (.slice a xs.length c) xs :: l) n ((d, .slice a xs.length c) :: F) K) (v : Value) : Jk E (row el sz v xs :: l) n ((d, v) :: F) K :=
  J_row .here fun hw a c hv hl hm hz => by subst hv; exact k a c hw hl hm hz
theorem JE (ys : List (List Value)) (h : xs = ys) (k : ∀ a c, Wf sz ys → ys.length ≤ c → c ≤ maxLen → (ys ≠ [] → ∃ b o, a = some ⟨b, o, none⟩) → Jk E (row el sz (.slice a ys.length c) ys :: l) n ((d, .slice a ys.length c) :: F) K) (v : Value) : Jk E (row el sz v xs :: l) n ((d, v) :: F) K := by
  subst h; exact JR k v
end
end Go.Pse
