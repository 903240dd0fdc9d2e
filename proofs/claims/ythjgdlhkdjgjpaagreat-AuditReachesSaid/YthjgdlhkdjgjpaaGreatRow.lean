/-
  Own layer, part 4: rows (what a slice leads to), append, literals, parts of slices; returns; '==' of structs of plain cells.
-/
import Derived.Test.YthjgdlhkdjgjpaaGreatOps
import Derived.Laws.StructEq
namespace Go.Pse
open Go.RowKit

/-- Elements of sz plain cells each. -/
def Wf (sz : Nat) (xs : List (List Value)) : Prop := ∀ x ∈ xs, x.length = sz ∧ ones x = true
theorem Wf.nil {sz : Nat} : Wf sz [] := fun _ h => by cases h
theorem Wf.cons {sz : Nat} {x : List Value} {xs : List (List Value)} (h1 : x.length = sz) (h2 : ones x = true) (h : Wf sz xs) : Wf sz (x :: xs) := fun y hy => by
  rcases List.mem_cons.1 hy with rfl | hy
  · exact ⟨h1, h2⟩
  · exact h y hy
theorem Wf.append {sz : Nat} {xs ys : List (List Value)} (h1 : Wf sz xs) (h2 : Wf sz ys) : Wf sz (xs ++ ys) := fun y hy => (List.mem_append.1 hy).elim (h1 y) (h2 y)
theorem Wf.sub {sz : Nat} {xs ys : List (List Value)} (h : Wf sz xs) (hs : ∀ y ∈ ys, y ∈ xs) : Wf sz ys := fun y hy => h y (hs y hy)
theorem Wf.len {sz : Nat} : ∀ {xs : List (List Value)}, Wf sz xs → xs.flatten.length = xs.length * sz
  | [], _ => by simp
  | x :: xs, h => by
    have h1 := (h x (by simp)).1
    have h2 : Wf sz xs := h.sub fun y hy => List.mem_cons_of_mem _ hy
    simp [h1, h2.len, Nat.add_mul, Nat.add_comm]
theorem Wf.get {sz : Nat} : ∀ {xs : List (List Value)} {i k : Nat} {x : List Value}, Wf sz xs → xs[i]? = some x → k < sz → xs.flatten[i * sz + k]? = x[k]?
  | x :: xs, 0, k, y, h, hi, hk => by
    have h1 := (h x (by simp)).1
    simp at hi
    subst hi
    simp only [List.flatten_cons, Nat.zero_mul, Nat.zero_add]
    rw [List.getElem?_append_left (by omega)]
  | x :: xs, i + 1, k, y, h, hi, hk => by
    have h1 := (h x (by simp)).1
    have h2 : Wf sz xs := h.sub fun y hy => List.mem_cons_of_mem _ hy
    simp only [List.flatten_cons]
    rw [List.getElem?_append_right (by rw [h1, Nat.add_mul]; omega), h1, show (i + 1) * sz + k - sz = i * sz + k by rw [Nat.add_mul]; omega]
    exact h2.get (by simpa using hi) hk
theorem Wf.one {sz : Nat} {xs : List (List Value)} (h : Wf sz xs) : ∀ u ∈ xs.flatten, u.oneCell' = true := fun u hu => by
  obtain ⟨x, hx, hux⟩ := List.mem_flatten.1 hu
  exact List.all_eq_true.1 (h x hx).2 u hux

def row (e : TypeId) (sz : Nat) (v : Value) (xs : List (List Value)) : As where
  h w S := Wf sz xs ∧
    ((v = .slice none 0 0 ∧ xs = [] ∧ ∀ k, ¬ S k) ∨
     ∃ b o cap C, v = .slice (some ⟨b, o, none⟩) xs.length cap ∧ w.heap[b]? = some (.cells C e (0, 0)) ∧ xs.length ≤ cap ∧ cap ≤ maxLen ∧ o + cap * sz ≤ C.size ∧ (C.toList.drop o).take (xs.length * sz) = xs.flatten ∧ ∀ k, S k ↔ k.1 = b)
  loc := fun ⟨hw, h⟩ hs => ⟨hw, by
    rcases h with h | ⟨b, o, cap, C, h1, h2, h3, h4, h5, h6, h7⟩
    · exact .inl h
    · exact .inr ⟨b, o, cap, C, h1, (heap_of_lk fun i => hs (b, i) ((h7 (b, i)).2 rfl)).trans h2, h3, h4, h5, h6, h7⟩⟩
  lt := fun ⟨_, h⟩ hb => by
    rcases h with h | ⟨b, o, cap, C, h1, h2, h3, h4, h5, h6, h7⟩
    · exact (h.2.2 _ hb).elim
    · rw [(h7 _).1 hb]; exact (Array.getElem?_eq_some_iff.1 h2).1

/-- A slice value that reads as the elements xs. -/
structure Reads (w : World) (sz : Nat) (v : Value) (xs : List (List Value)) : Prop where
  wf : Wf sz xs
  is : ∃ a cap, v = .slice a xs.length cap ∧ xs.length ≤ cap ∧ cap ≤ maxLen ∧ (a = none → xs = [] ∧ cap = 0) ∧ ∀ ad, a = some ad → ad.spot = none ∧ ∀ j u, xs.flatten[j]? = some u → w.cell? (ad.add j) = some u

theorem row_reads {w : World} {e : TypeId} {sz : Nat} {v : Value} {xs : List (List Value)} {S : Loc → Prop} (h : (row e sz v xs).h w S) : Reads w sz v xs := by
  obtain ⟨hw, h⟩ := h
  refine ⟨hw, ?_⟩
  rcases h with ⟨rfl, rfl, _⟩ | ⟨b, o, cap, C, rfl, h2, h3, h4, h5, h6, h7⟩
  · exact ⟨none, 0, rfl, Nat.le_refl _, by simp [maxLen], fun _ => ⟨rfl, rfl⟩, (fun ad h => by cases h)⟩
  · refine ⟨_, cap, rfl, h3, h4, (fun h => by cases h), fun ad h => ?_⟩
    cases h
    refine ⟨rfl, fun j u hu => ?_⟩
    rw [Addr.add_lit]
    simp only [World.cell?, h2]
    have h8 : j < xs.length * sz := by have := (List.getElem?_eq_some_iff.1 hu).1; rwa [hw.len] at this
    rw [← h6, List.getElem?_take, if_pos h8, List.getElem?_drop] at hu
    simpa using hu

section
variable {P : Program} {ops : Array Oper} {Q : Exit → Act → World → Prop} {E : World} {l l' m : List As} {n : Nat} {F : Env} {K : Act → World → Prop}
variable {d : Nat} {T : TypeId} {p : String} {e : Array Edge} {g : Option (Nat × Bool)} {dst : Option Tmp} {t : TypeId} {x y z : Operand} {u v : Value}

/-- A row's value, laid open. -/
theorem J_row {el : TypeId} {sz : Nat} {xs : List (List Value)} (hh : Has (row el sz v xs) l)
    (k : Wf sz xs → ∀ a cap, v = .slice a xs.length cap → xs.length ≤ cap → cap ≤ maxLen → (xs ≠ [] → ∃ b o, a = some ⟨b, o, none⟩) → Jk E l n F K) : Jk E l n F K := fun w a H hF => by
  obtain ⟨S, hw, h⟩ := H.has hh
  rcases h with ⟨h1, h2, _⟩ | ⟨b, o, cap, C, h1, h2, h3, h4, h5, h6, h7⟩
  · subst h2; exact k hw none 0 h1 (Nat.le_refl _) (by simp [maxLen]) (fun h => absurd rfl h) w a H hF
  · exact k hw _ cap h1 h3 h4 (fun _ => ⟨b, o, rfl⟩) w a H hF
theorem sep_reads {el : TypeId} {sz : Nat} {xs : List (List Value)} {w : World} (hh : Has (row el sz v xs) l) (H : Sep E w l) : Reads w sz v xs := let ⟨_, hS⟩ := H.has hh; row_reads hS
theorem Reads.at {w : World} {sz : Nat} {xs : List (List Value)} {b o len cap i k : Nat} {c : List Value} (h : Reads w sz (.slice (some ⟨b, o, none⟩) len cap) xs) (hi : xs[i]? = some c) (hk : k < sz) : w.cell? ⟨b, o + (i * sz + k), none⟩ = c[k]? := by
  obtain ⟨a, cap', hv, _, _, _, hc⟩ := h.is
  cases hv
  have h1 := h.wf.get hi hk
  have h2 : c.length = sz := (h.wf c (List.mem_of_getElem? hi)).1
  have h3 : c[k]? = some (c[k]'(by omega)) := List.getElem?_eq_getElem (by omega)
  have := (hc _ rfl).2 (i * sz + k) _ (h1.trans h3)
  rw [Addr.add_lit] at this
  rw [this, h3]

/-- A load of a cell of an element: by what reads there. -/
theorem v_loadW {b o sz by_ : Nat} {zs : List Value} (hx : evl F x = some (.pointer (some ⟨b, o, none⟩))) (hT : Ty P t sz by_ false zs) (hc : ∀ w, Sep E w l → w.cell? ⟨b, o, none⟩ = some v) : Vl P ⟨dst, .load t x, T, p, e, g⟩ E l F n (v) := fun w a H hF => by
  simp [execOp, hF.evl hx, Instr.loadAt, Instr.sureAddr, loadVar, hT.isAgg, hc w H]
theorem v_loadAW {b o sz by_ : Nat} {vs zs : List Value} (hx : evl F x = some (.pointer (some ⟨b, o, none⟩))) (hT : Ty P t sz by_ true zs) (hl : vs.length = sz) (hc : ∀ w, Sep E w l → ∀ j u, vs[j]? = some u → w.cell? ⟨b, o + j, none⟩ = some u) : Vl P ⟨dst, .load t x, T, p, e, g⟩ E l F n (.agg vs.toArray) := fun w a H hF => by
  have hl : (loadCells ⟨b, o, none⟩ sz).run P w = .ok vs.toArray w := by
    rw [← hl]
    exact run_loadCells_list w _ vs fun j u hu => by rw [Addr.add_lit]; exact hc w H j u hu
  simp [execOp, hF.evl hx, Instr.loadAt, Instr.sureAddr, loadVar, hT.isAgg, hT.sizeOf, hl]
/-- An element of a row, whole. -/
theorem v_loadE {b o len cap sz by_ : Nat} {i : Int} {el : TypeId} {xs : List (List Value)} {c : List Value} {zs : List Value} (hx : evl F x = some (.pointer (some ⟨b, o + i.toNat * sz, none⟩))) (hT : Ty P t sz by_ true zs)
    (hh : Has (row el sz (.slice (some ⟨b, o, none⟩) len cap) xs) l) (hi : xs[i.toNat]? = some c) : Vl P ⟨dst, .load t x, T, p, e, g⟩ E l F n (.agg c.toArray) := fun w a H hF => by
  have hr := sep_reads hh H
  have hl : c.length = sz := (hr.wf c (List.mem_of_getElem? hi)).1
  exact v_loadAW hx hT hl (fun w H j u hu => by
    have hj : j < sz := by have := (List.getElem?_eq_some_iff.1 hu).1; omega
    rw [Nat.add_assoc, (sep_reads hh H).at hi hj, hu]) w a H hF
theorem v_loadE1 {b o len cap by_ : Nat} {i : Int} {el : TypeId} {xs : List (List Value)} {zs : List Value} (hx : evl F x = some (.pointer (some ⟨b, o + i.toNat * 1, none⟩))) (hT : Ty P t 1 by_ false zs)
    (hh : Has (row el 1 (.slice (some ⟨b, o, none⟩) len cap) xs) l) (hi : xs[i.toNat]? = some [v]) : Vl P ⟨dst, .load t x, T, p, e, g⟩ E l F n (v) :=
  v_loadW hx hT (fun w H => by have := (sep_reads hh H).at hi (k := 0) (by omega); simpa using this)
/-- A field of an element of a row: one cell. -/
theorem v_loadF {b o len cap sz sz' by_ q : Nat} {i : Int} {el : TypeId} {xs : List (List Value)} {c : List Value} {zs : List Value} (hx : evl F x = some (.pointer (some ⟨b, o + i.toNat * sz + q, none⟩))) (hT : Ty P t sz' by_ false zs)
    (hh : Has (row el sz (.slice (some ⟨b, o, none⟩) len cap) xs) l) (hi : xs[i.toNat]? = some c) (hc : c[q]? = some v) : Vl P ⟨dst, .load t x, T, p, e, g⟩ E l F n (v) := fun w a H hF => by
  have hr := sep_reads hh H
  have hl : c.length = sz := (hr.wf c (List.mem_of_getElem? hi)).1
  have hq : q < sz := by have := (List.getElem?_eq_some_iff.1 hc).1; omega
  exact v_loadW hx hT (fun w H => by rw [Nat.add_assoc, (sep_reads hh H).at hi hq, hc]) w a H hF
/-- A field of an element of a row: a struct. -/
theorem v_loadFA {b o len cap sz sz' by_ q : Nat} {i : Int} {el : TypeId} {xs : List (List Value)} {c vs : List Value} {zs : List Value} (hx : evl F x = some (.pointer (some ⟨b, o + i.toNat * sz + q, none⟩))) (hT : Ty P t sz' by_ true zs)
    (hh : Has (row el sz (.slice (some ⟨b, o, none⟩) len cap) xs) l) (hi : xs[i.toNat]? = some c) (hc : Cut q sz' c vs) : Vl P ⟨dst, .load t x, T, p, e, g⟩ E l F n (.agg vs.toArray) := fun w a H hF => by
  have hr := sep_reads hh H
  have hl : c.length = sz := (hr.wf c (List.mem_of_getElem? hi)).1
  exact v_loadAW hx hT hc.eq.1 (fun w H j u hu => by
    have hj : j < sz' := by have := (List.getElem?_eq_some_iff.1 hu).1; rw [hc.eq.1] at this; exact this
    have h1 := hc.eq.2 j hj
    rw [hu] at h1
    have h2 : q + j < sz := by have := (List.getElem?_eq_some_iff.1 h1).1; omega
    rw [show o + i.toNat * sz + q + j = o + (i.toNat * sz + (q + j)) by omega, (sep_reads hh H).at hi h2, h1]) w a H hF

/-! ### a part of a slice -/
def so (o sz lo cap : Nat) : Nat := if cap = lo then o else o + lo * sz
theorem p_slice {a0 : Option Addr} {len cap sz by_ : Nat} {lo hi : Int} {lo' hi' : Option Operand} {el : TypeId} {agg : Bool} {zs : List Value} (hx : evl F x = some (.slice a0 len cap)) (ht : P.underlying t = some (.slice el)) (hT : Ty P el sz by_ agg zs)
    (hlo : (match lo' with | some q => evl F q | none => some (.int .i64 0)) = some (.int .i64 lo)) (hhi : (match hi' with | some q => evl F q | none => some (.int .i64 len)) = some (.int .i64 hi))
    (h0 : 0 ≤ lo) (h1 : lo ≤ hi) (h2 : hi ≤ cap) :
    Pur P ⟨dst, .slice t x lo' hi' none, T, p, e, g⟩ F n (.slice (if cap = lo.toNat then a0 else a0.map (·.add (lo.toNat * sz))) (hi.toNat - lo.toNat) (cap - lo.toNat)) := fun a hF w => by
  have el1 : ∀ q, lo' = some q → a.eval q = .int .i64 lo := fun q h => by subst h; exact hF.evl hlo
  have el2 : ∀ q, hi' = some q → a.eval q = .int .i64 hi := fun q h => by subst h; exact hF.evl hhi
  have h3 : hi' = none → hi = (len : Int) := fun h => by subst h; simpa using hhi.symm
  cases lo' with
  | none =>
    have hlo0 : lo = 0 := by simpa using hlo.symm
    subst hlo0
    cases hi' with
    | none =>
      have hh := h3 rfl
      subst hh
      simp [execOp, hF.evl hx, Instr.sliceAt, run_underlying ht, Instr.slice, Instr.sliceBounds, hT.sizeOf]
    | some q =>
      simp [execOp, hF.evl hx, Instr.sliceAt, run_underlying ht, Instr.slice, Instr.sliceBounds, Instr.sliceBound, asIntOf, el2 q rfl, h1, h2, hT.sizeOf]
  | some q0 =>
    cases hi' with
    | none =>
      have hh := h3 rfl
      subst hh
      simp [execOp, hF.evl hx, Instr.sliceAt, run_underlying ht, Instr.slice, Instr.sliceBounds, Instr.sliceBound, asIntOf, el1 q0 rfl, h0, h1, hT.sizeOf]
    | some q =>
      have h4 : 0 ≤ hi := by omega
      simp [execOp, hF.evl hx, Instr.sliceAt, run_underlying ht, Instr.slice, Instr.sliceBounds, Instr.sliceBound, asIntOf, el1 q0 rfl, el2 q rfl, h0, h2, h4, hT.sizeOf]
      omega
theorem take_take_flatten {sz : Nat} : ∀ {xs : List (List Value)} {i : Nat}, Wf sz xs → xs.flatten.take (i * sz) = (xs.take i).flatten
  | [], i, _ => by simp
  | x :: xs, 0, _ => by simp
  | x :: xs, i + 1, h => by
    have h1 := (h x (by simp)).1
    have h2 : Wf sz xs := h.sub fun y hy => List.mem_cons_of_mem _ hy
    simp only [List.flatten_cons, List.take_succ_cons]
    rw [List.take_append, List.take_of_length_le (by rw [h1, Nat.add_mul]; omega), h1, show (i + 1) * sz - sz = i * sz by rw [Nat.add_mul]; omega, take_take_flatten h2]
theorem drop_flatten {sz : Nat} : ∀ {xs : List (List Value)} {i : Nat}, Wf sz xs → xs.flatten.drop (i * sz) = (xs.drop i).flatten
  | [], i, _ => by simp
  | x :: xs, 0, _ => by simp
  | x :: xs, i + 1, h => by
    have h1 := (h x (by simp)).1
    have h2 : Wf sz xs := h.sub fun y hy => List.mem_cons_of_mem _ hy
    simp only [List.flatten_cons, List.drop_succ_cons]
    rw [List.drop_append, List.drop_of_length_le (by rw [h1, Nat.add_mul]; omega), h1, show (i + 1) * sz - sz = i * sz by rw [Nat.add_mul]; omega, drop_flatten h2, List.nil_append]
/-- The row, from lo on. -/
theorem row_drop {el : TypeId} {sz : Nat} {a0 : Option Addr} {len cap lo : Nat} {xs : List (List Value)} {w : World} {S : Loc → Prop} (h : (row el sz (.slice a0 len cap) xs).h w S) (hlo : lo ≤ xs.length) :
    (row el sz (.slice (if cap = lo then a0 else a0.map (·.add (lo * sz))) (len - lo) (cap - lo)) (xs.drop lo)).h w S := by
  obtain ⟨hw, h⟩ := h
  refine ⟨hw.sub fun y hy => List.mem_of_mem_drop hy, ?_⟩
  rcases h with ⟨h1, h2, h3⟩ | ⟨b, o, c, C, h1, h2, h3, h4, h5, h6, h7⟩
  · cases h1
    subst h2
    have : lo = 0 := by simpa using hlo
    subst this
    exact .inl ⟨by simp, by simp, h3⟩
  · cases h1
    refine .inr ⟨b, so o sz lo cap, cap - lo, C, ?_, h2, by simp; omega, by omega, ?_, ?_, h7⟩
    · unfold so
      split <;> simp [Addr.add_lit]
    · unfold so
      split
      · rename_i hc; subst hc; simp at h5 ⊢; omega
      · have : lo * sz + (cap - lo) * sz = cap * sz := by rw [← Nat.add_mul]; congr 1; omega
        omega
    · by_cases hc : cap = lo
      · have h9 : xs.drop lo = [] := List.drop_of_length_le (by omega)
        simp [h9]
      · unfold so
        rw [if_neg hc, ← drop_flatten hw, ← h6, List.drop_take, List.drop_drop, List.length_drop]
        congr 1
        rw [Nat.sub_mul]
theorem J_drop {el : TypeId} {sz : Nat} {a0 : Option Addr} {len cap lo : Nat} {xs : List (List Value)} (hlo : lo ≤ xs.length)
    (k : Jk E (row el sz (.slice (if cap = lo then a0 else a0.map (·.add (lo * sz))) (len - lo) (cap - lo)) (xs.drop lo) :: l) n F K) : Jk E (row el sz (.slice a0 len cap) xs :: l) n F K :=
  J_imp (fun w S h => ⟨S, row_drop h hlo, fun _ h => h⟩) k
/-- What the first elements read as. -/
theorem Reads.take {w : World} {sz : Nat} {a0 : Option Addr} {len cap i : Nat} {xs : List (List Value)} (h : Reads w sz (.slice a0 len cap) xs) (hi : i ≤ xs.length) : Reads w sz (.slice a0 i cap) (xs.take i) := by
  obtain ⟨a, c, hv, h1, h2, h3, h4⟩ := h.is
  cases hv
  refine ⟨h.wf.sub fun y hy => List.mem_of_mem_take hy, a0, cap, by simp [Nat.min_eq_left hi], by simp; omega, h2, fun h => ?_, fun ad h' => ⟨(h4 ad h').1, fun j u hu => ?_⟩⟩
  · obtain ⟨rfl, hc⟩ := h3 h; exact ⟨by simp, hc⟩
  · rw [← take_take_flatten h.wf, List.getElem?_take] at hu
    split at hu
    · exact (h4 ad h').2 j u hu
    · cases hu
theorem Reads.drop {w : World} {sz : Nat} {a0 : Option Addr} {len cap lo : Nat} {xs : List (List Value)} (h : Reads w sz (.slice a0 len cap) xs) (hi : lo ≤ xs.length) :
    Reads w sz (.slice (if cap = lo then a0 else a0.map (·.add (lo * sz))) (len - lo) (cap - lo)) (xs.drop lo) := by
  obtain ⟨a, c, hv, h1, h2, h3, h4⟩ := h.is
  cases hv
  refine ⟨h.wf.sub fun y hy => List.mem_of_mem_drop hy, (if cap = lo then a0 else a0.map (·.add (lo * sz))), cap - lo, by simp, by simp; omega, by omega, fun h => ?_, fun ad h' => ?_⟩
  · split at h
    · obtain ⟨rfl, hc⟩ := h3 h; exact ⟨by simp, by omega⟩
    · rw [Option.map_eq_none_iff] at h; obtain ⟨rfl, hc⟩ := h3 h; exact ⟨by simp, by omega⟩
  · split at h'
    · rename_i hc
      refine ⟨(h4 ad h').1, fun j u hu => ?_⟩
      have : xs.drop lo = [] := List.drop_of_length_le (by omega)
      rw [this] at hu
      simp at hu
    · obtain ⟨ad0, rfl, rfl⟩ := Option.map_eq_some_iff.1 h'
      have hs := (h4 ad0 rfl).1
      refine ⟨by unfold Addr.add; split <;> first | exact hs | rfl, fun j u hu => ?_⟩
      rw [← drop_flatten h.wf, List.getElem?_drop] at hu
      have := (h4 ad0 rfl).2 _ u hu
      obtain ⟨b, o, s⟩ := ad0
      simp at hs
      subst hs
      rw [Addr.add_lit] at this
      rw [Addr.add_lit, Addr.add_lit, Nat.add_assoc]
      exact this

/-! ### append -/
theorem row_new {el : TypeId} {sz : Nat} {xs : List (List Value)} {w : World} {C : Array Value} {cap : Nat} (hw : Wf sz xs) (h1 : xs.length ≤ cap) (h2 : cap ≤ maxLen) (h3 : C.size = cap * sz) (h4 : C.toList.take (xs.length * sz) = xs.flatten) :
    (row el sz (.slice (some ⟨w.heap.size, 0, none⟩) xs.length cap) xs).h (w.alloc (.cells C el)) (fun k => k.1 = w.heap.size) :=
  ⟨hw, .inr ⟨w.heap.size, 0, cap, C, rfl, heap_alloc_new w _, h1, h2, by omega, by simpa using h4, fun _ => Iff.rfl⟩⟩

theorem run_app {el sT : TypeId} {sz by_ : Nat} {agg : Bool} {zs : List Value} {xs ys : List (List Value)} {v2 : Value} {w : World} (ht : P.underlying sT = some (.slice el)) (hT : Ty P el sz by_ agg zs) (hsz : 0 < sz) (hzl : zs.length = sz)
    (H : Sep E w (row el sz v xs :: l)) (hr : Reads w sz v2 ys) (hb : (xs.length + ys.length) * by_ ≤ 140737488355328) (hm : xs.length + ys.length ≤ maxLen) :
    ∃ v' w', (Builtin.append_ #[sT, sT] T #[v, v2]).run P w = .ok v' w' ∧ Sep E w' (row el sz v' (xs ++ ys) :: l) := by
  obtain ⟨i, z, hi, hi1, hi2, hi3, hi4⟩ := hT.get
  obtain ⟨S, hwx, h⟩ := H.head
  obtain ⟨a2, c2, hv2, hc2, hc2', hn2, ha2⟩ := hr.is
  have hwf : Wf sz (xs ++ ys) := hwx.append hr.wf
  have hlen : ((xs ++ ys).flatten).length = (xs.length + ys.length) * sz := by rw [hwf.len]; simp
  have hzs : z.cells.size = sz := by rw [← Array.length_toList, hi4, hzl]
  have hsmall : xs.length + ys.length ≤ 9223372036854775807 := by simp only [maxLen] at hm; omega
  -- a new array
  have fresh : ∀ old, old < xs.length + ys.length →
      Sep E (w.drew.alloc (.cells (xs.flatten.toArray ++ ys.flatten.toArray ++ Builtin.zeroCells z.cells (grownCap w (xs.length + ys.length) old el - (xs.length + ys.length))) el))
        (row el sz (.slice (some ⟨w.heap.size, 0, none⟩) (xs.length + ys.length) (grownCap w (xs.length + ys.length) old el)) (xs ++ ys) :: l) := by
    intro old ho
    have hge := grownCap_ge w (xs.length + ys.length) old el
    have hcm : grownCap w (xs.length + ys.length) old el ≤ maxLen := grownCap_le_maxLen w (xs.length + ys.length) old el hm
    have h0 : Sep E w.drew l := H.tail.drew
    have h1 := row_new (el := el) (w := w.drew) (C := xs.flatten.toArray ++ ys.flatten.toArray ++ Builtin.zeroCells z.cells (grownCap w (xs.length + ys.length) old el - (xs.length + ys.length))) hwf
      (cap := grownCap w (xs.length + ys.length) old el) (by simpa using hge) hcm
      (by simp only [Array.size_append, List.size_toArray, size_zeroCells, hzs, hwx.len, hr.wf.len, ← Nat.add_mul]; congr 1; omega)
      (by simp only [Array.toList_append, ← List.flatten_append, List.length_append]; rw [← hlen]; exact List.take_left)
    have h2 : (xs ++ ys).length = xs.length + ys.length := by simp
    rw [h2] at h1
    exact h0.add alloc_same (fun _ hb => alloc_old hb) h1 (fun b hb => by omega)
  subst hv2
  rcases h with ⟨rfl, rfl, hS⟩ | ⟨b, o, cap, C, rfl, h2, h3, h4, h5, h6, h7⟩
  · by_cases hy : ys = []
    · subst hy
      refine ⟨.slice none 0 0, w, ?_, ?_⟩
      · cases a2 <;> simp [Builtin.append_, run_underlying ht, sizeOf, typeInfo, hi, Builtin.lenOf, Builtin.firstCells, loadCells, loadCellsFrom]
      · simpa using H
    · have hyl : 0 < ys.length := List.length_pos_iff.2 hy
      cases a2 with
      | none => exact absurd (hn2 rfl).1 hy
      | some ad =>
        have := run_append_nil (P := P) w sT T el i z ht hi hi3 ad ys.length c2 ys.flatten (by rw [hr.wf.len, hi1]) (ha2 ad rfl).2 hyl (by simp at hsmall; omega)
          (by rw [hi2]; have : ([] : List (List Value)).length = 0 := rfl; simp at hb; omega)
        refine ⟨_, _, this, ?_⟩
        have hf := fresh 0 (by simpa using hyl)
        simpa using hf
  · have h5' : C.size = C.toList.length := by simp
    by_cases hroom : xs.length + ys.length ≤ cap
    · -- there is room
      have hfit : (xs.length + ys.length) * sz ≤ cap * sz := Nat.mul_le_mul_right _ hroom
      have hyl : ys.flatten.length = ys.length * sz := hr.wf.len
      have hxl : (xs.length + ys.length) * sz = xs.length * sz + ys.length * sz := Nat.add_mul _ _ _
      have hst := run_storeCells_at P b (o + xs.length * sz) el ys.flatten 0 C w h2 (by rw [hyl]; omega) hr.wf.one
      simp only [Nat.add_zero] at hst
      have hfc : (Builtin.firstCells sz ys.length (.slice a2 ys.length c2)).run P w = .ok ys.flatten.toArray w := by
        cases a2 with
        | none =>
          have : ys = [] := (hn2 rfl).1
          subst this
          simp [Builtin.firstCells]
        | some ad => exact run_firstCells_some w sz ys.length ad _ _ ys.flatten hyl (ha2 ad rfl).2
      refine ⟨.slice (some ⟨b, o, none⟩) (xs.length + ys.length) cap, w.setRow b (C.toList.take (o + xs.length * sz) ++ ys.flatten ++ C.toList.drop (o + xs.length * sz + ys.flatten.length)).toArray, ?_, ?_⟩
      · simp [Builtin.append_, run_underlying ht, sizeOf, typeInfo, hi, hi1, Builtin.lenOf, hroom, hfc, Addr.add_lit, hst]
      · refine H.rep .here setRow_same fun S' hS' => ?_
        obtain ⟨_, hS'⟩ := hS'
        have hSb : ∀ k, S' k ↔ k.1 = b := by
          rcases hS' with ⟨h, _⟩ | ⟨b', o', cap', C', h, _, _, _, _, _, h8⟩
          · cases h
          · cases h; exact h8
        refine ⟨⟨S', ⟨hwf, .inr ⟨b, o, cap, _, by simp, setRow_heap w b _ _ el (0, 0) h2, by simpa using hroom, h4, ?_, ?_, hSb⟩⟩, fun _ h => .inl h⟩, fun k _ hk => setRow_out fun h => hk ((hSb k).2 h)⟩
        · simp [hyl]; omega
        · simp only [List.length_append, hxl, List.flatten_append]
          have e1 : (C.toList.take (o + xs.length * sz) ++ ys.flatten ++ C.toList.drop (o + xs.length * sz + ys.flatten.length)).drop o = xs.flatten ++ ys.flatten ++ C.toList.drop (o + xs.length * sz + ys.flatten.length) := by
            rw [List.append_assoc, List.drop_append_of_le_length (by simp; omega), List.drop_take, ← h6, ← List.append_assoc]
            congr 3
            omega
          show List.take _ (List.drop o _) = _
          rw [e1, ← hwx.len, ← hyl, ← List.length_append, List.take_left]
    · -- it grows
      have hg : cap < xs.length + ys.length := by omega
      have hfit : Builtin.nextslicecap (xs.length + ys.length) cap * i.bytes ≤ 281474976710656 := growslice_fits hg (by rw [hi2]; exact hb)
      have hy : ys ≠ [] := fun h => by subst h; simp at hroom; omega
      cases a2 with
      | none => exact absurd (hn2 rfl).1 hy
      | some ad =>
        have hrd := row_reads (e := el) (S := S) ⟨hwx, .inr ⟨b, o, cap, C, rfl, h2, h3, h4, h5, h6, h7⟩⟩
        obtain ⟨_, _, hv, _, _, _, hcx⟩ := hrd.is
        cases hv
        have := run_append_grow (P := P) w sT T el i z ht hi hi3 ⟨b, o, none⟩ xs.length cap xs.flatten (by rw [hwx.len, hi1]) (hcx _ rfl).2 ad ys.length c2 ys.flatten (by rw [hr.wf.len, hi1]) (ha2 ad rfl).2 hg (by omega) hfit
        exact ⟨_, _, this, fresh cap hg⟩
/-- append -/
theorem x_app {el sT : TypeId} {sz by_ : Nat} {agg : Bool} {zs : List Value} {xs ys : List (List Value)} {v2 : Value} (hx : evl F x = some v) (hy : evl F y = some v2) (ht : P.underlying sT = some (.slice el)) (hT : Ty P el sz by_ agg zs) (hsz : Nat.blt 0 sz = true) (hzl : zs.length = sz)
    (hp : Pick (row el sz v xs) l m) (hr : ∀ w, Sep E w l → Reads w sz v2 ys) (hb : (xs.length + ys.length) * by_ ≤ 140737488355328) (hm : xs.length + ys.length ≤ 9223372036854775807) (hd : Nat.blt d n = true)
    (k : ∀ v', Jk E (row el sz v' (xs ++ ys) :: m) n ((d, v') :: F) K) :
    Jop P ops Q ⟨some d, .call { callee := .builtin .append, args := #[x, y], argTypes := #[sT, sT] }, T, p, e, none⟩ E l n F K := fun w a H hF => by
  obtain ⟨v', w', h1, h2⟩ := run_app (T := T) ht hT (by simpa using hsz) hzl (H.pick hp) (hr w H) hb (by simpa [maxLen] using hm)
  have hw : Region.wanted (⟨some d, .call { callee := .builtin .append, args := #[x, y], argTypes := #[sT, sT] }, T, p, e, none⟩ : Oper) (yielded ops a.tmps) = true := rfl
  rw [if_pos hw]
  unfold Oper.wp
  have : (execOp a.eval ⟨some d, .call { callee := .builtin .append, args := #[x, y], argTypes := #[sT, sT] }, T, p, e, none⟩).run P w = .ok (.value v') w' := by
    simp [execOp, resolve, invoke, builtin, hF.evl hx, hF.evl hy, h1]
  rw [this]
  exact k v' w' _ h2 (hF.put hd)

/-! ### literals -/
theorem fill_row {sz : Nat} : ∀ (vals : List Value) (xs : List (List Value)) (i : Nat) (cs : List Value), vals.map (·.cells.toList) = xs → Wf sz xs → (i + xs.length) * sz ≤ cs.length →
    Instr.fill (fun j => some (j * sz, sz)) cs.toArray ((vals.zipIdx i).map fun q => (q.2, q.1)) = some (cs.take (i * sz) ++ xs.flatten ++ cs.drop ((i + xs.length) * sz)).toArray
  | [], xs, i, cs, hx, _, _ => by
    simp at hx; subst hx
    simp [Instr.fill]
  | v :: vals, xs, i, cs, hx, hw, hl => by
    cases xs with
    | nil => simp at hx
    | cons x xs =>
      simp only [List.map_cons, List.cons.injEq] at hx
      obtain ⟨hv, hxs⟩ := hx
      have h1 := (hw x (by simp)).1
      have h2 : Wf sz xs := hw.sub fun y hy => List.mem_cons_of_mem _ hy
      have hvc : v.cells = x.toArray := by rw [← hv]
      have hl' : (i + (xs.length + 1)) * sz ≤ cs.length := by simpa using hl
      have hl2 : i * sz + sz + xs.length * sz ≤ cs.length := by rw [Nat.add_mul, Nat.add_mul] at hl'; omega
      simp only [List.zipIdx_cons, List.map_cons, Instr.fill]
      rw [if_neg (by simp [hvc, h1]; omega)]
      have h3 : v.cells.zipIdx.foldl (fun (cs : Array Value) (y : Value × Nat) => cs.setIfInBounds (i * sz + y.2) y.1) cs.toArray = (cs.take (i * sz) ++ x ++ cs.drop (i * sz + sz)).toArray := by
        rw [hvc, ← Array.foldl_toList]
        have := foldl_put x (i * sz) cs 0 (by omega)
        simpa [h1] using this
      have h4 := fill_row vals xs (i + 1) (cs.take (i * sz) ++ x ++ cs.drop (i * sz + sz)) hxs h2 (by rw [Nat.add_mul, Nat.add_mul]; simp [h1]; omega)
      refine Eq.trans ?_ (h4.trans ?_)
      · congr 1
      · congr 2
        have e1 : (cs.take (i * sz) ++ x).length = (i + 1) * sz := by simp [h1, Nat.add_mul]; omega
        rw [← e1, List.take_left]
        have e2 : (i + 1 + xs.length) * sz = (cs.take (i * sz) ++ x).length + xs.length * sz := by rw [e1, Nat.add_mul]
        rw [e2, List.drop_append, List.drop_of_length_le (by omega), List.nil_append, show (cs.take (i * sz) ++ x).length + xs.length * sz - (cs.take (i * sz) ++ x).length = xs.length * sz by omega, List.drop_drop]
        simp only [List.flatten_cons, List.append_assoc, List.length_cons]
        congr 3
        rw [show (i + (xs.length + 1)) * sz = i * sz + sz + xs.length * sz by rw [Nat.add_mul, Nat.add_mul]; omega]
/-- The cells of a literal's elements. -/
inductive Lits : List Value → List (List Value) → Prop where
  | nil : Lits [] []
  | agg {vs : List Value} {vals : List Value} {xs : List (List Value)} (h : Lits vals xs) : Lits (.agg vs.toArray :: vals) (vs :: xs)
  | one {v : Value} {vals : List Value} {xs : List (List Value)} (hv : v.cells.toList = [v]) (h : Lits vals xs) : Lits (v :: vals) ([v] :: xs)
theorem Lits.map {vals : List Value} {xs : List (List Value)} (h : Lits vals xs) : vals.map (·.cells.toList) = xs := by
  induction h with
  | nil => rfl
  | agg _ ih => rw [List.map_cons, ih]; rfl
  | one hv _ ih => rw [List.map_cons, ih, hv]
theorem x_lit {el : TypeId} {sz by_ len : Nat} {agg : Bool} {zs : List Value} {parts : Array (Nat × Operand)} {vals : List Value} {xs : List (List Value)} (ht : P.underlying t = some (.slice el)) (hT : Ty P el sz by_ agg zs) (hzl : zs.length = sz)
    (hparts : Parts F parts.toList ((vals.zipIdx).map fun q => (q.2, q.1))) (hL : Lits vals xs) (hw : Wf sz xs) (hlen : xs.length = len) (hsm : len * sz ≤ 200) (hsz : Nat.blt 0 sz = true)
    (hd : Nat.blt d n = true) (k : ∀ v', Jk E (row el sz v' xs :: l) n ((d, v') :: F) K) :
    Jop P ops Q ⟨some d, .buildSlice t len parts, T, p, e, none⟩ E l n F K := fun w a H hF => by
  have hxs := hL.map
  have hw0 : Region.wanted (⟨some d, .buildSlice t len parts, T, p, e, none⟩ : Oper) (yielded ops a.tmps) = true := rfl
  rw [if_pos hw0]
  unfold Oper.wp
  obtain ⟨z, hz, hzs⟩ := hT.zero w
  have hsm' : len * sz ≤ 65536 := by omega
  have hsz' : 0 < sz := by simpa using hsz
  have hp : (parts.map fun (i, x) => (i, a.eval x)).toList = (vals.zipIdx).map fun q => (q.2, q.1) := by
    rw [Array.toList_map]; exact hparts.map hF
  have hcs : ∀ zc : Array Value, ((Array.range (len * sz)).map (fun j => zc[j % zc.size]!)).toList.length = len * sz := fun zc => by simp
  have hfl : ∀ zc : Array Value, Instr.fill (fun i => some (i * sz, sz)) ((Array.range (len * sz)).map (fun j => zc[j % zc.size]!)) (parts.map fun (i, x) => (i, a.eval x)).toList = some xs.flatten.toArray := fun zc => by
    rw [hp]
    have := fill_row vals xs 0 ((Array.range (len * sz)).map (fun j => zc[j % zc.size]!)).toList hxs hw (by rw [hcs]; simp [hlen])
    simp only [Array.toArray_toList] at this
    rw [this]
    congr 2
    rw [List.drop_of_length_le (by rw [hcs]; simp [hlen])]
    simp
  have hrun : (execOp a.eval ⟨some d, .buildSlice t len parts, T, p, e, none⟩).run P w = .ok (.value (.slice (some ⟨w.heap.size, 0, none⟩) len len)) (w.alloc (.cells xs.flatten.toArray el)) := by
    have h24 : ¬ len * sz > 2 ^ 24 := by omega
    simp only [execOp, Instr.buildSlice]
    by_cases h0 : len * sz = 0
    · simp [run_underlying ht, hT.sizeOf, h24, h0]
      have := hfl #[]
      rw [h0] at this
      simp at this
      simp [this, newRow]
    · simp [run_underlying ht, hT.sizeOf, h24, h0, hz]
      have := hfl z.cells
      simp at this
      simp [this, newRow]
  rw [hrun]
  have hr := row_new (el := el) (w := w) (C := xs.flatten.toArray) (cap := len) hw (by omega) (by simp only [maxLen]; have := Nat.le_mul_of_pos_right len hsz'; omega) (by show xs.flatten.length = _; rw [hw.len, hlen]) (by show List.take _ xs.flatten = _; rw [← hw.len, List.take_length])
  rw [hlen] at hr
  exact k _ _ _ (H.add alloc_same (fun _ hb => alloc_old hb) hr (fun b hb => by omega)) (hF.put hd)

/-! ### returns -/
inductive Ret (P : Program) (l : List As) (F : Env) : List ResultVar → List Value → Prop where
  | nil : Ret P l F [] []
  | tmp {t : Nat} {v : Value} {rs : List ResultVar} {vs : List Value} (ht : get F t = some v) (h : Ret P l F rs vs) : Ret P l F (.tmp t :: rs) (v :: vs)
  | cell {a : Nat} {t bt : TypeId} {b o sz by_ : Nat} {zs cs : List Value} {v : Value} {rs : List ResultVar} {vs : List Value} (ha : get F a = some (.pointer (some ⟨b, o, none⟩))) (hT : Ty P t sz by_ false zs) (hh : Has (blk b bt cs) l) (hc : cs[o]? = some v)
      (h : Ret P l F rs vs) : Ret P l F (.cell a t :: rs) (v :: vs)
  | cellA {a : Nat} {t bt : TypeId} {b o sz by_ : Nat} {zs cs us : List Value} {rs : List ResultVar} {vs : List Value} (ha : get F a = some (.pointer (some ⟨b, o, none⟩))) (hT : Ty P t sz by_ true zs) (hh : Has (blk b bt cs) l) (hc : Cut o sz cs us)
      (h : Ret P l F rs vs) : Ret P l F (.cell a t :: rs) (.agg us.toArray :: vs)
def rd1 (a : Act) (r : ResultVar) : Sem Value := match r with | .tmp t => pure (a.tmps.getD t undef) | .cell q t => do loadVar t (← asAddr (a.tmps.getD q undef))
theorem Ret.run {rs : List ResultVar} {vs : List Value} {a : Act} {w : World} (h : Ret P l F rs vs) (H : Sep E w l) (hF : Fr n F a) : (rs.mapM (rd1 a)).run P w = .ok vs w := by
  induction h with
  | nil => rfl
  | @tmp t v rs vs ht _ ih =>
    have h1 : a.tmps.getD t undef = v := by rw [Array.getD_eq_getD_getElem?, hF.get t v ht]; rfl
    have h2 : (rd1 a (.tmp t)).run P w = .ok v w := by show Result.ok (a.tmps.getD t undef) w = _; rw [h1]
    simp only [List.mapM_cons, Sem.run_bind, Sem.run_pure, Result.andThen_ok, h2, ih]
  | @cell q t bt b o sz by_ zs cs v rs vs ha hT hh hc _ ih =>
    have h1 : a.tmps.getD q undef = .pointer (some ⟨b, o, none⟩) := by rw [Array.getD_eq_getD_getElem?, hF.get q _ ha]; rfl
    obtain ⟨S, hS⟩ := H.has hh
    have h2 : (rd1 a (.cell q t)).run P w = .ok v w := by
      show (do loadVar t (← asAddr (a.tmps.getD q undef)) : Sem Value).run P w = _
      rw [h1]
      simp [asAddr, loadVar, hT.isAgg, blk_cell hS, hc]
    simp only [List.mapM_cons, Sem.run_bind, Sem.run_pure, Result.andThen_ok, h2, ih]
  | @cellA q t bt b o sz by_ zs cs us rs vs ha hT hh hc _ ih =>
    have h1 : a.tmps.getD q undef = .pointer (some ⟨b, o, none⟩) := by rw [Array.getD_eq_getD_getElem?, hF.get q _ ha]; rfl
    obtain ⟨S, hS⟩ := H.has hh
    have hl : (loadCells ⟨b, o, none⟩ sz).run P w = .ok us.toArray w := by
      rw [← hc.eq.1]
      refine run_loadCells_list w _ us fun j u hu => ?_
      rw [Addr.add_lit, blk_cell hS, hc.eq.2 j (by have := (List.getElem?_eq_some_iff.1 hu).1; rw [hc.eq.1] at this; exact this)]
      exact hu
    have h2 : (rd1 a (.cell q t)).run P w = .ok (.agg us.toArray) w := by
      show (do loadVar t (← asAddr (a.tmps.getD q undef)) : Sem Value).run P w = _
      rw [h1]
      simp [asAddr, loadVar, hT.isAgg, hT.sizeOf, hl]
    simp only [List.mapM_cons, Sem.run_bind, Sem.run_pure, Result.andThen_ok, h2, ih]
def one (vs : List Value) : Value := match vs with | [v] => v | _ => .tuple vs.toArray
theorem J_return {α : Type} {fn : Func} {rs : List ResultVar} {vs : List Value} {rv : α → Value} {L : α → List As} (x : α) (hfn : fn.results = rs.toArray) (hr : Ret P l F rs vs) (hv : one vs = rv x) (hl : Sub l (L x)) :
    Jk E l n F (bodyPost P fn (fun e w' => ∃ x, e = .returned (rv x) ∧ Sep E w' (L x)) .ret) := fun w a H hF => by
  refine ⟨hF.defers, rv x, ?_, x, rfl, hl.sep H⟩
  have h1 := hr.run H hF
  unfold results
  rw [hfn, Array.mapM_eq_mapM_toList]
  simp only [Sem.run_bind, Sem.run_map]
  have h2 : (List.mapM (fun (r : ResultVar) => (match r with | .tmp t => (pure (a.tmps.getD t undef) : Sem Value) | .cell q t => do let x ← asAddr (a.tmps.getD q undef); loadVar t x)) rs).run P w = .ok vs w := h1
  erw [h2]
  simp only [Result.andThen_ok]
  rw [← hv]
  match vs with
  | [] => simp [one]
  | [v] => simp [one]
  | v :: u :: vs => simp [one]

/-! ### build; '==' of structs -/
theorem p_build {fs : Array Field} {fl : List (Nat × Nat)} {parts : Array (Nat × Operand)} {ps : List (Nat × Value)} {zs cs : List Value} {sz by_ : Nat} (hT : Ty P t sz by_ true zs) (hu : P.underlying t = some (.struct fs))
    (hfl : ∀ w, (fs.mapM fun f => do pure (f.offset, ← sizeOf f.type) : Sem (Array (Nat × Nat))).run P w = .ok fl.toArray w)
    (hps : Parts F parts.toList ps) (h : Fil fl ps zs cs) : Pur P ⟨dst, .build t parts, T, p, e, g⟩ F n (.agg cs.toArray) := fun a hF w => by
  obtain ⟨z, hz, hzs⟩ := hT.zero w
  have hp : (parts.map fun (i, x) => (i, a.eval x)).toList = ps := by
    rw [Array.toList_map]; exact hps.map hF
  have hfill := h.fill
  have hzc : z.cells = zs.toArray := by rw [← hzs]
  have : (Instr.build t (parts.map fun (i, x) => (i, a.eval x))).run P w = .ok (.agg cs.toArray) w := by
    simp only [Instr.build, Sem.run_bind, hz, Result.andThen_ok, run_underlying hu, hfl w, hp, hzc, hfill]
    rfl
  simp only [execOp, Sem.run_bind, this, Result.andThen_ok]
  rfl
theorem eqF_nil {D : Nat} {xs ys : Array Value} {w : World} : (Op.eqFields D xs ys []).run P w = .ok true w := by simp [Op.eqFields]
theorem eqF_cons {D : Nat} {xs ys : Array Value} {w : World} {f : Field} {fs : List Field} {a b : Value} {r s : Bool} (hn : (f.name == "_") = false) (ha : (part f.type xs f.offset).run P w = .ok a w) (hb : (part f.type ys f.offset).run P w = .ok b w)
    (he : (Op.equalIn D f.type a b).run P w = .ok r w) (hr : (Op.eqFields D xs ys fs).run P w = .ok s w) : (Op.eqFields D xs ys (f :: fs)).run P w = .ok (r && s) w := by
  have hn' : f.name ≠ "_" := by simpa using hn
  simp only [Op.eqFields, Sem.run_bind, Sem.run_ite]
  rw [if_pos hn']
  simp only [ha, hb, he, Result.andThen_ok]
  cases r <;> simp [hr]

/-! ### nil -/
theorem J_nil {el : TypeId} {sz : Nat} (k : Jk E (row el sz (.slice none 0 0) [] :: l) n F K) : Jk E l n F K := fun w a H hF =>
  k w a (H.add (Same.refl w) (fun _ _ => rfl) (S1 := fun _ => False) ⟨Wf.nil, .inl ⟨rfl, rfl, fun _ h => h⟩⟩ (fun _ h => h.elim)) hF
theorem eqIn_nil {a0 : Option Addr} {len cap D : Nat} {el : TypeId} {w : World} (ht : P.underlying t = some (.slice el)) : (Op.equalIn (D + 1) t (.slice a0 len cap) (.slice none 0 0)).run P w = .ok a0.isNone w := by
  cases a0 <;> simp [Op.equalIn, run_underlying ht]
theorem eql_nil {a0 : Option Addr} {len cap : Nat} {el : TypeId} {w : World} (ht : P.underlying t = some (.slice el)) : (binOp .eql t (.slice a0 len cap) (.slice none 0 0)).run P w = .ok (.bool a0.isNone) w := by
  have h := eqIn_nil (P := P) (D := 9999) (a0 := a0) (len := len) (cap := cap) (w := w) ht
  rw [(by decide : 9999 + 1 = 10000)] at h
  simp only [binOp, Op.equal, Op.maxDepth, Sem.run_bind, h]
  rfl
theorem neq_nil {a0 : Option Addr} {len cap : Nat} {el : TypeId} {w : World} (ht : P.underlying t = some (.slice el)) : (binOp .neq t (.slice a0 len cap) (.slice none 0 0)).run P w = .ok (.bool a0.isSome) w := by
  have h := eqIn_nil (P := P) (D := 9999) (a0 := a0) (len := len) (cap := cap) (w := w) ht
  rw [(by decide : 9999 + 1 = 10000)] at h
  simp only [binOp, Op.equal, Op.maxDepth, Sem.run_bind, h]
  cases a0 <;> rfl
theorem p_eqnil {a0 : Option Addr} {len cap : Nat} {el ty : TypeId} (ht : P.underlying t = some (.slice el)) (hx : evl F x = some (.slice a0 len cap)) : Pur P ⟨dst, .binOp .eql t x (.const (.slice none 0 0)) ty, T, p, e, g⟩ F n (.bool a0.isNone) :=
  p_eqv hx rfl (fun w => by rw [eqGuard_at_slice]; rfl) (fun w => eql_nil ht)
theorem p_nenil {a0 : Option Addr} {len cap : Nat} {el ty : TypeId} (ht : P.underlying t = some (.slice el)) (hx : evl F x = some (.slice a0 len cap)) : Pur P ⟨dst, .binOp .neq t x (.const (.slice none 0 0)) ty, T, p, e, g⟩ F n (.bool a0.isSome) :=
  p_nev hx rfl (fun w => by rw [eqGuard_at_slice]; rfl) (fun w => neq_nil ht)
theorem J_reads {sz : Nat} {xs : List (List Value)} (hr : ∀ w, Sep E w l → Reads w sz v xs)
    (k : Wf sz xs → ∀ a cap, v = .slice a xs.length cap → xs.length ≤ cap → cap ≤ maxLen → (a = none → xs = [] ∧ cap = 0) → Jk E l n F K) : Jk E l n F K := fun w a H hF => by
  obtain ⟨a0, cap, h1, h2, h3, h4, h5⟩ := (hr w H).is
  exact k (hr w H).wf a0 cap h1 h2 h3 h4 w a H hF

theorem eqlIn_bool {a b : Bool} {w : World} (ht : P.underlying t = some .bool) : (Op.equalIn 10000 t (.bool a) (.bool b)).run P w = .ok (a == b) w := by
  have h := run_equalIn_bool' w 9999 t a b ht
  rw [(by decide : 9999 + 1 = 10000)] at h
  exact h
theorem p_eqb {a b : Bool} {ty : TypeId} (ht : P.underlying t = some .bool) (hx : evl F x = some (.bool a)) (hy : evl F y = some (.bool b)) : Pur P ⟨dst, .binOp .eql t x y ty, T, p, e, g⟩ F n (.bool (a == b)) :=
  p_eqv hx hy (fun w => by rw [eqGuard_at_bool]; rfl) (fun w => by simp only [binOp, Op.equal, Op.maxDepth, Sem.run_bind, eqlIn_bool ht]; rfl)
theorem p_neb {a b : Bool} {ty : TypeId} (ht : P.underlying t = some .bool) (hx : evl F x = some (.bool a)) (hy : evl F y = some (.bool b)) : Pur P ⟨dst, .binOp .neq t x y ty, T, p, e, g⟩ F n (.bool (!(a == b))) :=
  p_nev hx hy (fun w => by rw [eqGuard_at_bool]; rfl) (fun w => by simp only [binOp, Op.equal, Op.maxDepth, Sem.run_bind, eqlIn_bool ht]; rfl)
end
end Go.Pse
