/-
  Own layer, part 6: what a law's arguments are: Bools, whole numbers, structs of these, slices of these: opened to lists of cells.
-/
import Derived.Test.YthjgdlhkdjgjpaaGreatMore
import Derived.Deep.Slices
import Derived.ChangeSame
import Derived.Carry
namespace Go.Pse
open Go.RowKit Go.ChangeShapes Go.WideShapes Go.Deep

inductive Leaf where
  | int (k : IntKind)
  | bool
def Leaf.ok : Leaf → Value → Prop
  | .int k, v => ∃ n, v = .int k n ∧ k.min ≤ n ∧ n ≤ k.max
  | .bool, v => ∃ b, v = .bool b
def Shape : List Leaf → List Value → Prop
  | [], [] => True
  | k :: ks, v :: vs => k.ok v ∧ Shape ks vs
  | _, _ => False
def leafFs (P : Program) (lv : TypeId → Option (List Leaf)) : List Field → Nat → Option (List Leaf)
  | [], _ => some []
  | f :: fs, o => match lv f.type with
    | some ks => if f.offset = o ∧ P.cellsOf f.type = ks.length then (match leafFs P lv fs (o + ks.length) with
      | some r => some (ks ++ r)
      | none => none) else none
    | none => none
def leaves (P : Program) : Nat → TypeId → Option (List Leaf)
  | 0, _ => none
  | n + 1, t => match P.underlying t with
    | some (.int k) => some [.int k]
    | some .bool => some [.bool]
    | some (.struct fs) => leafFs P (leaves P n) fs.toList 0
    | _ => none

theorem Shape.nil_inv {vs : List Value} (h : Shape [] vs) : vs = [] := by
  cases vs with
  | nil => rfl
  | cons v vs => exact h.elim
theorem Shape.cons_inv {k : Leaf} {ks : List Leaf} {vs : List Value} (h : Shape (k :: ks) vs) : ∃ v vs', vs = v :: vs' ∧ k.ok v ∧ Shape ks vs' := by
  cases vs with
  | nil => exact h.elim
  | cons v vs => exact ⟨v, vs, rfl, h.1, h.2⟩
theorem Shape.length : ∀ {ks : List Leaf} {vs : List Value}, Shape ks vs → vs.length = ks.length
  | [], vs, h => by rw [h.nil_inv]; rfl
  | _ :: _, _, h => by obtain ⟨v, vs', rfl, _, h'⟩ := h.cons_inv; simp [h'.length]
theorem Shape.append : ∀ {ks ks' : List Leaf} {vs vs' : List Value}, Shape ks vs → Shape ks' vs' → Shape (ks ++ ks') (vs ++ vs')
  | [], _, vs, _, h, h' => by rw [h.nil_inv]; exact h'
  | _ :: _, _, _, _, h, h' => by obtain ⟨v, ws, rfl, hv, h2⟩ := h.cons_inv; exact ⟨hv, h2.append h'⟩
theorem Shape.ones : ∀ {ks : List Leaf} {vs : List Value}, Shape ks vs → ones vs = true
  | [], vs, h => by rw [h.nil_inv]; rfl
  | k :: _, _, h => by
    obtain ⟨v, ws, rfl, hv, h2⟩ := h.cons_inv
    have h3 : v.oneCell' = true := by
      cases k with
      | int k => obtain ⟨n, rfl, _⟩ := hv; rfl
      | bool => obtain ⟨b, rfl⟩ := hv; rfl
    have h4 := h2.ones
    unfold Pse.ones at h4 ⊢
    simp [h3, h4]

section
variable {H : Type} {enc : TypeId × Value → H} {P : Program} {W : World} {base b0 : Nat} {spare : Nat → Bool} {held : Bool}
theorem shape_fs {lv : TypeId → Option (List Leaf)} {cs : List Value} : ∀ (fs : List Field) (o : Nat) (ks : List Leaf), leafFs P lv fs o = some ks → (∀ f ∈ fs, ∀ ks', lv f.type = some ks' → P.cellsOf f.type = ks'.length → Shape ks' ((cs.drop f.offset).take (P.cellsOf f.type))) → cs.length = o + ks.length → Shape ks (cs.drop o)
  | [], o, ks, h, _, hl => by
    simp only [leafFs, Option.some.injEq] at h
    subst h
    rw [List.drop_of_length_le (by simp at hl; omega)]
    trivial
  | f :: fs, o, ks, h, hf, hl => by
    simp only [leafFs] at h
    split at h
    · rename_i ks1 h1
      split at h
      · rename_i h2
        split at h
        · rename_i r hr
          simp only [Option.some.injEq] at h
          subst h
          obtain ⟨ho, hc⟩ := h2
          have s1 := hf f (by simp) ks1 h1 hc
          rw [ho, hc] at s1
          have s2 := shape_fs fs (o + ks1.length) r hr (fun g hg => hf g (List.mem_cons_of_mem _ hg)) (by simp at hl; omega)
          have e : cs.drop o = (cs.drop o).take ks1.length ++ cs.drop (o + ks1.length) := by rw [← List.drop_drop, List.take_append_drop]
          rw [e]
          exact s1.append s2
        · cases h
      · cases h
    · cases h
theorem shape_trod : ∀ (n : Nat) (t : TypeId) (ks : List Leaf) (fuel : Nat) (cs : List Value) (x : DataW H × List MemPlace), leaves P n t = some ks → P.cellsOf t = ks.length → DataW.trod enc P W base spare held fuel t cs = some x → Shape ks cs
  | 0, _, _, _, _, _, h, _, _ => by cases h
  | n + 1, t, ks, fuel, cs, x, h, hc, hx => by
    simp only [leaves] at h
    split at h
    · rename_i k hu
      cases h
      obtain ⟨z, rfl, _, hw⟩ := DataW.trod_int hu hx
      refine ⟨⟨z, rfl, ?_⟩, trivial⟩
      simpa [Lit.wf] using hw
    · rename_i hu
      cases h
      obtain ⟨z, rfl, _⟩ := DataW.trod_bool hu hx
      exact ⟨⟨z, rfl⟩, trivial⟩
    · rename_i fs hu
      obtain ⟨xs, m, _, _, hl, hxl, hg⟩ := DataW.trod_struct hu hx
      have := shape_fs (cs := cs) fs.toList 0 ks h (fun f hf ks' hk hck => by
        obtain ⟨j, hj⟩ := List.mem_iff_getElem?.1 hf
        have hj' : fs[j]? = some f := by simpa using hj
        have hjl : j < xs.length := by rw [hxl]; exact (Array.getElem?_eq_some_iff.1 hj').1
        have h1 := hg j f hj'
        rw [List.getElem?_eq_getElem hjl] at h1
        exact shape_trod n f.type ks' m _ _ hk hck h1) (by rw [hl, hc]; omega)
      simpa using this
    · cases h

/-- A slice of such, as an argument. -/
theorem open_row {t e : TypeId} {ks : List Leaf} {n : Nat} {r : Reach} {v : Value} {d : DataW H} {ps : List MemPlace} (ht : P.underlying t = some (.slice e)) (hk : leaves P n e = some ks) (hc : P.cellsOf e = ks.length) (hv : Value.okWide P W r b0 t v)
    (h : DataW.Trod enc P W base spare held t v d ps) : ∃ xs, Reads W ks.length v xs ∧ ∀ x ∈ xs, Shape ks x := by
  have hv1 : v = .slice none 0 0 ∨ ∃ a len cap, v = .slice (some a) len cap ∧ len ≤ cap ∧ (cap : Int) ≤ IntKind.i64.max ∧ a.spot = none := by
    simp only [Value.okWide, ht, Cell.okWide] at hv
    cases v with
    | slice a len cap =>
      cases a with
      | none =>
        left
        cases len with
        | zero => cases cap with
          | zero => rfl
          | succ c => simp [Cell.ok, ht] at hv
        | succ l => simp [Cell.ok, ht] at hv
      | some a =>
        simp only [Cell.ok, ht] at hv
        exact .inr ⟨a, len, cap, rfl, hv.1, hv.2.1, hv.2.2.2.1⟩
    | _ => simp [Cell.ok, ht] at hv
  obtain ⟨fuel, hf⟩ := h
  rcases hv1 with rfl | ⟨a, len, cap, rfl, hlc, hcm, hsp⟩
  · exact ⟨[], ⟨Wf.nil, none, 0, rfl, Nat.le_refl _, by simp [maxLen], fun _ => ⟨rfl, rfl⟩, fun _ h => by cases h⟩, fun _ h => by cases h⟩
  · rcases open_slice ht hf with ⟨h0, _⟩ | ⟨a', len', cap', m, n', D, Pl, h0, _, hl, hm, hmm, _, hi⟩
    · simp [Value.cells] at h0
    · simp only [Value.cells, List.cons.injEq, Value.slice.injEq, Option.some.injEq] at h0
      obtain ⟨⟨rfl, rfl, rfl⟩, _⟩ := h0
      have hlm : len ≤ m := by rw [hmm]; split <;> omega
      have each : ∀ i, i < len → ∃ c : List Value, Shape ks c ∧ ∀ j, j < ks.length → W.cell? (a.add (i * ks.length + j)) = c[j]? := fun i hil => by
        obtain ⟨c, h1, h2⟩ := hi i (by omega)
        obtain ⟨_, hcl, hat⟩ := World.cells?_some h1
        rw [hc] at hat
        exact ⟨c, shape_trod n e ks _ c _ hk hc h2, fun j hj => by rw [← hat j hj, Deep.add_add]⟩
      obtain ⟨f, hf⟩ := choose_lt each
      have hml : ∀ x ∈ (List.range len).map f, Shape ks x := fun x hx => by
        obtain ⟨i, hi, rfl⟩ := List.mem_map.1 hx
        exact (hf i (by simpa using hi)).1
      have hwf : Wf ks.length ((List.range len).map f) := fun x hx => ⟨(hml x hx).length, (hml x hx).ones⟩
      refine ⟨(List.range len).map f, ⟨hwf, some a, cap, by simp, by simpa using hl, hm, (fun h => by cases h), fun ad had => ?_⟩, hml⟩
      cases had
      refine ⟨hsp, fun j u hu => ?_⟩
      have hlt := (List.getElem?_eq_some_iff.1 hu).1
      rw [hwf.len] at hlt
      have hpos : 0 < ks.length := Nat.pos_of_ne_zero fun h => by rw [h] at hlt; simp at hlt
      have hjq : j / ks.length < len := by rw [Nat.div_lt_iff_lt_mul hpos]; simpa using hlt
      have hjm : j % ks.length < ks.length := Nat.mod_lt _ hpos
      have hj : j / ks.length * ks.length + j % ks.length = j := by rw [Nat.mul_comm]; exact Nat.div_add_mod j ks.length
      have hget : ((List.range len).map f)[j / ks.length]? = some (f (j / ks.length)) := by simp [hjq]
      have := hwf.get hget hjm
      rw [hj, hu] at this
      rw [← hj, (hf _ hjq).2 _ hjm, this]
/-- A struct of such. -/
theorem open_agg {t : TypeId} {fs : Array Field} {ks : List Leaf} {n : Nat} {r : Reach} {v : Value} {d : DataW H} {ps : List MemPlace} (ht : P.underlying t = some (.struct fs)) (hk : leaves P n t = some ks) (hc : P.cellsOf t = ks.length) (hv : Value.okWide P W r b0 t v)
    (h : DataW.Trod enc P W base spare held t v d ps) : ∃ cs : List Value, v = .agg cs.toArray ∧ Shape ks cs := by
  obtain ⟨cs, rfl, _⟩ := okWide_struct ht hv
  obtain ⟨fuel, hf⟩ := h
  exact ⟨cs.toList, by simp, shape_trod n t ks _ _ _ hk hc hf⟩
end
theorem decodeRows {D : Type} {enc : D → List Value} {ok : D → Prop} {q : List Value → Prop} (h : ∀ x, q x → ∃ d, x = enc d ∧ ok d) : ∀ (xs : List (List Value)), (∀ x ∈ xs, q x) → ∃ ds : List D, xs = ds.map enc ∧ ∀ d ∈ ds, ok d
  | [], _ => ⟨[], rfl, fun _ h => by cases h⟩
  | x :: xs, hx => by
    obtain ⟨d, rfl, hd⟩ := h x (hx x (by simp))
    obtain ⟨ds, rfl, hds⟩ := decodeRows h xs fun y hy => hx y (List.mem_cons_of_mem _ hy)
    exact ⟨d :: ds, rfl, fun e he => (List.mem_cons.1 he).elim (fun h => h ▸ hd) (hds e)⟩
theorem dec_bool {x : List Value} (h : Shape [.bool] x) : ∃ b : Bool, x = [.bool b] ∧ True := by
  obtain ⟨v, vs, rfl, ⟨b, rfl⟩, h2⟩ := h.cons_inv
  rw [h2.nil_inv]; exact ⟨b, rfl, trivial⟩
theorem dec_int {k : IntKind} {x : List Value} (h : Shape [.int k] x) : ∃ z : Int, x = [.int k z] ∧ k.min ≤ z ∧ z ≤ k.max := by
  obtain ⟨v, vs, rfl, ⟨b, rfl, hb⟩, h2⟩ := h.cons_inv
  rw [h2.nil_inv]; exact ⟨b, rfl, hb⟩
end Go.Pse
