/-
  Own layer, part 1: a separation logic over the model's worlds: assertions with footprints, lists of assertions that hold apart, how they follow a change of the world.
-/
import Derived.WalkKit
namespace Go.Pse
open Go.RowKit

/-- A place: a block, a cell of it. -/
abbrev Loc := Nat × Nat
/-- What stands at a place: a cell, with how large its block is, and of which type; or an object that has no cells. -/
def lk (w : World) (q : Loc) : Option ((Nat × TypeId × (Nat × Nat) × Option Value) ⊕ Obj) := match w.heap[q.1]? with
  | some (.cells c t fr) => some (.inl (c.size, t, fr, c[q.2]?))
  | some o => some (.inr o)
  | none => none
theorem lk_of_heap {w w' : World} {q : Loc} (h : w'.heap[q.1]? = w.heap[q.1]?) : lk w' q = lk w q := by
  unfold lk; rw [h]
theorem heap_of_lk {w w' : World} {b : Nat} (h : ∀ i, lk w' (b, i) = lk w (b, i)) : w'.heap[b]? = w.heap[b]? := by
  have h0 := h 0
  unfold lk at h h0
  cases h1 : w'.heap[b]? with
  | none => cases h2 : w.heap[b]? with
    | none => rfl
    | some o => simp only [h1, h2] at h0; cases o <;> cases h0
  | some o => cases h2 : w.heap[b]? with
    | none => simp only [h1, h2] at h0; cases o <;> cases h0
    | some o' =>
      simp only [h1, h2] at h h0
      cases o with
      | cells c t fr => cases o' with
        | cells c' t' fr' =>
          simp only [Option.some.injEq, Sum.inl.injEq, Prod.mk.injEq] at h h0
          obtain ⟨_, ht, hf, _⟩ := h0
          have hc : c = c' := Array.ext_getElem? fun i => (h i).2.2.2
          rw [ht, hf, hc]
        | _ => cases h0
      | _ => cases o' with
        | cells c' t' fr' => cases h0
        | _ => first | (simp only [Option.some.injEq, Sum.inr.injEq] at h0; rw [h0]) | cases h0

/-- An assertion: it holds of a world with a footprint (the places that it speaks of), and hangs on these alone. -/
structure As where
  h : World → (Loc → Prop) → Prop
  loc : ∀ {w w' : World} {S : Loc → Prop}, h w S → (∀ b, S b → lk w' b = lk w b) → h w' S
  lt : ∀ {w : World} {S : Loc → Prop} {b : Loc}, h w S → S b → b.1 < w.heap.size

/-- The assertions of a list hold apart from each other. -/
def sepL : List As → World → (Loc → Prop) → Prop
  | [], _, S => ∀ b, ¬ S b
  | A :: l, w, S => ∃ S1 S2, A.h w S1 ∧ sepL l w S2 ∧ (∀ b, S1 b → ¬ S2 b) ∧ (∀ b, S b ↔ S1 b ∨ S2 b)

theorem sepL_loc : ∀ {l : List As} {w w' : World} {S : Loc → Prop}, sepL l w S → (∀ b, S b → lk w' b = lk w b) → sepL l w' S
  | [], _, _, _, h, _ => h
  | _ :: _, _, _, _, ⟨S1, S2, h1, h2, hd, he⟩, hs => ⟨S1, S2, As.loc _ h1 fun b hb => hs b ((he b).2 (.inl hb)), sepL_loc h2 fun b hb => hs b ((he b).2 (.inr hb)), hd, he⟩

theorem sepL_lt : ∀ {l : List As} {w : World} {S : Loc → Prop} {b : Loc}, sepL l w S → S b → b.1 < w.heap.size
  | [], _, _, b, h, hb => (h b hb).elim
  | _ :: _, _, _, b, ⟨_, _, h1, h2, _, he⟩, hb => by
    rcases (he b).1 hb with h | h
    · exact As.lt _ h1 h
    · exact sepL_lt h2 h

/-- One of a list turned into another. -/
inductive Rep1 (A B : As) : List As → List As → Prop where
  | here {l : List As} : Rep1 A B (A :: l) (B :: l)
  | there {C : As} {l l' : List As} : Rep1 A B l l' → Rep1 A B (C :: l) (C :: l')

/-- One of a list taken out. -/
inductive Pick (A : As) : List As → List As → Prop where
  | here {l : List As} : Pick A (A :: l) l
  | there {C : As} {l l' : List As} : Pick A l l' → Pick A (C :: l) (C :: l')

inductive Has (A : As) : List As → Prop where
  | here {l : List As} : Has A (A :: l)
  | there {C : As} {l : List As} : Has A l → Has A (C :: l)

/-- What a step that turns A into B may do to the world. -/
def Upd (w w' : World) (A B : As) : Prop :=
  ∀ S, A.h w S → (∃ S', B.h w' S' ∧ (∀ b, S' b → S b ∨ w.heap.size ≤ b.1)) ∧ (∀ b, b.1 < w.heap.size → ¬ S b → lk w' b = lk w b)

theorem rep1_upd {A B : As} {w w' : World} {l l' : List As} (hr : Rep1 A B l l') : ∀ {S : Loc → Prop}, sepL l w S → Upd w w' A B →
    ∃ S', sepL l' w' S' ∧ (∀ b, S' b → S b ∨ w.heap.size ≤ b.1) := by
  induction hr with
  | here =>
    rintro S ⟨S1, S2, h1, h2, hd, he⟩ hu
    obtain ⟨⟨S1', h1', hsub⟩, hk⟩ := hu S1 h1
    refine ⟨fun b => S1' b ∨ S2 b, ⟨S1', S2, h1', sepL_loc h2 fun b hb => hk b (sepL_lt h2 hb) fun h => hd b h hb, fun b h1b h2b => ?_, fun b => Iff.rfl⟩, fun b hb => ?_⟩
    · rcases hsub b h1b with h | h
      · exact hd b h h2b
      · exact absurd (sepL_lt h2 h2b) (by omega)
    · rcases hb with hb | hb
      · rcases hsub b hb with h | h
        · exact .inl ((he b).2 (.inl h))
        · exact .inr h
      · exact .inl ((he b).2 (.inr hb))
  | there hr ih =>
    rintro S ⟨S1, S2, h1, h2, hd, he⟩ hu
    obtain ⟨S2', h2', hsub⟩ := ih h2 hu
    have hkeep : ∀ b, S1 b → lk w' b = lk w b := by
      intro b hb
      obtain ⟨SA, hA, hAs⟩ : ∃ SA, A.h w SA ∧ ∀ b, SA b → S2 b := by
        clear ih hu h2' hsub
        clear h1 hd he hb
        induction hr generalizing S2 with
        | here => obtain ⟨T1, T2, g1, _, _, ge⟩ := h2; exact ⟨T1, g1, fun b hb => (ge b).2 (.inl hb)⟩
        | there _ ih => obtain ⟨T1, T2, _, g2, _, ge⟩ := h2; obtain ⟨SA, hA, hs⟩ := ih _ g2; exact ⟨SA, hA, fun b hb => (ge b).2 (.inr (hs b hb))⟩
      exact (hu SA hA).2 b (As.lt _ h1 hb) fun h => hd b hb (hAs b h)
    refine ⟨fun b => S1 b ∨ S2' b, ⟨S1, S2', As.loc _ h1 hkeep, h2', fun b h1b h2b => ?_, fun b => Iff.rfl⟩, fun b hb => ?_⟩
    · rcases hsub b h2b with h | h
      · exact hd b h1b h
      · exact absurd (As.lt _ h1 h1b) (by omega)
    · rcases hb with hb | hb
      · exact .inl ((he b).2 (.inl hb))
      · rcases hsub b hb with h | h
        · exact .inl ((he b).2 (.inr h))
        · exact .inr h

theorem pick_sep {A : As} {l l' : List As} (hp : Pick A l l') : ∀ {w : World} {S : Loc → Prop}, sepL l w S → sepL (A :: l') w S := by
  induction hp with
  | here => exact id
  | there hp ih =>
    rintro w S ⟨S1, S2, h1, h2, hd, he⟩
    obtain ⟨T1, T2, g1, g2, gd, ge⟩ := ih h2
    refine ⟨T1, fun b => S1 b ∨ T2 b, g1, ⟨S1, T2, h1, g2, fun b hb h => hd b hb ((ge b).2 (.inr h)), fun b => Iff.rfl⟩, fun b hb h => ?_, fun b => ?_⟩
    · rcases h with h | h
      · exact hd b h ((ge b).2 (.inl hb))
      · exact gd b hb h
    · rw [he b, ge b]
      constructor
      · rintro (h | h | h)
        · exact .inr (.inl h)
        · exact .inl h
        · exact .inr (.inr h)
      · rintro (h | h | h)
        · exact .inr (.inl h)
        · exact .inl h
        · exact .inr (.inr h)

theorem unpick_sep {A : As} {l l' : List As} (hp : Pick A l l') : ∀ {w : World} {S : Loc → Prop}, sepL (A :: l') w S → sepL l w S := by
  induction hp with
  | here => exact id
  | there hp ih =>
    rintro w S ⟨T1, U, g1, ⟨S1, T2, h1, g2, gd, gU⟩, hd, he⟩
    refine ⟨S1, fun b => T1 b ∨ T2 b, h1, ih ⟨T1, T2, g1, g2, fun b hb h => hd b hb ((gU b).2 (.inr h)), fun b => Iff.rfl⟩, fun b hb h => ?_, fun b => ?_⟩
    · rcases h with h | h
      · exact hd b h ((gU b).2 (.inl hb))
      · exact gd b hb h
    · rw [he b, gU b]
      constructor
      · rintro (h | h | h)
        · exact .inr (.inl h)
        · exact .inl h
        · exact .inr (.inr h)
      · rintro (h | h | h)
        · exact .inr (.inl h)
        · exact .inl h
        · exact .inr (.inr h)

/-- The world w of a run that began in E: the streams are E's; the assertions hold apart. -/
structure Sep (E w : World) (l : List As) : Prop where
  os : w.os = E.os
  tape : w.tape = E.tape
  output : w.output = E.output ∧ E.drawn ≤ w.drawn
  own : ∃ S, sepL l w S

/-- The streams stay. -/
structure Same (w w' : World) : Prop where
  os : w'.os = w.os
  tape : w'.tape = w.tape
  output : w'.output = w.output ∧ w.drawn ≤ w'.drawn
  size : w.heap.size ≤ w'.heap.size

theorem out_trans {A B C : World} (h1 : C.output = B.output ∧ B.drawn ≤ C.drawn) (h2 : B.output = A.output ∧ A.drawn ≤ B.drawn) : C.output = A.output ∧ A.drawn ≤ C.drawn := ⟨h1.1.trans h2.1, Nat.le_trans h2.2 h1.2⟩
theorem Same.refl (w : World) : Same w w := ⟨rfl, rfl, ⟨rfl, Nat.le_refl _⟩, Nat.le_refl _⟩

section
variable {E w w' : World} {l l' : List As} {A B : As}
theorem Sep.rep (H : Sep E w l) (hr : Rep1 A B l l') (hs : Same w w') (hu : Upd w w' A B) : Sep E w' l' :=
  ⟨hs.os.trans H.os, hs.tape.trans H.tape, out_trans hs.output H.output, let ⟨_, hS⟩ := H.own; let ⟨S', h', _⟩ := rep1_upd hr hS hu; ⟨S', h'⟩⟩
theorem Sep.pick (H : Sep E w l) (hp : Pick A l l') : Sep E w (A :: l') := ⟨H.os, H.tape, H.output, let ⟨S, hS⟩ := H.own; ⟨S, pick_sep hp hS⟩⟩
theorem Sep.unpick (H : Sep E w (A :: l')) (hp : Pick A l l') : Sep E w l := ⟨H.os, H.tape, H.output, let ⟨S, hS⟩ := H.own; ⟨S, unpick_sep hp hS⟩⟩
theorem Sep.head (H : Sep E w (A :: l)) : ∃ S, A.h w S := let ⟨_, S1, _, h1, _⟩ := H.own; ⟨S1, h1⟩
theorem Sep.has (H : Sep E w l) (hh : Has A l) : ∃ S, A.h w S := by
  obtain ⟨S, hS⟩ := H.own
  clear H
  induction hh generalizing S with
  | here => obtain ⟨S1, _, h1, _⟩ := hS; exact ⟨S1, h1⟩
  | there _ ih => obtain ⟨_, S2, _, h2, _⟩ := hS; exact ih S2 h2
theorem Sep.tail (H : Sep E w (A :: l)) : Sep E w l := ⟨H.os, H.tape, H.output, let ⟨_, _, S2, _, h2, _⟩ := H.own; ⟨S2, h2⟩⟩
theorem Sep.nil (E : World) : Sep E E [] := ⟨rfl, rfl, ⟨rfl, Nat.le_refl _⟩, fun _ => False, fun _ h => h⟩
/-- A new assertion over new blocks. -/
theorem Sep.add (H : Sep E w l) (hs : Same w w') (hk : ∀ b : Nat, b < w.heap.size → w'.heap[b]? = w.heap[b]?) {S1 : Loc → Prop} (hB : B.h w' S1) (hf : ∀ b, S1 b → w.heap.size ≤ b.1) : Sep E w' (B :: l) := by
  obtain ⟨S, hS⟩ := H.own
  refine ⟨hs.os.trans H.os, hs.tape.trans H.tape, out_trans hs.output H.output, fun b => S1 b ∨ S b, S1, S, hB, sepL_loc hS fun b hb => lk_of_heap (hk b.1 (sepL_lt hS hb)), fun b h1 h2 => ?_, fun b => Iff.rfl⟩
  have := hf b h1
  have := sepL_lt hS h2
  omega
/-- A world that is alike in all blocks. -/
theorem Sep.keep (H : Sep E w l) (hs : Same w w') (hk : ∀ b : Nat, b < w.heap.size → w'.heap[b]? = w.heap[b]?) : Sep E w' l := by
  obtain ⟨S, hS⟩ := H.own
  exact ⟨hs.os.trans H.os, hs.tape.trans H.tape, out_trans hs.output H.output, S, sepL_loc hS fun b hb => lk_of_heap (hk b.1 (sepL_lt hS hb))⟩
theorem Sep.drew (H : Sep E w l) : Sep E w.drew l := H.keep ⟨rfl, rfl, ⟨rfl, Nat.le_succ _⟩, Nat.le_refl _⟩ fun _ _ => rfl
/-- The head, said otherwise. -/
theorem Sep.imp (H : Sep E w (A :: l)) (h : ∀ S, A.h w S → ∃ S', B.h w S' ∧ ∀ b, S' b → S b) : Sep E w (B :: l) := by
  refine ⟨H.os, H.tape, H.output, ?_⟩
  obtain ⟨S, S1, S2, h1, h2, hd, he⟩ := H.own
  obtain ⟨S', hB, hs⟩ := h S1 h1
  exact ⟨fun b => S' b ∨ S2 b, S', S2, hB, h2, fun b hb => hd b (hs b hb), fun b => Iff.rfl⟩
end

/-- Two assertions apart, as one. -/
def As.star (A B : As) : As where
  h w S := ∃ S1 S2, A.h w S1 ∧ B.h w S2 ∧ (∀ b, S1 b → ¬ S2 b) ∧ (∀ b, S b ↔ S1 b ∨ S2 b)
  loc := fun ⟨S1, S2, h1, h2, hd, he⟩ hs => ⟨S1, S2, A.loc h1 fun b hb => hs b ((he b).2 (.inl hb)), B.loc h2 fun b hb => hs b ((he b).2 (.inr hb)), hd, he⟩
  lt := fun ⟨_, _, h1, h2, _, he⟩ hb => by
    rcases (he _).1 hb with h | h
    · exact A.lt h1 h
    · exact B.lt h2 h
def As.ex {α : Type} (f : α → As) : As where
  h w S := ∃ x, (f x).h w S
  loc := fun ⟨x, hx⟩ hs => ⟨x, (f x).loc hx hs⟩
  lt := fun ⟨x, hx⟩ hb => (f x).lt hx hb
/-- Nothing of memory. -/
def As.pure (p : Prop) : As where
  h _ S := p ∧ ∀ b, ¬ S b
  loc := fun h _ => h
  lt := fun h hb => (h.2 _ hb).elim
/-- All of a list, as one. -/
def As.all (l : List As) : As where
  h w S := sepL l w S
  loc := sepL_loc
  lt := sepL_lt

section
variable {E w : World} {l m : List As} {A B : As}
theorem Sep.star_out (H : Sep E w (A.star B :: l)) : Sep E w (A :: B :: l) := by
  refine ⟨H.os, H.tape, H.output, ?_⟩
  obtain ⟨S, S1, S2, ⟨T1, T2, g1, g2, gd, ge⟩, h2, hd, he⟩ := H.own
  exact ⟨S, T1, fun b => T2 b ∨ S2 b, g1, ⟨T2, S2, g2, h2, fun b hb => hd b ((ge b).2 (.inr hb)), fun b => Iff.rfl⟩, fun b hb h => h.elim (gd b hb) (hd b ((ge b).2 (.inl hb))), fun b => by rw [he b, ge b, or_assoc]⟩
theorem Sep.star_in (H : Sep E w (A :: B :: l)) : Sep E w (A.star B :: l) := by
  refine ⟨H.os, H.tape, H.output, ?_⟩
  obtain ⟨S, T1, U, g1, ⟨T2, S2, g2, h2, gd, ge⟩, hd, he⟩ := H.own
  exact ⟨S, fun b => T1 b ∨ T2 b, S2, ⟨T1, T2, g1, g2, fun b hb h => hd b hb ((ge b).2 (.inl h)), fun b => Iff.rfl⟩, h2, fun b hb h => hb.elim (fun h1 => hd b h1 ((ge b).2 (.inr h))) (fun h1 => gd b h1 h), fun b => by rw [he b, ge b, or_assoc]⟩
theorem Sep.ex_out {α : Type} {f : α → As} (H : Sep E w (As.ex f :: l)) : ∃ x, Sep E w (f x :: l) := by
  obtain ⟨S, S1, S2, ⟨x, hx⟩, r⟩ := H.own
  exact ⟨x, H.os, H.tape, H.output, S, S1, S2, hx, r⟩
theorem Sep.ex_in {α : Type} {f : α → As} (x : α) (H : Sep E w (f x :: l)) : Sep E w (As.ex f :: l) := by
  obtain ⟨S, S1, S2, hx, r⟩ := H.own
  exact ⟨H.os, H.tape, H.output, S, S1, S2, ⟨x, hx⟩, r⟩
theorem Sep.pure_out {p : Prop} (H : Sep E w (As.pure p :: l)) : p ∧ Sep E w l := by
  obtain ⟨_, S1, S2, ⟨hp, _⟩, h2, _⟩ := H.own
  exact ⟨hp, H.os, H.tape, H.output, S2, h2⟩
theorem Sep.pure_in {p : Prop} (hp : p) (H : Sep E w l) : Sep E w (As.pure p :: l) := by
  obtain ⟨S, hS⟩ := H.own
  exact ⟨H.os, H.tape, H.output, S, fun _ => False, S, ⟨hp, fun _ h => h⟩, hS, fun _ h => h.elim, fun b => by simp⟩
theorem Sep.all_out (H : Sep E w (As.all m :: l)) : Sep E w (m ++ l) := by
  refine ⟨H.os, H.tape, H.output, ?_⟩
  obtain ⟨S, hS⟩ := H.own
  clear H
  refine ⟨S, ?_⟩
  induction m generalizing S with
  | nil =>
    obtain ⟨S1, S2, h1, h2, hd, he⟩ := hS
    have : S = S2 := funext fun b => propext ((he b).trans ⟨fun h => h.resolve_left (h1 b), .inr⟩)
    subst this
    exact h2
  | cons A m ih =>
    obtain ⟨S1, S2, ⟨T1, T2, g1, g2, gd, ge⟩, h2, hd, he⟩ := hS
    refine ⟨T1, fun b => T2 b ∨ S2 b, g1, ih _ ⟨T2, S2, g2, h2, fun b hb => hd b ((ge b).2 (.inr hb)), fun b => Iff.rfl⟩, fun b hb h => h.elim (gd b hb) (hd b ((ge b).2 (.inl hb))), fun b => ?_⟩
    rw [he b, ge b, or_assoc]
theorem Sep.all_in (H : Sep E w (m ++ l)) : Sep E w (As.all m :: l) := by
  refine ⟨H.os, H.tape, H.output, ?_⟩
  obtain ⟨S, hS⟩ := H.own
  clear H
  refine ⟨S, ?_⟩
  induction m generalizing S with
  | nil => exact ⟨fun _ => False, S, fun _ h => h, hS, fun _ h => h.elim, fun b => by simp⟩
  | cons A m ih =>
    obtain ⟨T1, U, g1, hU, gd, ge⟩ := hS
    obtain ⟨T2, S2, h2, h3, hd, he⟩ := ih U hU
    refine ⟨fun b => T1 b ∨ T2 b, S2, ⟨T1, T2, g1, h2, fun b hb h => gd b hb ((he b).2 (.inl h)), fun b => Iff.rfl⟩, h3, fun b hb h => ?_, fun b => ?_⟩
    · rcases hb with hb | hb
      · exact gd b hb ((he b).2 (.inr h))
      · exact hd b hb h
    · rw [ge b, he b, or_assoc]
end

/-- All that lay in w0 lies as it lay. -/
def old (w0 : World) : As where
  h w S := w0.heap.size ≤ w.heap.size ∧ (∀ b, S b ↔ b.1 < w0.heap.size) ∧ ∀ b, b < w0.heap.size → w.heap[b]? = w0.heap[b]?
  loc := fun {w w' S} ⟨h1, h2, h3⟩ hs => by
    have h4 : ∀ b, b < w0.heap.size → w'.heap[b]? = w0.heap[b]? := fun b hb => (heap_of_lk fun i => hs (b, i) ((h2 _).2 hb)).trans (h3 b hb)
    refine ⟨?_, h2, h4⟩
    rcases Nat.eq_zero_or_pos w0.heap.size with h | h
    · omega
    · have e := h4 (w0.heap.size - 1) (by omega)
      rw [Array.getElem?_eq_getElem (by omega : w0.heap.size - 1 < w0.heap.size)] at e
      have := (Array.getElem?_eq_some_iff.1 e).1
      omega
  lt := fun ⟨h1, h2, _⟩ hb => by have := (h2 _).1 hb; omega

theorem Sep.old_in (w : World) : Sep w w [old w] :=
  ⟨rfl, rfl, ⟨rfl, Nat.le_refl _⟩, fun b => b.1 < w.heap.size, fun b => b.1 < w.heap.size, fun _ => False, ⟨Nat.le_refl _, fun _ => Iff.rfl, fun _ _ => rfl⟩, fun _ h => h, fun _ _ h => h, fun b => by simp⟩
theorem Sep.below {E w w0 : World} {l : List As} (H : Sep E w l) (hh : Has (old w0) l) (ho : w0.os = E.os) (ht : w0.tape = E.tape) (hp : w0.output = E.output) : Below w0.heap.size w0 w := by
  obtain ⟨S, h1, _, h3⟩ := H.has hh
  exact ⟨H.os.trans ho.symm, H.tape.trans ht.symm, H.output.1.trans hp.symm, h1, h3⟩
/-- What was proved with all old memory untouched holds with whatever assertions on it. -/
theorem Sep.unold {E w w' : World} {l m : List As} (H : Sep E w l) (H' : Sep w w' (old w :: m)) : Sep E w' (m ++ l) := by
  obtain ⟨S, hS⟩ := H.own
  obtain ⟨U, S1, S2, ⟨g1, g2, g3⟩, h2, hd, he⟩ := H'.own
  have h3 : sepL l w' S := sepL_loc hS fun b hb => lk_of_heap (g3 b.1 (sepL_lt hS hb))
  have hd' : ∀ b, S2 b → ¬ S b := fun b hb h => hd b ((g2 b).2 (sepL_lt hS h)) hb
  refine ⟨H'.os.trans H.os, H'.tape.trans H.tape, out_trans H'.output H.output, ?_⟩
  clear H H' he hS hd g1 g2 g3
  induction m generalizing S2 with
  | nil => exact ⟨S, h3⟩
  | cons A m ih =>
    obtain ⟨T1, T2, k1, k2, kd, ke⟩ := h2
    obtain ⟨V, hV⟩ : ∃ V, sepL (m ++ l) w' V ∧ ∀ b, T1 b → ¬ V b := by
      clear ih
      have hT1 : ∀ b, T1 b → ¬ S b := fun b hb => hd' b ((ke b).2 (.inl hb))
      have hT2 : ∀ b, T2 b → ¬ S b := fun b hb => hd' b ((ke b).2 (.inr hb))
      clear ke hd' k1
      suffices h : ∀ (m : List As) (T2 : Loc → Prop), sepL m w' T2 → (∀ b, T2 b → ¬ S b) → ∃ V, sepL (m ++ l) w' V ∧ ∀ b, V b ↔ T2 b ∨ S b by
        obtain ⟨V, h1, h2⟩ := h m T2 k2 hT2
        exact ⟨V, h1, fun b hb h => ((h2 b).1 h).elim (kd b hb) (hT1 b hb)⟩
      intro m
      induction m with
      | nil => exact fun T2 k _ => ⟨S, h3, fun b => ⟨.inr, fun h => h.resolve_left (k b)⟩⟩
      | cons C m ih =>
        rintro T ⟨R1, R2, r1, r2, rd, re⟩ hT
        obtain ⟨V, v1, v2⟩ := ih R2 r2 fun b hb => hT b ((re b).2 (.inr hb))
        refine ⟨fun b => R1 b ∨ V b, ⟨R1, V, r1, v1, fun b hb h => ((v2 b).1 h).elim (rd b hb) (hT b ((re b).2 (.inl hb))), fun b => Iff.rfl⟩, fun b => ?_⟩
        show R1 b ∨ V b ↔ _
        rw [v2 b, re b, or_assoc]
    exact ⟨fun b => T1 b ∨ V b, T1, V, k1, hV.1, hV.2, fun b => Iff.rfl⟩
end Go.Pse
