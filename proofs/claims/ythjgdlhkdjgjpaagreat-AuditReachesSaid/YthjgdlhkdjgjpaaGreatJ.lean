/-
  Own layer, part 2: the judgement 'from whatever world of these assertions and whatever frame of these slots on': regions, tests, loops, calls, returns.
-/
import Derived.Test.YthjgdlhkdjgjpaaGreatSep
namespace Go.Pse
open Go.RowKit

abbrev Env := List (Nat × Value)
def get : Env → Nat → Option Value
  | [], _ => none
  | (k, u) :: F, t => bif Nat.beq k t then some u else get F t

theorem get_cons (d : Nat) (v : Value) (F : Env) (t : Nat) : get ((d, v) :: F) t = if d = t then some v else get F t := by
  show (bif Nat.beq d t then some v else get F t) = _
  by_cases e : d = t
  · subst e; simp
  · have : Nat.beq d t = false := by cases hb : Nat.beq d t with | false => rfl | true => exact absurd (Nat.eq_of_beq_eq_true hb) e
    rw [this, if_neg e]; rfl

structure Fr (n : Nat) (F : Env) (a : Act) : Prop where
  size : a.tmps.size = n
  defers : a.defers = []
  get : ∀ t v, get F t = some v → a.tmps[t]? = some v

def evl (F : Env) : Operand → Option Value
  | .tmp t => get F t
  | .const v => some v
  | .global g => some (.pointer (some ⟨g, 0, none⟩))
  | .func f => some (.func (.func f) #[] #[])

section
variable {n : Nat} {F : Env} {a : Act} {d : Nat} {v : Value} {x : Operand}
theorem Fr.evl (h : Fr n F a) (hx : evl F x = some v) : a.eval x = v := by
  cases x with
  | tmp t => simp [Act.eval, h.get t v hx]
  | _ => simpa [Pse.evl, Act.eval] using hx
theorem Fr.put (h : Fr n F a) (hd : Nat.blt d n = true) : Fr n ((d, v) :: F) (a.put (some d) v) := by
  have hd' : d < n := by simpa using hd
  refine ⟨by simp [Act.put, h.size], h.defers, fun t u hu => ?_⟩
  rw [get_cons] at hu
  by_cases e : d = t
  · subst e
    simp at hu
    simp [Act.put, h.size, hd', hu]
  · rw [if_neg e] at hu
    simp only [Act.put]
    rw [Array.getElem?_setIfInBounds_ne e]
    exact h.get t u hu
end

/-- What stands in a frame's slots, forgotten but for some. -/
inductive Keep (F : Env) : Env → Prop where
  | nil : Keep F []
  | cons {t : Nat} {v : Value} {F' : Env} (ht : get F t = some v) (h : Keep F F') : Keep F ((t, v) :: F')
theorem Keep.get {F F' : Env} (h : Keep F F') : ∀ t v, get F' t = some v → get F t = some v := by
  induction h with
  | nil => intro t v h; cases h
  | cons ht _ ih =>
    intro t v hv
    rw [get_cons] at hv
    split at hv
    · rename_i hb; rw [← hb]; rw [← hv]; exact ht
    · exact ih t v hv
theorem Fr.keep {n : Nat} {F F' : Env} {a : Act} (h : Fr n F a) (k : Keep F F') : Fr n F' a := ⟨h.size, h.defers, fun t v hv => h.get t v (k.get t v hv)⟩

/-- From a list of assertions others, some dropped. -/
inductive Sub : List As → List As → Prop where
  | nil {l : List As} : Sub l []
  | cons {A : As} {l m l' : List As} (hp : Pick A l m) (h : Sub m l') : Sub l (A :: l')
theorem Sub.sep {E w : World} {l l' : List As} (h : Sub l l') : Sep E w l → Sep E w l' := by
  suffices ∀ S, sepL l w S → ∃ S', sepL l' w S' ∧ ∀ b, S' b → S b from fun H => ⟨H.os, H.tape, H.output, let ⟨S, hS⟩ := H.own; let ⟨S', h', _⟩ := this S hS; ⟨S', h'⟩⟩
  induction h with
  | nil => exact fun _ _ => ⟨fun _ => False, fun _ h => h, fun _ h => h.elim⟩
  | cons hp _ ih =>
    intro S hS
    obtain ⟨S1, S2, h1, h2, hd, he⟩ := pick_sep hp hS
    obtain ⟨S', h', hs⟩ := ih S2 h2
    exact ⟨fun b => S1 b ∨ S' b, ⟨S1, S', h1, h', fun b hb h => hd b hb (hs b h), fun b => Iff.rfl⟩, fun b hb => (he b).2 (hb.imp id (hs b))⟩
theorem Pick.lift {A B : As} {l m : List As} (h : Pick A l m) : Pick A (B :: l) (B :: m) := .there h
theorem Sub.drop {A : As} {l m : List As} (h : Sub l m) : Sub (A :: l) m := by
  induction h generalizing A with
  | nil => exact .nil
  | cons hp _ ih => exact .cons (.there hp) ih
theorem Sub.refl : ∀ {l : List As}, Sub l l
  | [] => .nil
  | _ :: _ => .cons .here Sub.refl

/-- THE JUDGEMENT. -/
def Jk (E : World) (l : List As) (n : Nat) (F : Env) (K : Act → World → Prop) : Prop := ∀ w a, Sep E w l → Fr n F a → K a w
def Jop (P : Program) (ops : Array Oper) (Q : Exit → Act → World → Prop) (o : Oper) (E : World) (l : List As) (n : Nat) (F : Env) (K : Act → World → Prop) : Prop :=
  ∀ w a, Sep E w l → Fr n F a → if Region.wanted o (yielded ops a.tmps) = true then o.wp P a w K Q else K (a.put o.dst undef) w

section
variable {P : Program} {ops : Array Oper} {Q : Exit → Act → World → Prop} {E : World} {l l' : List As} {n : Nat} {F : Env} {K : Act → World → Prop}

theorem J_sub (h : Sub l l') (k : Jk E l' n F K) : Jk E l n F K := fun w a H hF => k w a (h.sep H) hF
theorem J_keep {F' : Env} (h : Keep F F') (k : Jk E l n F' K) : Jk E l n F K := fun w a H hF => k w a H (hF.keep h)
theorem J_pick {A : As} (h : Pick A l l') (k : Jk E (A :: l') n F K) : Jk E l n F K := fun w a H hF => k w a (H.pick h) hF
theorem J_unpick {A : As} (h : Pick A l l') (k : Jk E l n F K) : Jk E (A :: l') n F K := fun w a H hF => k w a (H.unpick h) hF
theorem J_ex {α : Type} {f : α → As} (k : ∀ x, Jk E (f x :: l) n F K) : Jk E (As.ex f :: l) n F K := fun w a H hF => let ⟨x, H'⟩ := H.ex_out; k x w a H' hF
theorem J_ex_in {α : Type} {f : α → As} (x : α) (k : Jk E (As.ex f :: l) n F K) : Jk E (f x :: l) n F K := fun w a H hF => k w a (H.ex_in x) hF
theorem J_star {A B : As} (k : Jk E (A :: B :: l) n F K) : Jk E (A.star B :: l) n F K := fun w a H hF => k w a H.star_out hF
theorem J_star_in {A B : As} (k : Jk E (A.star B :: l) n F K) : Jk E (A :: B :: l) n F K := fun w a H hF => k w a H.star_in hF
theorem J_pure {p : Prop} (k : p → Jk E l n F K) : Jk E (As.pure p :: l) n F K := fun w a H hF => let ⟨hp, H'⟩ := H.pure_out; k hp w a H' hF
theorem J_pure_in {p : Prop} (hp : p) (k : Jk E (As.pure p :: l) n F K) : Jk E l n F K := fun w a H hF => k w a (H.pure_in hp) hF
theorem J_all {m : List As} (k : Jk E (m ++ l) n F K) : Jk E (As.all m :: l) n F K := fun w a H hF => k w a H.all_out hF
theorem J_all_in {m : List As} (k : Jk E (As.all m :: l) n F K) : Jk E (m ++ l) n F K := fun w a H hF => k w a H.all_in hF
/-- A fact of the world's assertions. -/
theorem J_know {p : Prop} (h : ∀ w, Sep E w l → p) (k : p → Jk E l n F K) : Jk E l n F K := fun w a H hF => k (h w H) w a H hF
theorem J_imp {A B : As} (h : ∀ w S, A.h w S → ∃ S', B.h w S' ∧ ∀ b, S' b → S b) (k : Jk E (B :: l) n F K) : Jk E (A :: l) n F K := fun w a H hF => k w a (H.imp (h w)) hF
theorem J_to (h : ∀ w, Sep E w l → Sep E w l') (k : Jk E l' n F K) : Jk E l n F K := fun w a H hF => k w a (h w H) hF

/-! ### Regions -/
theorem J_region {id : Nat} {os : List Oper} (k : Jk E l n F (wpList P os.toArray Q os)) : Jk E l n F ((Code.region id os.toArray false).wp P Q) :=
  fun w a H hF => wp_region_lit (k w a H hF)
theorem L_nil (k : Jk E l n F (Q .normal)) : Jk E l n F (wpList P ops Q []) := k
theorem L_op {o : Oper} {rest : List Oper} (k : Jop P ops Q o E l n F (wpList P ops Q rest)) : Jk E l n F (wpList P ops Q (o :: rest)) :=
  fun w a H hF => by
    have := k w a H hF
    unfold wpList
    split
    · rename_i hw; rw [if_pos hw] at this; exact .inl this
    · rename_i hw; rw [if_neg hw] at this; exact this
theorem J_draw {id : Nat} {os : List Oper} (hm : P.follows .mixedOrders = true)
    (k : Jk E l n F (wpAny P .any os.toArray Q os.toArray.size (Array.replicate os.toArray.size false))) : Jk E l n F ((Code.region id os.toArray true).wp P Q) :=
  fun w a H hF => wp_region_any hm (k _ a H.drew hF)
/-- Each operation that may come up next. -/
theorem A_ready {rs : List Nat} {fuel : Nat} {listed : Array Bool} (hr : Region.ready .any ops listed = rs) (hne : rs ≠ [])
    (h : ∀ i ∈ rs, ∃ o, ops[i]? = some o ∧ Jop P ops Q o E l n F (wpAny P .any ops Q fuel (listed.setIfInBounds i true))) :
    Jk E l n F (wpAny P .any ops Q (fuel + 1) listed) := fun w a H hF => by
  refine wpAny_ready hr hne fun i hi => ?_
  obtain ⟨o, ho, k⟩ := h i hi
  have := k w a H hF
  unfold wpOp
  rw [ho]
  dsimp only
  split
  · rename_i hw; rw [if_pos hw] at this; exact .inl this
  · rename_i hw; rw [if_neg hw] at this; exact this
theorem A_done {fuel : Nat} {listed : Array Bool} (hr : Region.ready .any ops listed = []) (k : Jk E l n F (Q .normal)) : Jk E l n F (wpAny P .any ops Q fuel listed) :=
  fun w a H hF => wpAny_done hr (k w a H hF) fuel
/-- One alone may come up. -/
theorem A_one {i : Nat} {o : Oper} {fuel : Nat} {listed : Array Bool} (hr : Region.ready .any ops listed = [i]) (ho : ops[i]? = some o)
    (k : Jop P ops Q o E l n F (wpAny P .any ops Q fuel (listed.setIfInBounds i true))) : Jk E l n F (wpAny P .any ops Q (fuel + 1) listed) :=
  A_ready hr (by simp) fun j hj => by
    obtain rfl := List.mem_singleton.1 hj
    exact ⟨o, ho, k⟩
/-- An operation that yields a value in whatever world, taken first. -/
def Pur (P : Program) (o : Oper) (F : Env) (n : Nat) (v : Value) : Prop := ∀ a, Fr n F a → ∀ w, (execOp a.eval o).run P w = .ok (.value v) w
theorem A_take {i : Nat} {o : Oper} {v : Value} {d : Nat} {fuel : Nat} {listed : Array Bool} (ho : ops[i]? = some o) (hd : o.dst = some d) (hdn : Nat.blt d n = true) (hg : o.guard = none)
    (hs : Region.noSelect ops = true) (hf : Region.free .any ops listed i = true) (hr : (Region.ready .any ops listed).contains i = true)
    (hQ : ∀ c a v w, Q (.panic c) (a.put (some d) v) w → Q (.panic c) a w) (hv : Pur P o F n v)
    (k : Jk E l n ((d, v) :: F) (wpAny P .any ops Q fuel (listed.setIfInBounds i true))) : Jk E l n F (wpAny P .any ops Q (fuel + 1) listed) :=
  fun w a H hF => wpAny_take ho hs hf hr (by rw [hd]; exact fun c a w => hQ c a v w) (Or.inl ⟨by simp [Region.wanted, hg], hv a hF⟩) (by rw [hd]; exact k w _ H (hF.put hdn))

/-! ### Guards -/
theorem G_on {dst : Option Tmp} {op : Op} {T : TypeId} {p : String} {e : Array Edge} {j t : Nat} {b : Bool} {og : Oper} (hj : ops[j]? = some og) (ht : og.dst = some t) (hb : get F t = some (.bool b))
    (k : Jop P ops Q ⟨dst, op, T, p, e, none⟩ E l n F K) : Jop P ops Q ⟨dst, op, T, p, e, some (j, b)⟩ E l n F K := fun w a H hF => by
  have h0 : yielded ops a.tmps j = some b := by simp [yielded, hj, ht, hF.get t _ hb]
  have := k w a H hF
  simp only [Region.wanted, if_true] at this
  simp only [Region.wanted, h0]
  simpa [Oper.wp, execOp, Oper.upon] using this
theorem G_off {dst : Option Tmp} {op : Op} {T : TypeId} {p : String} {e : Array Edge} {j t : Nat} {b c : Bool} {og : Oper} (hj : ops[j]? = some og) (ht : og.dst = some t) (hb : get F t = some (.bool b)) (hc : (b == c) = false)
    {d : Nat} (hd : dst = some d) (hdn : Nat.blt d n = true) (k : Jk E l n ((d, undef) :: F) K) : Jop P ops Q ⟨dst, op, T, p, e, some (j, c)⟩ E l n F K := fun w a H hF => by
  have h0 : yielded ops a.tmps j = some b := by simp [yielded, hj, ht, hF.get t _ hb]
  have h1 : Region.wanted (⟨dst, op, T, p, e, some (j, c)⟩ : Oper) (yielded ops a.tmps) = false := by simp only [Region.wanted, h0]; cases b <;> cases c <;> first | rfl | (simp at hc)
  rw [h1]
  subst hd
  exact k w _ H (hF.put hdn)

/-! ### Control -/
theorem J_seq {x y : Code} (k : Jk E l n F (x.wp P (Exit.then (y.wp P Q) Q))) : Jk E l n F ((Code.seq x y).wp P Q) := fun w a H hF => wp_seq (k w a H hF)
theorem J_skip (k : Jk E l n F (Q .normal)) : Jk E l n F (Code.skip.wp P Q) := fun w a H hF => wp_skip (k w a H hF)
theorem J_exit {i : Nat} (k : Jk E l n F (Q (.exit i))) : Jk E l n F ((Code.exit i).wp P Q) := fun w a H hF => wp_exit (k w a H hF)
theorem J_ret (k : Jk E l n F (Q .ret)) : Jk E l n F (Code.ret.wp P Q) := fun w a H hF => wp_ret (k w a H hF)
theorem J_block {i : Nat} {c : Code} (k : Jk E l n F (c.wp P (Exit.inBlock i Q))) : Jk E l n F ((Code.block i c).wp P Q) := fun w a H hF => wp_block (k w a H hF)
theorem Q_then {N : Act → World → Prop} (k : Jk E l n F N) : Jk E l n F (Exit.then N Q .normal) := k
theorem Q_then_exit {N : Act → World → Prop} {i : Nat} (k : Jk E l n F (Q (.exit i))) : Jk E l n F (Exit.then N Q (.exit i)) := k
theorem Q_then_ret {N : Act → World → Prop} (k : Jk E l n F (Q .ret)) : Jk E l n F (Exit.then N Q .ret) := k
theorem Q_blk_normal {i : Nat} (k : Jk E l n F (Q .normal)) : Jk E l n F (Exit.inBlock i Q .normal) := k
theorem Q_blk_ret {i : Nat} (k : Jk E l n F (Q .ret)) : Jk E l n F (Exit.inBlock i Q .ret) := k
theorem Q_blk_this {i : Nat} (k : Jk E l n F (Q .normal)) : Jk E l n F (Exit.inBlock i Q (.exit i)) := fun w a H hF => by show (if i = i then _ else _); rw [if_pos rfl]; exact k w a H hF
theorem Q_blk_other {i j : Nat} (h : Nat.beq j i = false) (k : Jk E l n F (Q (.exit j))) : Jk E l n F (Exit.inBlock i Q (.exit j)) := fun w a H hF => by
  show (if j = i then _ else _)
  rw [if_neg (fun e => by subst e; simp at h)]
  exact k w a H hF
theorem C_true {c : Operand} {x y : Code} (hc : evl F c = some (.bool true)) (k : Jk E l n F (x.wp P Q)) : Jk E l n F ((Code.cond c x y).wp P Q) := fun w a H hF => wp_cond_true (hF.evl hc) (k w a H hF)
theorem C_false {c : Operand} {x y : Code} (hc : evl F c = some (.bool false)) (k : Jk E l n F (y.wp P Q)) : Jk E l n F ((Code.cond c x y).wp P Q) := fun w a H hF => wp_cond_false (hF.evl hc) (k w a H hF)
theorem C_split {c : Operand} {x y : Code} {b : Bool} (hc : evl F c = some (.bool b)) (kt : b = true → Jk E l n F (x.wp P Q)) (kf : b = false → Jk E l n F (y.wp P Q)) : Jk E l n F ((Code.cond c x y).wp P Q) :=
  fun w a H hF => wp_cond_split (hF.evl hc) (fun h => kt h w a H hF) (fun h => kf h w a H hF)
theorem C_dec {c : Operand} {x y : Code} {p : Prop} [Decidable p] (hc : evl F c = some (.bool (decide p))) (kt : p → Jk E l n F (x.wp P Q)) (kf : ¬ p → Jk E l n F (y.wp P Q)) : Jk E l n F ((Code.cond c x y).wp P Q) :=
  C_split hc (fun h => kt (of_decide_eq_true h)) (fun h => kf (of_decide_eq_false h))
/-- The slot's Bool said otherwise. -/
theorem J_bool {t : Nat} {b c : Bool} (ht : get F t = some (.bool b)) (h : b = c) (k : Jk E l n ((t, .bool c) :: F) K) : Jk E l n F K := fun w a H hF => k w a H ⟨hF.size, hF.defers, fun s v hv => by
  rw [get_cons] at hv
  split at hv
  · rename_i e; rw [← e, hF.get t _ ht, h]; exact hv
  · exact hF.get s v hv⟩
/-- A slot's value said otherwise. -/
theorem J_slot {t : Nat} {u v : Value} (ht : get F t = some u) (h : u = v) (k : Jk E l n ((t, v) :: F) K) : Jk E l n F K := fun w a H hF => k w a H ⟨hF.size, hF.defers, fun s x hx => by
  rw [get_cons] at hx
  split at hx
  · rename_i e; rw [← e, hF.get t _ ht, h]; exact hx
  · exact hF.get s x hx⟩

/-! ### Loops: the state of a round is told by a ghost x -/
theorem wp_loop_ghost {α : Type} {c : Code} {a : Act} {w : World} (I : α → Act → World → Prop) (μ : α → Nat) {x0 : α} (h0 : I x0 a w)
    (round : ∀ x a w, I x a w → c.wp P (Exit.then (fun a' w' => ∃ y, μ y < μ x ∧ I y a' w') Q) a w) : (Code.loop c).wp P Q a w := by
  intro b k cs
  have key : ∀ m x a w, μ x = m → I x a w → ∃ e a' w', Q e a' w' ∧ Arrives P (lone (b.at a (.code c :: .inLoop c :: k)) cs w) b k cs e a' w' := by
    intro m
    induction m using Nat.strongRecOn with
    | _ m ih =>
      intro x a w hm hI
      obtain ⟨e, a₁, w₁, hq, harr⟩ := round x a w hI b (.inLoop c :: k) cs
      cases e with
      | normal =>
        obtain ⟨y, hlt, hI₁⟩ := hq
        obtain ⟨e₂, a₂, w₂, hq₂, harr₂⟩ := ih (μ y) (hm ▸ hlt) y a₁ w₁ rfl hI₁
        exact ⟨e₂, a₂, w₂, hq₂, .of_steps (Steps.trans harr (.one step_inLoop)) harr₂⟩
      | exit id => exact ⟨_, a₁, w₁, hq, .pass (x := .inLoop c) rfl (fun _ _ => .inl (by simp)) harr⟩
      | goto l => exact ⟨_, a₁, w₁, hq, .pass (x := .inLoop c) rfl (fun _ _ => .inl (by simp)) harr⟩
      | ret => exact ⟨_, a₁, w₁, hq, .pass (x := .inLoop c) rfl (fun _ _ => .inl (by simp)) harr⟩
      | panic ch => exact ⟨_, a₁, w₁, hq, .pass (x := .inLoop c) rfl (fun _ _ => .inl (by simp)) harr⟩
      | outgrown => exact ⟨_, a₁, w₁, hq, .pass (x := .inLoop c) rfl (fun _ _ => .inl (by simp)) harr⟩
  obtain ⟨e, a', w', hq, harr⟩ := key _ x0 a w rfl h0
  exact ⟨e, a', w', hq, .of_steps (.one step_loop) harr⟩

def Again {α : Type} (E : World) (R : α → Prop) (L : α → List As) (n : Nat) (G : α → Env) (μ : α → Nat) (x : α) (a : Act) (w : World) : Prop :=
  ∃ y, μ y < μ x ∧ (R y ∧ Sep E w (L y) ∧ Fr n (G y) a)
theorem J_loop {α : Type} {c : Code} (R : α → Prop) (L : α → List As) (G : α → Env) (μ : α → Nat) (x0 : α) (hR : R x0) (hl : Sub l (L x0)) (hF0 : Keep F (G x0))
    (round : ∀ x, R x → Jk E (L x) n (G x) (c.wp P (Exit.then (Again E R L n G μ x) Q))) : Jk E l n F ((Code.loop c).wp P Q) := fun w a H hF =>
  wp_loop_ghost (fun x a w => R x ∧ Sep E w (L x) ∧ Fr n (G x) a) μ (x0 := x0) ⟨hR, hl.sep H, hF.keep hF0⟩ fun x a w ⟨h0, h1, h2⟩ => round x h0 w a h1 h2
theorem J_again {α : Type} {R : α → Prop} {L : α → List As} {G : α → Env} {μ : α → Nat} {x : α} (y : α) (hμ : μ y < μ x) (hR : R y) (hl : Sub l (L y)) (hF0 : Keep F (G y)) : Jk E l n F (Again E R L n G μ x) :=
  fun _ _ H hF => ⟨y, hμ, hR, hl.sep H, hF.keep hF0⟩
/-- A cut: the state behind a piece of code, told by a ghost. -/
theorem J_cut {α : Type} {x y : Code} (L : α → List As) (G : α → Env)
    (hx : Jk E l n F (x.wp P (Exit.then (fun a w => ∃ z, Sep E w (L z) ∧ Fr n (G z) a) Q))) (hy : ∀ z, Jk E (L z) n (G z) (y.wp P Q)) : Jk E l n F ((Code.seq x y).wp P Q) := fun w a H hF =>
  wp_seq (wp_mono (hx w a H hF) fun e a w q => by
    cases e with
    | normal => obtain ⟨z, h1, h2⟩ := q; exact hy z w a h1 h2
    | _ => exact q)
theorem J_at {α : Type} {L : α → List As} {G : α → Env} (z : α) (hl : Sub l (L z)) (hF0 : Keep F (G z)) : Jk E l n F (fun a w => ∃ z, Sep E w (L z) ∧ Fr n (G z) a) :=
  fun _ _ H hF => ⟨z, hl.sep H, hF.keep hF0⟩

/-! ### Calls -/
/-- A contract: called in a world of the assertions l, f hands back some 'rv x' and leaves the assertions 'L x'. -/
def Con {α : Type} (P : Program) (f : FuncId) (args : Array Value) (E : World) (l : List As) (rv : α → Value) (L : α → List As) : Prop :=
  ∀ w, Sep E w l → Calls P f args w fun e w' => ∃ x, e = .returned (rv x) ∧ Sep E w' (L x)
theorem Con.sub {α : Type} {f : FuncId} {args : Array Value} {rv : α → Value} {L : α → List As} (h : Con P f args E l' rv L) (hl : Sub l l') : Con P f args E l rv L := fun w H => h w (hl.sep H)
/-- A function's body. -/
theorem Con.body {α : Type} {f : FuncId} {fn : Func} {c : Code} {vs : List Value} {rv : α → Value} {L : α → List As} (hf : P.funcs[f]? = some fn) (hb : fn.body = some c) (hn : max vs.length fn.ntmps = n) (F : Env)
    (hF : ∀ t v, get F t = some v → vs[t]? = some v)
    (k : Jk E l n F (c.wp P (bodyPost P fn fun e w' => ∃ x, e = .returned (rv x) ∧ Sep E w' (L x)))) : Con P f vs.toArray E l rv L := fun w H =>
  calls_of_wp hf hb (k w _ H ⟨by subst hn; simp; omega, rfl, fun t v hv => by
    have h1 := hF t v hv
    have h2 := (List.getElem?_eq_some_iff.1 h1).1
    show (vs.toArray ++ Array.replicate (fn.ntmps - vs.toArray.size) undef)[t]? = some v
    rw [Array.getElem?_append_left (by simpa using h2)]
    simpa using h1⟩)

inductive Args (F : Env) : List Operand → List Value → Prop where
  | nil : Args F [] []
  | cons {x : Operand} {v : Value} {xs : List Operand} {vs : List Value} (hx : evl F x = some v) (h : Args F xs vs) : Args F (x :: xs) (v :: vs)
theorem Args.map {xs : List Operand} {vs : List Value} {a : Act} (h : Args F xs vs) (hF : Fr n F a) : xs.map a.eval = vs := by
  induction h with
  | nil => rfl
  | cons hx _ ih => simp [hF.evl hx, ih]
inductive Parts (F : Env) : List (Nat × Operand) → List (Nat × Value) → Prop where
  | nil : Parts F [] []
  | cons {i : Nat} {x : Operand} {v : Value} {xs : List (Nat × Operand)} {vs : List (Nat × Value)} (hx : evl F x = some v) (h : Parts F xs vs) : Parts F ((i, x) :: xs) ((i, v) :: vs)
theorem Parts.map {xs : List (Nat × Operand)} {vs : List (Nat × Value)} {a : Act} (h : Parts F xs vs) (hF : Fr n F a) : xs.map (fun (i, x) => (i, a.eval x)) = vs := by
  induction h with
  | nil => rfl
  | cons hx _ ih => simp only [List.map_cons, hF.evl hx, ih]
/-- The call of a function, with what it has captured. -/
theorem x_callc {α : Type} {d : Nat} {T : TypeId} {p : String} {e : Array Edge} {c : Operand} {args : Array Operand} {ats : Array TypeId} {f : FuncId} {caps : Array Value} {fn : Func} {vs : List Value} {rv : α → Value} {L : α → List As}
    (hc : evl F c = some (.func (.func f) #[] caps)) (hf : P.funcs[f]? = some fn) (hn : (fn.name == "runtime.NumGoroutine") = false) (hb : fn.body.isNone = false)
    (hargs : Args F args.toList vs) (hd : Nat.blt d n = true)
    (hcon : Con P f (vs.toArray ++ caps) E l rv L) (k : ∀ x, Jk E (L x) n ((d, rv x) :: F) K) :
    Jop P ops Q ⟨some d, .call { callee := .value c, args := args, argTypes := ats }, T, p, e, none⟩ E l n F K := fun w a H hF => by
  have hargs' : args.map a.eval = vs.toArray := by
    apply Array.ext'
    rw [Array.toList_map, hargs.map hF]
  have hcall : ((execOp a.eval ⟨some d, .call { callee := .value c, args := args, argTypes := ats }, T, p, e, none⟩).run P w) = .ok (.enter f (vs.toArray ++ caps)) w := by
    simp only [execOp, resolve, hF.evl hc, hargs', Deferred.ofValue, invoke, callFunc]
    have hn' : ¬ fn.name = "runtime.NumGoroutine" := by simpa using hn
    have hb' : ¬ fn.body = none := by intro h; rw [h] at hb; cases hb
    simp [hf, hn', hb']
  have hw : Region.wanted (⟨some d, .call { callee := .value c, args := args, argTypes := ats }, T, p, e, none⟩ : Oper) (yielded ops a.tmps) = true := rfl
  rw [if_pos hw]
  unfold Oper.wp
  rw [hcall]
  show Calls P f (vs.toArray ++ caps) w _
  exact (hcon w H).mono fun e w' ⟨x, he, hs⟩ => by
    subst he
    exact k x w' _ hs (hF.put hd)
/-- The call of a function. -/
theorem x_call {α : Type} {d : Nat} {T : TypeId} {p : String} {e : Array Edge} {args : Array Operand} {ats : Array TypeId} {f : FuncId} {fn : Func} {vs : List Value} {rv : α → Value} {L : α → List As}
    (hf : P.funcs[f]? = some fn) (hn : (fn.name == "runtime.NumGoroutine") = false) (hb : fn.body.isNone = false) (hargs : Args F args.toList vs) (hd : Nat.blt d n = true)
    (hcon : Con P f vs.toArray E l rv L) (k : ∀ x, Jk E (L x) n ((d, rv x) :: F) K) :
    Jop P ops Q ⟨some d, .call { callee := .value (.func f), args := args, argTypes := ats }, T, p, e, none⟩ E l n F K :=
  x_callc (caps := #[]) rfl hf hn hb hargs hd (by simpa using hcon) k
theorem x_call_ {α : Type} {T : TypeId} {p : String} {e : Array Edge} {args : Array Operand} {ats : Array TypeId} {f : FuncId} {fn : Func} {vs : List Value} {rv : α → Value} {L : α → List As}
    (hf : P.funcs[f]? = some fn) (hn : (fn.name == "runtime.NumGoroutine") = false) (hb : fn.body.isNone = false) (hargs : Args F args.toList vs)
    (hcon : Con P f vs.toArray E l rv L) (k : ∀ x, Jk E (L x) n F K) :
    Jop P ops Q ⟨none, .call { callee := .value (.func f), args := args, argTypes := ats }, T, p, e, none⟩ E l n F K := fun w a H hF => by
  have hargs' : args.map a.eval = vs.toArray := by
    apply Array.ext'
    rw [Array.toList_map, hargs.map hF]
  have hcall : ((execOp a.eval ⟨none, .call { callee := .value (.func f), args := args, argTypes := ats }, T, p, e, none⟩).run P w) = .ok (.enter f vs.toArray) w := by
    simp only [execOp, resolve, Act.eval, hargs', Deferred.ofValue, invoke, callFunc]
    have hn' : ¬ fn.name = "runtime.NumGoroutine" := by simpa using hn
    have hb' : ¬ fn.body = none := by intro h; rw [h] at hb; cases hb
    simp [hf, hn', hb']
  have hw : Region.wanted (⟨none, .call { callee := .value (.func f), args := args, argTypes := ats }, T, p, e, none⟩ : Oper) (yielded ops a.tmps) = true := rfl
  rw [if_pos hw]
  unfold Oper.wp
  rw [hcall]
  show Calls P f vs.toArray w _
  exact (hcon w H).mono fun e w' ⟨x, he, hs⟩ => by
    subst he
    exact k x w' _ hs hF


theorem A_nil {fuel : Nat} {listed : Array Bool} : ∀ i ∈ ([] : List Nat), ∃ o, ops[i]? = some o ∧ Jop P ops Q o E l n F (wpAny P .any ops Q fuel (listed.setIfInBounds i true)) := fun _ h => by cases h
theorem A_cons {i : Nat} {rs : List Nat} {o : Oper} {fuel : Nat} {listed : Array Bool} (ho : ops[i]? = some o) (k : Jop P ops Q o E l n F (wpAny P .any ops Q fuel (listed.setIfInBounds i true)))
    (h : ∀ i ∈ rs, ∃ o, ops[i]? = some o ∧ Jop P ops Q o E l n F (wpAny P .any ops Q fuel (listed.setIfInBounds i true))) : ∀ j ∈ i :: rs, ∃ o, ops[j]? = some o ∧ Jop P ops Q o E l n F (wpAny P .any ops Q fuel (listed.setIfInBounds j true)) := fun j hj => by
  rcases List.mem_cons.1 hj with rfl | hj
  · exact ⟨o, ho, k⟩
  · exact h j hj
def enumF : Nat → List Value → Env
  | _, [] => []
  | i, v :: vs => (i, v) :: enumF (i + 1) vs
theorem enumF_get : ∀ (vs : List Value) (i t : Nat) (v : Value), get (enumF i vs) t = some v → i ≤ t ∧ vs[t - i]? = some v
  | [], _, _, _, h => by cases h
  | u :: vs, i, t, v, h => by
    simp only [enumF, get_cons] at h
    split at h
    · rename_i e; subst e; simp at h; subst h; simp
    · obtain ⟨h1, h2⟩ := enumF_get vs (i + 1) t v h
      refine ⟨by omega, ?_⟩
      rw [show t - i = (t - (i + 1)) + 1 by omega]
      simpa using h2
theorem env_ok (k : Nat) {vs : List Value} (h : enumF 0 vs = F) : ∀ t v, get F t = some v → vs[t]? = some v := fun t v hv => by
  subst h
  simpa using (enumF_get vs 0 t v hv).2
theorem J_gsplit {t : Nat} {b : Bool} (ht : get F t = some (.bool b)) (kt : b = true → Jk E l n ((t, .bool true) :: F) K) (kf : b = false → Jk E l n ((t, .bool false) :: F) K) : Jk E l n F K := by
  cases b
  · exact J_bool ht rfl (kf rfl)
  · exact J_bool ht rfl (kt rfl)
theorem J_endnormal {fn : Func} {R : Ending → World → Prop} (k : Jk E l n F (bodyPost P fn R .ret)) : Jk E l n F (bodyPost P fn R .normal) := k
theorem G_off_ {op : Op} {T : TypeId} {p : String} {e : Array Edge} {j t : Nat} {b c : Bool} {og : Oper} (hj : ops[j]? = some og) (ht : og.dst = some t) (hb : get F t = some (.bool b)) (hc : (b == c) = false)
    (k : Jk E l n F K) : Jop P ops Q ⟨none, op, T, p, e, some (j, c)⟩ E l n F K := fun w a H hF => by
  have h0 : yielded ops a.tmps j = some b := by simp [yielded, hj, ht, hF.get t _ hb]
  have h1 : Region.wanted (⟨none, op, T, p, e, some (j, c)⟩ : Oper) (yielded ops a.tmps) = false := by simp only [Region.wanted, h0]; cases b <;> cases c <;> first | rfl | (simp at hc)
  rw [h1]
  exact k w _ H hF
end
/-- What a step asks of the list of what is held, sought by itself. -/
theorem HS {A : As} {l : List As} (h : Has A l := by repeat (first | with_reducible exact Has.here | with_reducible assumption | with_reducible apply Has.there)) : Has A l := h
theorem PC {A : As} {l m : List As} (h : Pick A l m := by repeat (first | with_reducible exact Pick.here | with_reducible assumption | with_reducible apply Pick.there)) : Pick A l m := h
theorem RO {A B : As} {l m : List As} (h : Rep1 A B l m := by repeat (first | with_reducible exact Rep1.here | with_reducible apply Rep1.there)) : Rep1 A B l m := h
theorem SU {l m : List As} (h : Sub l m := by repeat (first | exact Sub.nil | exact Sub.refl | refine Sub.cons (by repeat (first | exact Pick.here | apply Pick.there)) ?_ | refine Sub.drop ?_)) : Sub l m := h
theorem KE {F G : Env} (h : Keep F G := by repeat (first | exact Keep.nil | refine Keep.cons rfl ?_)) : Keep F G := h

end Go.Pse
