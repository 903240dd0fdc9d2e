/-
  Own layer: ranges over functions, as far as slices.AppendSeq needs them: rounds, the call of yield, the statement.
-/
import Derived.Test.YthjgdlhkdjgjpaaGreatIter
import Derived.RangeFuncIn
import Derived.RangeFuncSeq
import Derived.RangeFuncRecord
import Derived.RangeFuncLeaves
import Derived.RangeFuncCalls
import Derived.TacticsIn
namespace Go.Pse
open Go.RowKit

/-- A loop's record in block l: the frame that it was begun in knows F. -/
def loopR (n : Nat) (F : Env) (ps : Array Tmp) (assign body : Code) (D l : Nat) (st : LoopState) : As where
  h w S := (∃ fn tmps, Fr n F { tmps := tmps, defers := [] } ∧ w.heap[l]? = some (.loop { state := st, pending := none, fn := fn, tmps := tmps, params := ps, assign := assign, body := body, defers := D })) ∧ ∀ k, S k ↔ k.1 = l
  loc := fun {w w' S} ⟨⟨fn, tmps, h1, h2⟩, h3⟩ hs => ⟨⟨fn, tmps, h1, (heap_of_lk fun i => hs (l, i) ((h3 (l, i)).2 rfl)).trans h2⟩, h3⟩
  lt := fun {w S q} ⟨⟨fn, tmps, h1, h2⟩, h3⟩ hb => by rw [(h3 _).1 hb]; exact (Array.getElem?_eq_some_iff.1 h2).1
/-- The block for the rounds' deferred calls: none. -/
def defA (D : Nat) : As where
  h w S := w.heap[D]? = some (.deferred (some [])) ∧ ∀ k, S k ↔ k.1 = D
  loc := fun {w w' S} ⟨h2, h3⟩ hs => ⟨(heap_of_lk fun i => hs (D, i) ((h3 (D, i)).2 rfl)).trans h2, h3⟩
  lt := fun {w S q} ⟨h2, h3⟩ hb => by rw [(h3 _).1 hb]; exact (Array.getElem?_eq_some_iff.1 h2).1

section
variable {P : Program} {ops : Array Oper} {Q : Exit → Act → World → Prop} {E : World} {l m : List As} {n : Nat} {F : Env} {K : Act → World → Prop}
variable {d : Nat} {T : TypeId} {p : String} {e : Array Edge} {x y : Operand} {v : Value}

theorem rows_wide {row : String} {args : Array Value} {w : World} {R : Value → World → Prop} {k : Nat} (h : Rows P row args w R) : RowsIn Fence.wide k P row args w R := fun c cs _ => by
  obtain ⟨v, w', h1, h2⟩ := h c cs
  exact ⟨v, w', h1, stepsIn_wide.2 h2⟩
theorem wp_wide {o : Oper} {a : Act} {w : World} {N : Act → World → Prop} (h : o.wp P a w N Q) : o.wpIn Fence.wide 0 P a w N Q := by
  refine ⟨fun _ _ => trivial, ?_⟩
  show o.uponIn Fence.wide 0 P a N Q ((execOp a.eval o).run P w)
  unfold Oper.wp at h
  generalize (execOp a.eval o).run P w = r at *
  cases r with
  | ok n w' =>
    cases n <;> simp only [Oper.upon] at h <;> simp only [Oper.uponIn]
    case value => exact h
    case skip => exact h
    case defer => exact h
    case enter => exact ⟨fun hh => (by cases hh), callsIn_wide.2 h⟩
    case row => exact ⟨fun hh => (by cases hh), rows_wide h⟩
  | halt x w' => cases x <;> simp only [Oper.upon] at h <;> simp only [Oper.uponIn]; exact h
theorem wp_round {o : Oper} {a : Act} {w : World} {N : Act → World → Prop} {lp : Nat} (hd : ∀ c, o.op ≠ .defer c) (h : o.wp P a w N Q) : o.wpIn (Fence.wide.inRound lp) 0 P a w N Q := by
  refine ⟨fun _ _ => trivial, ?_⟩
  rw [Oper.semAt_eq _ _ _ hd]
  unfold Oper.wp at h
  generalize (execOp a.eval o).run P w = r at *
  cases r with
  | ok n w' =>
    cases n <;> simp only [Oper.upon] at h <;> simp only [Oper.uponIn]
    case value => exact h
    case skip => exact h
    case defer => exact h
    case enter => exact ⟨fun hh => (by cases hh), callsIn_wide.2 h⟩
    case row => exact ⟨fun hh => (by cases hh), rows_wide h⟩
  | halt x w' => cases x <;> simp only [Oper.upon] at h <;> simp only [Oper.uponIn]; exact h
theorem list_round {lp : Nat} (hQ : ¬ LetsOut Q) : ∀ {os : List Oper} {a : Act} {w : World}, (∀ o ∈ os, ∀ c, o.op ≠ .defer c) → wpList P ops Q os a w → wpListIn (Fence.wide.inRound lp) 0 P ops Q os a w
  | [], _, _, _, h => h
  | o :: os, a, w, hd, h => by
    have hd' : ∀ o ∈ os, ∀ c, o.op ≠ .defer c := fun o ho => hd o (List.mem_cons_of_mem _ ho)
    unfold wpList at h
    unfold wpListIn
    split
    · rename_i hw
      rw [if_pos hw] at h
      rcases h with h | ⟨h1, h2⟩
      · exact wp_round (hd o (by simp)) (Oper.wp_mono (fun a w h => list_round hQ hd' h) h)
      · exact absurd h2 hQ
    · rename_i hw
      rw [if_neg hw] at h
      exact ⟨fun _ _ => trivial, list_round hQ hd' h⟩
/-! ### regions in which yield is called -/
theorem J_regionIn {id : Nat} {os : List Oper} (k : Jk E l n F (wpListIn Fence.wide 0 P os.toArray Q os)) : Jk E l n F ((Code.region id os.toArray false).wp P Q) :=
  fun w a H hF => wpIn_wide.1 (wpIn_region_lit (k w a H hF))
theorem LI_nil (k : Jk E l n F (Q .normal)) : Jk E l n F (wpListIn Fence.wide 0 P ops Q []) := k
theorem LI_op {o : Oper} {rest : List Oper} (k : Jop P ops Q o E l n F (wpListIn Fence.wide 0 P ops Q rest)) : Jk E l n F (wpListIn Fence.wide 0 P ops Q (o :: rest)) := fun w a H hF => by
  have := k w a H hF
  unfold wpListIn
  split
  · rename_i hw; rw [if_pos hw] at this; exact wp_wide this
  · rename_i hw; rw [if_neg hw] at this; exact ⟨fun _ _ => trivial, this⟩
/-- What a call of yield does: it goes on (true), from these assertions to those. -/
def YCon (P : Program) (lp : Nat) (v : Value) (E : World) (L L' : List As) : Prop :=
  ∀ w, Sep E w L → YieldAt Fence.wide 0 P lp #[v] w fun e w' => e = .returned (.bool true) ∧ Sep E w' L'
theorem YCon.drop {P : Program} {lp : Nat} {v : Value} {E : World} {C : As} {l L' : List As} (h : YCon P lp v E l L') : YCon P lp v E (C :: l) L' := fun w H => h w H.tail
theorem LI_yield {lp : Nat} {L : List As} {ats : Array TypeId} {rest : List Oper} (hx : evl F x = some (.func (.yield lp) #[] #[])) (hy : evl F y = some v) (hd : Nat.blt d n = true) (hc : YCon P lp v E l L)
    (k : Jk E L n ((d, .bool true) :: F) (wpListIn Fence.wide 0 P ops Q rest)) :
    Jk E l n F (wpListIn Fence.wide 0 P ops Q (⟨some d, .call { callee := .value x, args := #[y], argTypes := ats }, T, p, e, none⟩ :: rest)) := fun w a H hF => by
  obtain ⟨fn, tmps, assign, body, hrun, hR⟩ := hc w H
  unfold wpListIn
  have hw : Region.wanted (⟨some d, .call { callee := .value x, args := #[y], argTypes := ats }, T, p, e, none⟩ : Oper) (yielded ops a.tmps) = true := rfl
  rw [if_pos hw]
  refine ⟨fun _ _ => trivial, ?_⟩
  show Oper.uponIn _ _ _ _ _ _ _ ((execOp a.eval ⟨some d, .call { callee := .value x, args := #[y], argTypes := ats }, T, p, e, none⟩).run P w)
  have hex : (execOp a.eval ⟨some d, .call { callee := .value x, args := #[y], argTypes := ats }, T, p, e, none⟩).run P w = .ok (.round lp fn tmps assign body) w := by
    simp [execOp, resolve, hF.evl hx, hF.evl hy, Deferred.ofValue, invoke, hrun]
  rw [hex]
  refine ⟨fun hh => (by cases hh), hR.mono fun e w' ⟨he, hs⟩ => ?_⟩
  subst he
  exact k w' _ hs (hF.put hd)
end

/-! ### slices.AppendSeq(nil, seq) -/
def apAssign (el : TypeId) : Code := .region 2 [({ dst := some 5, op := .assign (.tmp 7), type := el, pos := "iter.go:51", after := #[], guard := none } : Oper)].toArray false
def apOps (sT el : TypeId) : List Oper := [{ dst := some 8, op := .load sT (.tmp 2), type := sT, pos := "iter.go:52", after := #[], guard := none },
  { dst := some 9, op := .move (.tmp 5), type := el, pos := "iter.go:52", after := #[], guard := none },
  { dst := some 10, op := .buildSlice sT 1 #[(0, .tmp 9)], type := sT, pos := "iter.go:52", after := #[{ on := 1, ground := .data }], guard := none },
  { dst := some 11, op := .call { callee := .builtin .append, args := #[.tmp 8, .tmp 10], argTypes := #[sT, sT] }, type := sT, pos := "iter.go:52", after := #[{ on := 0, ground := .data }, { on := 2, ground := .data }], guard := none },
  { dst := none, op := .store sT (.tmp 2) (.tmp 11), type := 0, pos := "iter.go:52", after := #[{ on := 3, ground := .data }, { on := 3, ground := .chain }, { on := 0, ground := .phase }, { on := 1, ground := .phase }, { on := 2, ground := .phase }, { on := 3, ground := .phase }], guard := none }]
def apBody (sT el : TypeId) : Code := .block 1 (.region 3 (apOps sT el).toArray false)
def apTail (sT : TypeId) : List Oper := [{ dst := some 12, op := .load sT (.tmp 2), type := sT, pos := "iter.go:54", after := #[], guard := none },
  { dst := some 4, op := .assign (.tmp 12), type := sT, pos := "iter.go:54", after := #[{ on := 0, ground := .data }, { on := 0, ground := .phase }], guard := none }]
def apHead (sT : TypeId) : List Oper := [{ dst := some 2, op := .box sT (.tmp 0), type := 0, pos := "iter.go:50", after := #[], guard := none },
  { dst := some 4, op := .assign (.const (.slice none 0 0)), type := sT, pos := "iter.go:50", after := #[], guard := none }]
def apMove (fT : TypeId) : List Oper := [{ dst := some 6, op := .move (.tmp 1), type := fT, pos := "iter.go:51", after := #[], guard := none }]
def apCodeG (asg body : Code) (sT fT : TypeId) : Code := .seq (.region 0 (apHead sT).toArray false) (.seq (.seq (.region 1 (apMove fT).toArray false) (.block 0 (.rangeFunc (.tmp 6) #[7] asg body))) (.seq (.region 4 (apTail sT).toArray false) .ret))
def apCode (sT el fT : TypeId) : Code := apCodeG (apAssign el) (apBody sT el) sT fT
/-! .. where the elements are structs -/
def apAsgOps (el : TypeId) : List Oper := [{ dst := some 5, op := .alloc el, type := 0, pos := "iter.go:51", after := #[], guard := none },
  { dst := none, op := .store el (.tmp 5) (.tmp 7), type := 0, pos := "iter.go:51", after := #[{ on := 0, ground := .data }, { on := 0, ground := .phase }], guard := none }]
def apAssignS (el : TypeId) : Code := .region 2 (apAsgOps el).toArray false
def apOpsS (sT el : TypeId) : List Oper := [{ dst := some 8, op := .load sT (.tmp 2), type := sT, pos := "iter.go:52", after := #[], guard := none },
  { dst := some 9, op := .load el (.tmp 5), type := el, pos := "iter.go:52", after := #[], guard := none },
  { dst := some 10, op := .buildSlice sT 1 #[(0, .tmp 9)], type := sT, pos := "iter.go:52", after := #[{ on := 1, ground := .data }], guard := none },
  { dst := some 11, op := .call { callee := .builtin .append, args := #[.tmp 8, .tmp 10], argTypes := #[sT, sT] }, type := sT, pos := "iter.go:52", after := #[{ on := 0, ground := .data }, { on := 2, ground := .data }], guard := none },
  { dst := none, op := .store sT (.tmp 2) (.tmp 11), type := 0, pos := "iter.go:52", after := #[{ on := 3, ground := .data }, { on := 3, ground := .chain }, { on := 0, ground := .phase }, { on := 1, ground := .phase }, { on := 2, ground := .phase }, { on := 3, ground := .phase }], guard := none }]
def apBodyS (sT el : TypeId) : Code := .block 1 (.region 3 (apOpsS sT el).toArray false)
def apCodeS (sT el fT : TypeId) : Code := apCodeG (apAssignS el) (apBodyS sT el) sT fT

section
variable {P : Program} {E : World} {l : List As} {sT el fT : TypeId} {sz by_ : Nat} {agg : Bool} {zs : List Value} {κ : Type} {enc : κ → Value} {cells : κ → List Value}
/-- What the loop keeps between two rounds: the box of the slice, the slice. -/
def apKeep (sT el : TypeId) (sz : Nat) (cells : κ → List Value) (Bs : Nat) (ss : List κ) : As := As.ex fun v : Value => As.all [blk Bs sT [v], row el sz v (ss.map cells)]
def apEnv (Bs : Nat) (sv : Value) : Env := [(6, sv), (4, .slice none 0 0), (2, .pointer (some ⟨Bs, 0, none⟩)), (0, .slice none 0 0), (1, sv)]
abbrev apRecG (asg body : Code) (Bs : Nat) (sv : Value) (D lp : Nat) (st : LoopState) : As := loopR 13 (apEnv Bs sv) #[7] asg body D lp st
abbrev apRec (sT el : TypeId) (Bs : Nat) (sv : Value) (D lp : Nat) (st : LoopState) : As := apRecG (apAssign el) (apBody sT el) Bs sv D lp st
abbrev apRecS (sT el : TypeId) (Bs : Nat) (sv : Value) (D lp : Nat) (st : LoopState) : As := apRecG (apAssignS el) (apBodyS sT el) Bs sv D lp st
theorem loop_turn {n : Nat} {F : Env} {ps : Array Tmp} {c1 c2 : Code} {D lp : Nat} {s1 s2 : LoopState} {m : List As} {w : World} {fn : FuncId} {tmps : Array Value} (hF : Fr n F { tmps := tmps, defers := [] })
    (hl : w.heap[lp]? = some (.loop { state := s1, pending := none, fn := fn, tmps := tmps, params := ps, assign := c1, body := c2, defers := D }))
    (H : Sep E w (loopR n F ps c1 c2 D lp s1 :: m)) : Sep E (w.putObj lp (.loop { state := s2, pending := none, fn := fn, tmps := tmps, params := ps, assign := c1, body := c2, defers := D })) (loopR n F ps c1 c2 D lp s2 :: m) := by
  refine H.rep .here put_same fun S' hS' => ?_
  obtain ⟨_, hSb⟩ := hS'
  exact ⟨⟨S', ⟨⟨fn, tmps, hF, World.putObj_heap_same (Array.getElem?_eq_some_iff.1 hl).1⟩, hSb⟩, fun _ h => .inl h⟩, fun k _ hk => put_out fun h => hk ((hSb k).2 h)⟩
theorem apYield (ht : P.underlying sT = some (.slice el)) (hT : Ty P el sz by_ agg zs) (hS : Ty P sT 1 24 false [.slice none 0 0]) (hsz : Nat.blt 0 sz = true) (hs64 : sz ≤ 64) (hzl : zs.length = sz)
    (hL : ∀ a, Lits [enc a] [cells a]) (hc : ∀ a, (cells a).length = sz ∧ ones (cells a) = true) {A B : As} {Bs D lp : Nat} {sv : Value} {ss : List κ} {a : κ} (hb : (ss.length + 1) * by_ ≤ 140737488355328) (hm : ss.length + 1 ≤ 9223372036854775807) :
    YCon P lp (enc a) E (A :: B :: apRec sT el Bs sv D lp .ready :: defA D :: apKeep sT el sz cells Bs ss :: l) (A :: B :: apRec sT el Bs sv D lp .ready :: defA D :: apKeep sT el sz cells Bs (ss ++ [a]) :: l) := by
  intro w H
  have hp : Pick (apRec sT el Bs sv D lp .ready) (A :: B :: apRec sT el Bs sv D lp .ready :: defA D :: apKeep sT el sz cells Bs ss :: l) (A :: B :: defA D :: apKeep sT el sz cells Bs ss :: l) := .there (.there .here)
  have H0 := H.pick hp
  obtain ⟨S0, ⟨fn, tmps, hF0, hl⟩, _⟩ := H0.head
  refine ⟨fn, tmps.setIfInBounds 7 (enc a), apAssign el, apBody sT el, by simpa using run_yield (P := P) (args := #[enc a]) hl rfl, roundIn_of_wpIn trivial ?_⟩
  have hF7 : Fr 13 ((7, enc a) :: apEnv Bs sv) { tmps := tmps.setIfInBounds 7 (enc a), defers := [] } := hF0.put (d := 7) rfl
  -- the assignment to the loop's variable
  unfold apAssign
  refine wpIn_region_lit (list_round (by rintro ⟨_, _, h⟩; exact h) (by simp) ?_)
  have key : Jk E (apRec sT el Bs sv D lp .ready :: A :: B :: defA D :: apKeep sT el sz cells Bs ss :: l) 13 ((7, enc a) :: apEnv Bs sv)
      (wpList P [({ dst := some 5, op := .assign (.tmp 7), type := el, pos := "iter.go:51", after := #[], guard := none } : Oper)].toArray
        (Exit.then (fun a₁ w₁ => ∃ w₂, (Instr.beginRound lp).run P w₁ = .ok () w₂ ∧ (apBody sT el).wpIn (Fence.wide.inRound lp) 0 P (roundPost P lp fun e w' => e = .returned (.bool true) ∧ Sep E w' (A :: B :: apRec sT el Bs sv D lp .ready :: defA D :: apKeep sT el sz cells Bs (ss ++ [a]) :: l)) a₁ w₂) fun _ _ _ => False)
        [{ dst := some 5, op := .assign (.tmp 7), type := el, pos := "iter.go:51", after := #[], guard := none }]) := by
    refine L_pur rfl (p_assign rfl) ?_
    refine L_nil ?_
    intro w1 a1 H1 hF1
    obtain ⟨S1, ⟨fn1, tmps1, hG, hl1⟩, _⟩ := H1.head
    refine ⟨_, run_beginRound hl1 rfl, ?_⟩
    have H2 := loop_turn (s2 := .busy) hG hl1 H1
    unfold apBody
    refine wpIn_block (wpIn_region_lit (list_round (by rintro ⟨_, _, h⟩; exact h) (by simp [apOps]) ?_))
    refine (?_ : Jk E (apRec sT el Bs sv D lp .busy :: A :: B :: defA D :: apKeep sT el sz cells Bs ss :: l) 13 ((5, enc a) :: (7, enc a) :: apEnv Bs sv) _) _ _ H2 hF1
    refine J_pick (A := apKeep sT el sz cells Bs ss) (.there (.there (.there (.there .here)))) ?_
    refine J_ex fun v => ?_
    refine J_all (m := [blk Bs sT [v], row el sz v (ss.map cells)]) ?_
    refine L_val rfl (v_load (b := Bs) (o := 0) rfl hS .here rfl) ?_
    refine L_pur rfl (p_move rfl) ?_
    refine L_op (x_lit (vals := [enc a]) ht hT hzl (.cons rfl .nil) (hL a) (Wf.cons (hc a).1 (hc a).2 Wf.nil) rfl (by omega) hsz rfl fun v10 => ?_)
    refine L_op (x_app (v := v) rfl rfl ht hT hsz hzl (.there (.there .here)) (fun w H => sep_reads .here H) (by simpa using hb) (by simpa using hm) rfl fun v11 => ?_)
    refine J_row .here fun _ a11 c11 hv11 _ _ _ => ?_
    subst hv11
    refine L_op (x_store (b := Bs) (o := 0) (vs := [.slice a11 (ss.map cells ++ [cells a]).length c11]) rfl rfl hS rfl rfl rfl (.there (.there .here)) (.put .at) ?_)
    refine L_nil ?_
    intro w3 a3 H3 _
    have H4 : Sep E w3 ([blk Bs sT [.slice a11 (ss.map cells ++ [cells a]).length c11], row el sz (.slice a11 (ss.map cells ++ [cells a]).length c11) (ss.map cells ++ [cells a])] ++ (apRec sT el Bs sv D lp .busy :: A :: B :: defA D :: l)) :=
      Sub.sep (.cons (.there (.there .here)) (.cons .here (.drop .refl))) H3
    have H5 : Sep E w3 (apKeep sT el sz cells Bs (ss ++ [a]) :: apRec sT el Bs sv D lp .busy :: A :: B :: defA D :: l) := by
      refine Sep.ex_in (.slice a11 (ss.map cells ++ [cells a]).length c11) ?_
      have := Sep.all_in H4
      rw [show (ss ++ [a]).map cells = ss.map cells ++ [cells a] by simp]
      exact this
    have H6 := H5.pick (A := apRec sT el Bs sv D lp .busy) (.there .here)
    obtain ⟨S3, ⟨fn3, tmps3, hG3, hl3⟩, _⟩ := H6.head
    refine ⟨_, _, run_endRound none hl3, rfl, ?_⟩
    have H7 := loop_turn (s2 := .ready) hG3 hl3 H6
    exact Sub.sep (.cons (.there (.there .here)) (.cons (.there (.there .here)) (.cons .here (.cons (.there .here) (.cons .here .refl))))) H7
  exact key _ _ H0 hF7
theorem apYieldS (ht : P.underlying sT = some (.slice el)) (hT : Ty P el sz by_ true zs) (hS : Ty P sT 1 24 false [.slice none 0 0]) (hsz : Nat.blt 0 sz = true) (hs64 : sz ≤ 64) (hzl : zs.length = sz)
    (hE : ∀ a, enc a = .agg (cells a).toArray) (hc : ∀ a, (cells a).length = sz ∧ ones (cells a) = true) {A B : As} {Bs D lp : Nat} {sv : Value} {ss : List κ} {a : κ} (hb : (ss.length + 1) * by_ ≤ 140737488355328) (hm : ss.length + 1 ≤ 9223372036854775807) :
    YCon P lp (enc a) E (A :: B :: apRecS sT el Bs sv D lp .ready :: defA D :: apKeep sT el sz cells Bs ss :: l) (A :: B :: apRecS sT el Bs sv D lp .ready :: defA D :: apKeep sT el sz cells Bs (ss ++ [a]) :: l) := by
  intro w H
  have hp : Pick (apRecS sT el Bs sv D lp .ready) (A :: B :: apRecS sT el Bs sv D lp .ready :: defA D :: apKeep sT el sz cells Bs ss :: l) (A :: B :: defA D :: apKeep sT el sz cells Bs ss :: l) := .there (.there .here)
  have H0 := H.pick hp
  obtain ⟨S0, ⟨fn, tmps, hF0, hl⟩, _⟩ := H0.head
  refine ⟨fn, tmps.setIfInBounds 7 (enc a), apAssignS el, apBodyS sT el, by simpa using run_yield (P := P) (args := #[enc a]) hl rfl, roundIn_of_wpIn trivial ?_⟩
  have hF7 : Fr 13 ((7, enc a) :: apEnv Bs sv) { tmps := tmps.setIfInBounds 7 (enc a), defers := [] } := hF0.put (d := 7) rfl
  -- the assignment to the loop's variable
  unfold apAssignS
  refine wpIn_region_lit (list_round (by rintro ⟨_, _, h⟩; exact h) (by simp [apAsgOps]) ?_)
  have key : Jk E (apRecS sT el Bs sv D lp .ready :: A :: B :: defA D :: apKeep sT el sz cells Bs ss :: l) 13 ((7, enc a) :: apEnv Bs sv)
      (wpList P (apAsgOps el).toArray
        (Exit.then (fun a₁ w₁ => ∃ w₂, (Instr.beginRound lp).run P w₁ = .ok () w₂ ∧ (apBodyS sT el).wpIn (Fence.wide.inRound lp) 0 P (roundPost P lp fun e w' => e = .returned (.bool true) ∧ Sep E w' (A :: B :: apRecS sT el Bs sv D lp .ready :: defA D :: apKeep sT el sz cells Bs (ss ++ [a]) :: l)) a₁ w₂) fun _ _ _ => False)
        (apAsgOps el)) := by
    refine L_op (x_alloc hT rfl fun b5 => ?_)
    refine L_op (x_store (b := b5) (o := 0) (cs' := cells a) (vs := cells a) rfl (by rw [show evl ((5, Value.pointer (some ⟨b5, 0, none⟩)) :: (7, enc a) :: apEnv Bs sv) (.tmp 7) = some (enc a) from rfl, hE a]) hT rfl (hc a).1 (hc a).2 .here (Put.full (by rw [(hc a).1, hzl])) ?_)
    refine L_nil ?_
    intro w1 a1 H1 hF1
    have H1 := H1.pick (A := apRecS sT el Bs sv D lp .ready) (.there .here)
    obtain ⟨S1, ⟨fn1, tmps1, hG, hl1⟩, _⟩ := H1.head
    refine ⟨_, run_beginRound hl1 rfl, ?_⟩
    have H2 := loop_turn (s2 := .busy) hG hl1 H1
    unfold apBodyS
    refine wpIn_block (wpIn_region_lit (list_round (by rintro ⟨_, _, h⟩; exact h) (by simp [apOpsS]) ?_))
    refine (?_ : Jk E (apRecS sT el Bs sv D lp .busy :: blk b5 el (cells a) :: A :: B :: defA D :: apKeep sT el sz cells Bs ss :: l) 13 ((5, .pointer (some ⟨b5, 0, none⟩)) :: (7, enc a) :: apEnv Bs sv) _) _ _ H2 hF1
    refine J_pick (A := apKeep sT el sz cells Bs ss) (.there (.there (.there (.there (.there .here))))) ?_
    refine J_ex fun v => ?_
    refine J_all (m := [blk Bs sT [v], row el sz v (ss.map cells)]) ?_
    refine L_val rfl (v_load (b := Bs) (o := 0) rfl hS .here rfl) ?_
    refine L_val rfl (v_loadA (b := b5) (o := 0) rfl hT (.there (.there (.there .here))) (Cut.full (hc a).1)) ?_
    refine L_op (x_lit (vals := [Value.agg (cells a).toArray]) ht hT hzl (.cons rfl .nil) (.agg .nil) (Wf.cons (hc a).1 (hc a).2 Wf.nil) rfl (by omega) hsz rfl fun v10 => ?_)
    refine L_op (x_app (v := v) rfl rfl ht hT hsz hzl (.there (.there .here)) (fun w H => sep_reads .here H) (by simpa using hb) (by simpa using hm) rfl fun v11 => ?_)
    refine J_row .here fun _ a11 c11 hv11 _ _ _ => ?_
    subst hv11
    refine L_op (x_store (b := Bs) (o := 0) (vs := [.slice a11 (ss.map cells ++ [cells a]).length c11]) rfl rfl hS rfl rfl rfl (.there (.there .here)) (.put .at) ?_)
    refine L_nil ?_
    intro w3 a3 H3 _
    have H4 : Sep E w3 ([blk Bs sT [.slice a11 (ss.map cells ++ [cells a]).length c11], row el sz (.slice a11 (ss.map cells ++ [cells a]).length c11) (ss.map cells ++ [cells a])] ++ (apRecS sT el Bs sv D lp .busy :: blk b5 el (cells a) :: A :: B :: defA D :: l)) :=
      Sub.sep (.cons (.there (.there .here)) (.cons .here (.drop .refl))) H3
    have H5 : Sep E w3 (apKeep sT el sz cells Bs (ss ++ [a]) :: apRecS sT el Bs sv D lp .busy :: blk b5 el (cells a) :: A :: B :: defA D :: l) := by
      refine Sep.ex_in (.slice a11 (ss.map cells ++ [cells a]).length c11) ?_
      have := Sep.all_in H4
      rw [show (ss ++ [a]).map cells = ss.map cells ++ [cells a] by simp]
      exact this
    have H6 := H5.pick (A := apRecS sT el Bs sv D lp .busy) (.there .here)
    obtain ⟨S3, ⟨fn3, tmps3, hG3, hl3⟩, _⟩ := H6.head
    refine ⟨_, _, run_endRound none hl3, rfl, ?_⟩
    have H7 := loop_turn (s2 := .ready) hG3 hl3 H6
    exact Sub.sep (.cons (.there (.there (.there .here))) (.cons (.there (.there (.there .here))) (.cons .here (.cons (.there (.there .here)) (.cons .here (.drop .refl)))))) H7
  exact key _ _ H0 hF7
/-- What an iterator's function does: whatever the loop keeps (L), so the rounds carry it on; what it reads itself (A, B) lies apart: all of a list that S takes has come. -/
def Gives (P : Program) (gf : FuncId) (caps : Array Value) (enc : κ → Value) (S : List κ → Prop) (N : Nat) (E : World) (A B : As) : Prop :=
  ∀ (lp : Nat) (L : List κ → List As), (∀ ss a (A B : As), ss.length < N → YCon P lp (enc a) E (A :: B :: L ss) (A :: B :: L (ss ++ [a]))) →
    Con P gf (#[.func (.yield lp) #[] #[]] ++ caps) E (A :: B :: L []) (fun _ : List κ => .tuple #[]) (fun ss => As.pure (S ss) :: A :: B :: L ss)
theorem appendSeqG {f gf : FuncId} {fn fng : Func} {caps : Array Value} {asg body : Code} {S : List κ → Prop} {N : Nat} {A B : As} (hf : P.funcs[f]? = some fn) (hbody : fn.body = some (apCodeG asg body sT fT)) (hnt : fn.ntmps = 13) (hres : fn.results = #[.tmp 4])
    (hg : P.funcs[gf]? = some fng) (hgn : (fng.name == "runtime.NumGoroutine") = false) (hgb : fng.body.isNone = false)
    (ht : P.underlying sT = some (.slice el)) (hT : Ty P el sz by_ agg zs) (hS : Ty P sT 1 24 false [.slice none 0 0]) 
    (hY : ∀ (Bs D lp : Nat) (sv : Value) (ss : List κ) (a : κ) (A B : As), ss.length + 1 ≤ N → YCon P lp (enc a) E (A :: B :: apRecG asg body Bs sv D lp .ready :: defA D :: apKeep sT el sz cells Bs ss :: l) (A :: B :: apRecG asg body Bs sv D lp .ready :: defA D :: apKeep sT el sz cells Bs (ss ++ [a]) :: l))
    (hseq : Gives P gf caps enc S N E A B) :
    Con P f #[.slice none 0 0, .func (.func gf) #[] caps] E (A :: B :: l) (fun x : Value × List κ => x.1) (fun x => As.pure (S x.2) :: row el sz x.1 (x.2.map cells) :: A :: B :: l) := by
  intro w0 H0
  refine (callsIn_wide (n := 0)).1 (callsIn_of_wp_marks hf hbody trivial ?_ rfl)
  rw [hnt]
  obtain ⟨sv, hsv⟩ : ∃ sv, sv = Value.func (.func gf) #[] caps := ⟨_, rfl⟩
  rw [← hsv]
  have hFr0 : Fr 13 [(0, .slice none 0 0), (1, sv)] { tmps := #[.slice none 0 0, sv] ++ Array.replicate (13 - (#[.slice none 0 0, sv] : Array Value).size) undef, defers := [] } := by
    refine ⟨by simp, rfl, fun t v hv => ?_⟩
    rw [get_cons] at hv
    split at hv
    · rename_i e; subst e; cases hv; rfl
    · rw [get_cons] at hv
      split at hv
      · rename_i e; subst e; cases hv; rfl
      · cases hv
  unfold apCodeG
  refine wpIn_seq (wpIn_wide.2 ((?_ : Jk E (A :: B :: l) 13 [(0, .slice none 0 0), (1, sv)] _) w0 _ H0 hFr0))
  refine J_region (L_op (x_box rfl rfl rfl fun Bs => L_pur rfl (p_assign rfl) (L_nil (Q_then ?_))))
  intro w1 a1 H1 hF1
  refine wpIn_seq (wpIn_seq (wpIn_wide.2 ((?_ : Jk E (blk Bs sT [.slice none 0 0] :: A :: B :: l) 13 _ _) w1 a1 H1 hF1)))
  refine J_region (L_pur rfl (p_move rfl) (L_nil (Q_then ?_)))
  intro w2 a2 H2 hF2
  have hF2 : Fr 13 (apEnv Bs sv) a2 := hF2.keep (by unfold apEnv; exact .cons rfl (.cons rfl (.cons rfl (.cons rfl (.cons rfl .nil)))))
  refine wpIn_block (wpIn_rangeFunc ?_)
  intro fid _
  obtain ⟨lp, hlp⟩ : ∃ lp, lp = w2.heap.size + 1 := ⟨_, rfl⟩
  obtain ⟨D, hD⟩ : ∃ D, D = w2.heap.size := ⟨_, rfl⟩
  obtain ⟨W, hW⟩ : ∃ W, W = (w2.alloc (.deferred (some []))).alloc (.loop { state := .ready, pending := none, fn := fid, tmps := a2.tmps, params := #[7], assign := asg, body := body, defers := w2.heap.size }) := ⟨_, rfl⟩
  have hev : a2.eval (.tmp 6) = Value.func (.func gf) #[] caps := by rw [← hsv]; exact hF2.evl (x := .tmp 6) rfl
  have hgn' : ¬ fng.name = "runtime.NumGoroutine" := by simpa using hgn
  have hgb' : ¬ fng.body = none := by intro h; rw [h] at hgb; cases hgb
  refine ⟨lp, [{ target := .collected D, args := #[] }], W, { target := .fn (.func gf) caps, args := #[.func (.yield lp) #[] #[]] }, W, gf, #[.func (.yield lp) #[] #[]] ++ caps, W, ?_, ?_, fun _ _ => trivial, ?_, fun h => (by cases h), ?_⟩
  · rw [hW, hD, hlp]; exact run_enterLoop_outer _ _ _ _ _
  · simp only [rangeCall, resolve, hev]
    simp [Deferred.ofValue, Act.eval]
  · simp [invoke, callFunc, hg, hgn', hgb']
  · have H3 : Sep E w2 (apKeep sT el sz cells Bs [] :: A :: B :: l) := by
      have h1 : Sep E w2 (row el sz (.slice none 0 0) [] :: blk Bs sT [.slice none 0 0] :: A :: B :: l) := (J_nil (K := fun _ w => Sep E w (row el sz (.slice none 0 0) [] :: blk Bs sT [.slice none 0 0] :: A :: B :: l)) (fun w a H _ => H)) w2 a2 H2 hF2
      have h2 : Sep E w2 ([blk Bs sT [.slice none 0 0], row el sz (.slice none 0 0) []] ++ (A :: B :: l)) := h1.pick (.there .here)
      exact Sep.ex_in (.slice none 0 0) (Sep.all_in h2)
    have H4 : Sep E (w2.alloc (.deferred (some []))) (defA D :: apKeep sT el sz cells Bs [] :: A :: B :: l) :=
      H3.add alloc_same (fun _ hb => alloc_old hb) (S1 := fun q => q.1 = D) ⟨by rw [hD]; exact heap_alloc_new w2 _, fun _ => Iff.rfl⟩ (fun b hb => by omega)
    have hs1 : (w2.alloc (.deferred (some []))).heap.size = w2.heap.size + 1 := by simp
    have H5 : Sep E W (apRecG asg body Bs sv D lp .ready :: defA D :: apKeep sT el sz cells Bs [] :: A :: B :: l) := by
      rw [hW]
      refine H4.add alloc_same (fun _ hb => alloc_old hb) (S1 := fun q => q.1 = lp) ⟨⟨fid, a2.tmps, ⟨hF2.size, rfl, hF2.get⟩, ?_⟩, fun _ => Iff.rfl⟩ (fun b hb => by omega)
      rw [hlp, ← hs1, hD]; exact heap_alloc_new _ _
    have H6 : Sep E W (A :: B :: (fun ss => apRecG asg body Bs sv D lp .ready :: defA D :: apKeep sT el sz cells Bs ss :: l) []) :=
      Sub.sep (.cons (.there (.there (.there .here))) (.cons (.there (.there (.there .here))) .refl)) H5
    have hcon := hseq lp (fun ss => apRecG asg body Bs sv D lp .ready :: defA D :: apKeep sT el sz cells Bs ss :: l) (fun ss a A B hlen => by
      exact hY Bs D lp sv ss a A B hlen)
    refine callsIn_wide.2 ((hcon W H6).mono fun e w3 ⟨ss, he, H7⟩ => ?_)
    subst he
    obtain ⟨hSs, H8⟩ := H7.pure_out
    have H9 := H8.pick (A := apRecG asg body Bs sv D lp .ready) (.there (.there .here))
    obtain ⟨S3, ⟨fn3, tmps3, hG3, hl3⟩, _⟩ := H9.head
    refine ⟨none, _, run_endLoop hl3 (by simp), ?_⟩
    have H10 := loop_turn (s2 := .exhausted) hG3 hl3 H9
    revert H10
    generalize w3.putObj lp _ = w4
    intro H10
    have H11 : Sep E w4 (apKeep sT el sz cells Bs ss :: defA D :: A :: B :: l) := Sub.sep (.cons (.there (.there (.there (.there .here)))) (.cons (.there (.there (.there .here))) (.cons (.there .here) (.cons (.there .here) (.drop .refl))))) H10
    obtain ⟨v, H12⟩ := H11.ex_out
    have H13 : Sep E w4 (blk Bs sT [v] :: row el sz v (ss.map cells) :: defA D :: A :: B :: l) := Sep.all_out (m := [blk Bs sT [v], row el sz v (ss.map cells)]) H12
    have hload : ∀ (T : TypeId) p e g, (execOp a2.eval ⟨some 12, .load sT (.tmp 2), T, p, e, g⟩).run P w4 = .ok (.value v) w4 := fun T p e g =>
      v_load (E := E) (l := blk Bs sT [v] :: row el sz v (ss.map cells) :: defA D :: A :: B :: l) (b := Bs) (o := 0) (F := apEnv Bs sv) (n := 13) rfl hS .here rfl w4 a2 H13 hF2
    refine wpIn_seq (wpIn_region_lit ?_)
    unfold apTail
    refine wpListIn_plain rfl fun K1 hK1 => ⟨fun _ _ => trivial, ?_⟩
    show Oper.uponIn _ _ _ _ _ _ _ ((execOp a2.eval ⟨some 12, .load sT (.tmp 2), sT, "iter.go:54", #[], none⟩).run P w4)
    rw [hload]
    refine hK1 _ _ (wpListIn_plain rfl fun K2 hK2 => ⟨fun _ _ => trivial, ?_⟩)
    have hsz2 : a2.tmps.size = 13 := hF2.size
    have hass : ∀ (D' : List Deferred) (T : TypeId) p e g, (execOp (({ a2 with defers := D' } : Act).put (some 12) v).eval ⟨some 4, .assign (.tmp 12), T, p, e, g⟩).run P w4 = .ok (.value v) w4 := fun D' T p e g => by
      simp [execOp, Act.eval, Act.put, hsz2]
    show Oper.uponIn _ _ _ _ _ _ _ ((execOp (({ a2 with defers := _ } : Act).put (some 12) v).eval ⟨some 4, .assign (.tmp 12), sT, "iter.go:54", #[{ on := 0, ground := .data }, { on := 0, ground := .phase }], none⟩).run P w4)
    rw [hass]
    refine hK2 _ _ (wpListIn_nil (wpIn_ret ?_))
    have H14 := H13.pick (A := defA D) (.there (.there .here))
    obtain ⟨S4, hd4, _⟩ := H14.head
    have hdef : a2.defers = [] := hF2.defers
    show LeavesInM _ _ _ _ _ _ ([{ target := .collected D, args := #[] }] ++ a2.defers) _ _
    rw [hdef]
    refine ⟨by simp, .inl ⟨D, _, rfl, run_takeDeferred hd4, ?_⟩⟩
    have H15 : Sep E (w4.putObj D (.deferred none)) (As.pure True :: blk Bs sT [v] :: row el sz v (ss.map cells) :: A :: B :: l) := H14.rep .here put_same fun S' hS' => ⟨⟨fun _ => False, ⟨trivial, fun _ h => h⟩, fun _ h => h.elim⟩, fun k _ hk => put_out fun h => hk ((hS'.2 k).2 h)⟩
    have H16 := H15.pure_out.2.tail
    refine ⟨v, ?_, (v, ss), rfl, Sep.pure_in hSs H16⟩
    have ht4 : (((({ a2 with defers := [{ target := .collected D, args := #[] }] ++ a2.defers } : Act).put (some 12) v).put (some 4) v).tmps)[4]? = some v := by simp [Act.put, hsz2]
    unfold results
    rw [hres]
    simp [Act.put, hsz2]
theorem appendSeq {f gf : FuncId} {fn fng : Func} {caps : Array Value} {S : List κ → Prop} {N : Nat} {A B : As} (hf : P.funcs[f]? = some fn) (hbody : fn.body = some (apCode sT el fT)) (hnt : fn.ntmps = 13) (hres : fn.results = #[.tmp 4])
    (hg : P.funcs[gf]? = some fng) (hgn : (fng.name == "runtime.NumGoroutine") = false) (hgb : fng.body.isNone = false)
    (ht : P.underlying sT = some (.slice el)) (hT : Ty P el sz by_ agg zs) (hS : Ty P sT 1 24 false [.slice none 0 0]) (hsz : Nat.blt 0 sz = true) (hs64 : sz ≤ 64) (hzl : zs.length = sz)
    (hL : ∀ a, Lits [enc a] [cells a]) (hc : ∀ a, (cells a).length = sz ∧ ones (cells a) = true) (hN : N * by_ ≤ 140737488355328) (hN2 : N ≤ 9223372036854775807)
    (hseq : Gives P gf caps enc S N E A B) :
    Con P f #[.slice none 0 0, .func (.func gf) #[] caps] E (A :: B :: l) (fun x : Value × List κ => x.1) (fun x => As.pure (S x.2) :: row el sz x.1 (x.2.map cells) :: A :: B :: l) :=
  appendSeqG hf hbody hnt hres hg hgn hgb ht hT hS (fun Bs D lp sv ss a A B h1 => apYield ht hT hS hsz hs64 hzl hL hc (Nat.le_trans (Nat.mul_le_mul_right _ h1) hN) (by omega)) hseq
theorem appendSeqS {f gf : FuncId} {fn fng : Func} {caps : Array Value} {S : List κ → Prop} {N : Nat} {A B : As} (hf : P.funcs[f]? = some fn) (hbody : fn.body = some (apCodeS sT el fT)) (hnt : fn.ntmps = 13) (hres : fn.results = #[.tmp 4])
    (hg : P.funcs[gf]? = some fng) (hgn : (fng.name == "runtime.NumGoroutine") = false) (hgb : fng.body.isNone = false)
    (ht : P.underlying sT = some (.slice el)) (hT : Ty P el sz by_ true zs) (hS : Ty P sT 1 24 false [.slice none 0 0]) (hsz : Nat.blt 0 sz = true) (hs64 : sz ≤ 64) (hzl : zs.length = sz)
    (hE : ∀ a, enc a = .agg (cells a).toArray) (hc : ∀ a, (cells a).length = sz ∧ ones (cells a) = true) (hN : N * by_ ≤ 140737488355328) (hN2 : N ≤ 9223372036854775807)
    (hseq : Gives P gf caps enc S N E A B) :
    Con P f #[.slice none 0 0, .func (.func gf) #[] caps] E (A :: B :: l) (fun x : Value × List κ => x.1) (fun x => As.pure (S x.2) :: row el sz x.1 (x.2.map cells) :: A :: B :: l) :=
  appendSeqG hf hbody hnt hres hg hgn hgb ht hT hS (fun Bs D lp sv ss a A B h1 => apYieldS ht hT hS hsz hs64 hzl hE hc (Nat.le_trans (Nat.mul_le_mul_right _ h1) hN) (by omega)) hseq
end
end Go.Pse
