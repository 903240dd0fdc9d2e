/-
  Own texts, merged: Seq, Sort, Srt, C7, C8, SortF, C10, C11, C12, C13, C13b, C16, C17, C20, C21, Ins, C22, C23.
-/
import Derived.Test.YtjhbhjenmijmfaaGreatBC1
import Derived.RangeFuncIn
import Derived.RangeFuncSeq
import Derived.RangeFuncRecord
import Derived.RangeFuncLeaves
import Derived.RangeFuncCalls
import Derived.TacticsIn
import Derived.Test.YtjhbhjenmijmfaaGreatBC0
import Derived.Sort.Row
import Derived.Sort.Grow
import Derived.Shelf.SlGeneric
import Derived.Shelf.SortM.Plain
import Derived.Shelf.SortM.SortNone
import Derived.Shelf.SlSortCmp.NoneTotal
import Derived.Ground.SlgmProg
import Derived.Ground.SlsfProg
import Derived.Test.YtjhbhjenmijmfaaGreatProg
import Derived.Laws.BitsAllLaws
import Derived.Lib.Overlaps
set_option linter.unusedVariables false
set_option linter.unusedSimpArgs false
set_option maxRecDepth 100000
set_option maxHeartbeats 4000000
namespace Go.Pse
open Go.RowKit
def loopR (n : Nat) (F : Env) (ps : Array Tmp) (assign body : Code) (D l : Nat) (st : LoopState) : As where
  h w S := (∃ fn tmps, Fr n F { tmps := tmps, defers := [] } ∧ w.heap[l]? = some (.loop { state := st, pending := none, fn := fn, tmps := tmps, params := ps, assign := assign, body := body, defers := D })) ∧ ∀ k, S k ↔ k.1 = l
  loc := fun {w w' S} ⟨⟨fn, tmps, h1, h2⟩, h3⟩ hs => ⟨⟨fn, tmps, h1, (heap_of_lk fun i => hs (l, i) ((h3 (l, i)).2 rfl)).trans h2⟩, h3⟩
  lt := fun {w S q} ⟨⟨fn, tmps, h1, h2⟩, h3⟩ hb => by rw [(h3 _).1 hb]; exact (Array.getElem?_eq_some_iff.1 h2).1
def defA (D : Nat) : As where
  h w S := w.heap[D]? = some (.deferred (some [])) ∧ ∀ k, S k ↔ k.1 = D
  loc := fun {w w' S} ⟨h2, h3⟩ hs => ⟨(heap_of_lk fun i => hs (D, i) ((h3 (D, i)).2 rfl)).trans h2, h3⟩
  lt := fun {w S q} ⟨h2, h3⟩ hb => by rw [(h3 _).1 hb]; exact (Array.getElem?_eq_some_iff.1 h2).1
section
variable {P : Program} {ops : Array Oper} {Q : Exit → Act → World → Prop} {E : World} {l m : List As} {n : Nat} {F : Env} {K : Act → World → Prop}
variable {d : Nat} {T : TypeId} {p : String} {e : Array Edge} {x y : Operand} {v : Value}
theorem rows_wide {row : String} {args : Array Value} {w : World} {R : Value → World → Prop} {k : Nat} (h : Rows P row args w R) : RowsIn Fence.wide k P row args w R := fun c cs _ => by
  obtain ⟨v, w', h1, h2⟩ := h c cs
  exact ⟨v, w', h1, stepsIn_wide.2 h2⟩
theorem wp_wide {o : Oper} {a : Act} {w : World} {N : Act → World → Prop} (h : o.wp P a w N Q) : o.wpIn Fence.wide 0 P a w N Q := by
  refine ⟨fun _ _ => trivial, ?_⟩
  show o.uponIn Fence.wide 0 P a N Q ((execOp a.eval o).run P w)
  unfold Oper.wp at h
  generalize (execOp a.eval o).run P w = r at *
  cases r with
  | ok n w' =>
    cases n <;> simp only [Oper.upon] at h <;> simp only [Oper.uponIn]
    case value => exact h
    case skip => exact h
    case defer => exact h
    case enter => exact ⟨fun hh => (by cases hh), callsIn_wide.2 h⟩
    case row => exact ⟨fun hh => (by cases hh), rows_wide h⟩
  | halt x w' => cases x <;> simp only [Oper.upon] at h <;> simp only [Oper.uponIn]; exact h
theorem wp_round {o : Oper} {a : Act} {w : World} {N : Act → World → Prop} {lp : Nat} (hd : ∀ c, o.op ≠ .defer c) (h : o.wp P a w N Q) : o.wpIn (Fence.wide.inRound lp) 0 P a w N Q := by
  refine ⟨fun _ _ => trivial, ?_⟩
  rw [Oper.semAt_eq _ _ _ hd]
  unfold Oper.wp at h
  generalize (execOp a.eval o).run P w = r at *
  cases r with
  | ok n w' =>
    cases n <;> simp only [Oper.upon] at h <;> simp only [Oper.uponIn]
    case value => exact h
    case skip => exact h
    case defer => exact h
    case enter => exact ⟨fun hh => (by cases hh), callsIn_wide.2 h⟩
    case row => exact ⟨fun hh => (by cases hh), rows_wide h⟩
  | halt x w' => cases x <;> simp only [Oper.upon] at h <;> simp only [Oper.uponIn]; exact h
theorem list_round {lp : Nat} (hQ : ¬ LetsOut Q) : ∀ {os : List Oper} {a : Act} {w : World}, (∀ o ∈ os, ∀ c, o.op ≠ .defer c) → wpList P ops Q os a w → wpListIn (Fence.wide.inRound lp) 0 P ops Q os a w
  | [], _, _, _, h => h
  | o :: os, a, w, hd, h => by
    have hd' : ∀ o ∈ os, ∀ c, o.op ≠ .defer c := fun o ho => hd o (List.mem_cons_of_mem _ ho)
    unfold wpList at h
    unfold wpListIn
    split
    · rename_i hw
      rw [if_pos hw] at h
      rcases h with h | ⟨h1, h2⟩
      · exact wp_round (hd o (by simp)) (Oper.wp_mono (fun a w h => list_round hQ hd' h) h)
      · exact absurd h2 hQ
    · rename_i hw
      rw [if_neg hw] at h
      exact ⟨fun _ _ => trivial, list_round hQ hd' h⟩
/-! ### regions in which yield is called -/
theorem J_regionIn {id : Nat} {os : List Oper} (k : Jk E l n F (wpListIn Fence.wide 0 P os.toArray Q os)) : Jk E l n F ((Code.region id os.toArray false).wp P Q) :=
  fun w a H hF => wpIn_wide.1 (wpIn_region_lit (k w a H hF))
theorem LI_nil (k : Jk E l n F (Q .normal)) : Jk E l n F (wpListIn Fence.wide 0 P ops Q []) := k
theorem LI_op {o : Oper} {rest : List Oper} (k : Jop P ops Q o E l n F (wpListIn Fence.wide 0 P ops Q rest)) : Jk E l n F (wpListIn Fence.wide 0 P ops Q (o :: rest)) := fun w a H hF => by
  have := k w a H hF
  unfold wpListIn
  split
  · rename_i hw; rw [if_pos hw] at this; exact wp_wide this
  · rename_i hw; rw [if_neg hw] at this; exact ⟨fun _ _ => trivial, this⟩
def YCon (P : Program) (lp : Nat) (v : Value) (E : World) (L L' : List As) : Prop :=
  ∀ w, Sep E w L → YieldAt Fence.wide 0 P lp #[v] w fun e w' => e = .returned (.bool true) ∧ Sep E w' L'
theorem YCon.drop {P : Program} {lp : Nat} {v : Value} {E : World} {C : As} {l L' : List As} (h : YCon P lp v E l L') : YCon P lp v E (C :: l) L' := fun w H => h w H.tail
theorem LI_yield {lp : Nat} {L : List As} {ats : Array TypeId} {rest : List Oper} (hx : evl F x = some (.func (.yield lp) #[] #[])) (hy : evl F y = some v) (hd : Nat.blt d n = true) (hc : YCon P lp v E l L)
    (k : Jk E L n ((d, .bool true) :: F) (wpListIn Fence.wide 0 P ops Q rest)) :
    Jk E l n F (wpListIn Fence.wide 0 P ops Q (⟨some d, .call { callee := .value x, args := #[y], argTypes := ats }, T, p, e, none⟩ :: rest)) := fun w a H hF => by
  obtain ⟨fn, tmps, assign, body, hrun, hR⟩ := hc w H
  unfold wpListIn
  have hw : Region.wanted (⟨some d, .call { callee := .value x, args := #[y], argTypes := ats }, T, p, e, none⟩ : Oper) (yielded ops a.tmps) = true := rfl
  rw [if_pos hw]
  refine ⟨fun _ _ => trivial, ?_⟩
  show Oper.uponIn _ _ _ _ _ _ _ ((execOp a.eval ⟨some d, .call { callee := .value x, args := #[y], argTypes := ats }, T, p, e, none⟩).run P w)
  have hex : (execOp a.eval ⟨some d, .call { callee := .value x, args := #[y], argTypes := ats }, T, p, e, none⟩).run P w = .ok (.round lp fn tmps assign body) w := by
    simp [execOp, resolve, hF.evl hx, hF.evl hy, Deferred.ofValue, invoke, hrun]
  rw [hex]
  refine ⟨fun hh => (by cases hh), hR.mono fun e w' ⟨he, hs⟩ => ?_⟩
  subst he
  exact k w' _ hs (hF.put hd)
end
/-! ### slices.AppendSeq(nil, seq) -/
def apAssign (el : TypeId) : Code := .region 2 [({ dst := some 5, op := .assign (.tmp 7), type := el, pos := "iter.go:51", after := #[], guard := none } : Oper)].toArray false
def apOps (sT el : TypeId) : List Oper := [{ dst := some 8, op := .load sT (.tmp 2), type := sT, pos := "iter.go:52", after := #[], guard := none },
  { dst := some 9, op := .move (.tmp 5), type := el, pos := "iter.go:52", after := #[], guard := none },
  { dst := some 10, op := .buildSlice sT 1 #[(0, .tmp 9)], type := sT, pos := "iter.go:52", after := #[{ on := 1, ground := .data }], guard := none },
  { dst := some 11, op := .call { callee := .builtin .append, args := #[.tmp 8, .tmp 10], argTypes := #[sT, sT] }, type := sT, pos := "iter.go:52", after := #[{ on := 0, ground := .data }, { on := 2, ground := .data }], guard := none },
  { dst := none, op := .store sT (.tmp 2) (.tmp 11), type := 0, pos := "iter.go:52", after := #[{ on := 3, ground := .data }, { on := 3, ground := .chain }, { on := 0, ground := .phase }, { on := 1, ground := .phase }, { on := 2, ground := .phase }, { on := 3, ground := .phase }], guard := none }]
def apBody (sT el : TypeId) : Code := .block 1 (.region 3 (apOps sT el).toArray false)
def apTail (sT : TypeId) : List Oper := [{ dst := some 12, op := .load sT (.tmp 2), type := sT, pos := "iter.go:54", after := #[], guard := none },
  { dst := some 4, op := .assign (.tmp 12), type := sT, pos := "iter.go:54", after := #[{ on := 0, ground := .data }, { on := 0, ground := .phase }], guard := none }]
def apHead (sT : TypeId) : List Oper := [{ dst := some 2, op := .box sT (.tmp 0), type := 0, pos := "iter.go:50", after := #[], guard := none },
  { dst := some 4, op := .assign (.const (.slice none 0 0)), type := sT, pos := "iter.go:50", after := #[], guard := none }]
def apMove (fT : TypeId) : List Oper := [{ dst := some 6, op := .move (.tmp 1), type := fT, pos := "iter.go:51", after := #[], guard := none }]
def apCodeG (asg body : Code) (sT fT : TypeId) : Code := .seq (.region 0 (apHead sT).toArray false) (.seq (.seq (.region 1 (apMove fT).toArray false) (.block 0 (.rangeFunc (.tmp 6) #[7] asg body))) (.seq (.region 4 (apTail sT).toArray false) .ret))
def apCode (sT el fT : TypeId) : Code := apCodeG (apAssign el) (apBody sT el) sT fT
/-! .. where the elements are structs -/
section
variable {P : Program} {E : World} {l : List As} {sT el fT : TypeId} {sz by_ : Nat} {agg : Bool} {zs : List Value} {κ : Type} {enc : κ → Value} {cells : κ → List Value}
def apKeep (sT el : TypeId) (sz : Nat) (cells : κ → List Value) (Bs : Nat) (ss : List κ) : As := As.ex fun v : Value => As.all [blk Bs sT [v], row el sz v (ss.map cells)]
def apEnv (Bs : Nat) (sv : Value) : Env := [(6, sv), (4, .slice none 0 0), (2, .pointer (some ⟨Bs, 0, none⟩)), (0, .slice none 0 0), (1, sv)]
abbrev apRecG (asg body : Code) (Bs : Nat) (sv : Value) (D lp : Nat) (st : LoopState) : As := loopR 13 (apEnv Bs sv) #[7] asg body D lp st
abbrev apRec (sT el : TypeId) (Bs : Nat) (sv : Value) (D lp : Nat) (st : LoopState) : As := apRecG (apAssign el) (apBody sT el) Bs sv D lp st
theorem loop_turn {n : Nat} {F : Env} {ps : Array Tmp} {c1 c2 : Code} {D lp : Nat} {s1 s2 : LoopState} {m : List As} {w : World} {fn : FuncId} {tmps : Array Value} (hF : Fr n F { tmps := tmps, defers := [] })
    (hl : w.heap[lp]? = some (.loop { state := s1, pending := none, fn := fn, tmps := tmps, params := ps, assign := c1, body := c2, defers := D }))
    (H : Sep E w (loopR n F ps c1 c2 D lp s1 :: m)) : Sep E (w.putObj lp (.loop { state := s2, pending := none, fn := fn, tmps := tmps, params := ps, assign := c1, body := c2, defers := D })) (loopR n F ps c1 c2 D lp s2 :: m) := by
  refine H.rep .here put_same fun S' hS' => ?_
  obtain ⟨_, hSb⟩ := hS'
  exact ⟨⟨S', ⟨⟨fn, tmps, hF, World.putObj_heap_same (Array.getElem?_eq_some_iff.1 hl).1⟩, hSb⟩, fun _ h => .inl h⟩, fun k _ hk => put_out fun h => hk ((hSb k).2 h)⟩
theorem apYield (ht : P.underlying sT = some (.slice el)) (hT : Ty P el sz by_ agg zs) (hS : Ty P sT 1 24 false [.slice none 0 0]) (hsz : Nat.blt 0 sz = true) (hs64 : sz ≤ 64) (hzl : zs.length = sz)
    (hL : ∀ a, Lits [enc a] [cells a]) (hc : ∀ a, (cells a).length = sz ∧ ones (cells a) = true) {A B : As} {Bs D lp : Nat} {sv : Value} {ss : List κ} {a : κ} (hb : (ss.length + 1) * by_ ≤ 140737488355328) (hm : ss.length + 1 ≤ 9223372036854775807) :
    YCon P lp (enc a) E (A :: B :: apRec sT el Bs sv D lp .ready :: defA D :: apKeep sT el sz cells Bs ss :: l) (A :: B :: apRec sT el Bs sv D lp .ready :: defA D :: apKeep sT el sz cells Bs (ss ++ [a]) :: l) := by
  intro w H
  have hp : Pick (apRec sT el Bs sv D lp .ready) (A :: B :: apRec sT el Bs sv D lp .ready :: defA D :: apKeep sT el sz cells Bs ss :: l) (A :: B :: defA D :: apKeep sT el sz cells Bs ss :: l) := .there (.there .here)
  have H0 := H.pick hp
  obtain ⟨S0, ⟨fn, tmps, hF0, hl⟩, _⟩ := H0.head
  refine ⟨fn, tmps.setIfInBounds 7 (enc a), apAssign el, apBody sT el, by simpa using run_yield (P := P) (args := #[enc a]) hl rfl, roundIn_of_wpIn trivial ?_⟩
  have hF7 : Fr 13 ((7, enc a) :: apEnv Bs sv) { tmps := tmps.setIfInBounds 7 (enc a), defers := [] } := hF0.put (d := 7) rfl
  -- the assignment to the loop's variable
  unfold apAssign
  refine wpIn_region_lit (list_round (by rintro ⟨_, _, h⟩; exact h) (by simp) ?_)
  have key : Jk E (apRec sT el Bs sv D lp .ready :: A :: B :: defA D :: apKeep sT el sz cells Bs ss :: l) 13 ((7, enc a) :: apEnv Bs sv)
      (wpList P [({ dst := some 5, op := .assign (.tmp 7), type := el, pos := "iter.go:51", after := #[], guard := none } : Oper)].toArray
        (Exit.then (fun a₁ w₁ => ∃ w₂, (Instr.beginRound lp).run P w₁ = .ok () w₂ ∧ (apBody sT el).wpIn (Fence.wide.inRound lp) 0 P (roundPost P lp fun e w' => e = .returned (.bool true) ∧ Sep E w' (A :: B :: apRec sT el Bs sv D lp .ready :: defA D :: apKeep sT el sz cells Bs (ss ++ [a]) :: l)) a₁ w₂) fun _ _ _ => False)
        [{ dst := some 5, op := .assign (.tmp 7), type := el, pos := "iter.go:51", after := #[], guard := none }]) := by
    refine L_pur rfl (p_assign rfl) ?_
    refine L_nil ?_
    intro w1 a1 H1 hF1
    obtain ⟨S1, ⟨fn1, tmps1, hG, hl1⟩, _⟩ := H1.head
    refine ⟨_, run_beginRound hl1 rfl, ?_⟩
    have H2 := loop_turn (s2 := .busy) hG hl1 H1
    unfold apBody
    refine wpIn_block (wpIn_region_lit (list_round (by rintro ⟨_, _, h⟩; exact h) (by simp [apOps]) ?_))
    refine (?_ : Jk E (apRec sT el Bs sv D lp .busy :: A :: B :: defA D :: apKeep sT el sz cells Bs ss :: l) 13 ((5, enc a) :: (7, enc a) :: apEnv Bs sv) _) _ _ H2 hF1
    refine J_pick (A := apKeep sT el sz cells Bs ss) (.there (.there (.there (.there .here)))) ?_
    refine J_ex fun v => ?_
    refine J_all (m := [blk Bs sT [v], row el sz v (ss.map cells)]) ?_
    refine L_val rfl (v_load (b := Bs) (o := 0) rfl hS .here rfl) ?_
    refine L_pur rfl (p_move rfl) ?_
    refine L_op (x_lit (vals := [enc a]) ht hT hzl (.cons rfl .nil) (hL a) (Wf.cons (hc a).1 (hc a).2 Wf.nil) rfl (by omega) hsz rfl fun v10 => ?_)
    refine L_op (x_app (v := v) rfl rfl ht hT hsz hzl (.there (.there .here)) (fun w H => sep_reads .here H) (by simpa using hb) (by simpa using hm) rfl fun v11 => ?_)
    refine J_row .here fun _ a11 c11 hv11 _ _ _ => ?_
    subst hv11
    refine L_op (x_store (b := Bs) (o := 0) (vs := [.slice a11 (ss.map cells ++ [cells a]).length c11]) rfl rfl hS rfl rfl rfl (.there (.there .here)) (.put .at) ?_)
    refine L_nil ?_
    intro w3 a3 H3 _
    have H4 : Sep E w3 ([blk Bs sT [.slice a11 (ss.map cells ++ [cells a]).length c11], row el sz (.slice a11 (ss.map cells ++ [cells a]).length c11) (ss.map cells ++ [cells a])] ++ (apRec sT el Bs sv D lp .busy :: A :: B :: defA D :: l)) :=
      Sub.sep (.cons (.there (.there .here)) (.cons .here (.drop .refl))) H3
    have H5 : Sep E w3 (apKeep sT el sz cells Bs (ss ++ [a]) :: apRec sT el Bs sv D lp .busy :: A :: B :: defA D :: l) := by
      refine Sep.ex_in (.slice a11 (ss.map cells ++ [cells a]).length c11) ?_
      have := Sep.all_in H4
      rw [show (ss ++ [a]).map cells = ss.map cells ++ [cells a] by simp]
      exact this
    have H6 := H5.pick (A := apRec sT el Bs sv D lp .busy) (.there .here)
    obtain ⟨S3, ⟨fn3, tmps3, hG3, hl3⟩, _⟩ := H6.head
    refine ⟨_, _, run_endRound none hl3, rfl, ?_⟩
    have H7 := loop_turn (s2 := .ready) hG3 hl3 H6
    exact Sub.sep (.cons (.there (.there .here)) (.cons (.there (.there .here)) (.cons .here (.cons (.there .here) (.cons .here .refl))))) H7
  exact key _ _ H0 hF7
def Gives (P : Program) (gf : FuncId) (caps : Array Value) (enc : κ → Value) (S : List κ → Prop) (N : Nat) (E : World) (A B : As) : Prop :=
  ∀ (lp : Nat) (L : List κ → List As), (∀ ss a (A B : As), ss.length < N → YCon P lp (enc a) E (A :: B :: L ss) (A :: B :: L (ss ++ [a]))) →
    Con P gf (#[.func (.yield lp) #[] #[]] ++ caps) E (A :: B :: L []) (fun _ : List κ => .tuple #[]) (fun ss => As.pure (S ss) :: A :: B :: L ss)
theorem appendSeqG {f gf : FuncId} {fn fng : Func} {caps : Array Value} {asg body : Code} {S : List κ → Prop} {N : Nat} {A B : As} (hf : P.funcs[f]? = some fn) (hbody : fn.body = some (apCodeG asg body sT fT)) (hnt : fn.ntmps = 13) (hres : fn.results = #[.tmp 4])
    (hg : P.funcs[gf]? = some fng) (hgn : (fng.name == "runtime.NumGoroutine") = false) (hgb : fng.body.isNone = false)
    (ht : P.underlying sT = some (.slice el)) (hT : Ty P el sz by_ agg zs) (hS : Ty P sT 1 24 false [.slice none 0 0]) 
    (hY : ∀ (Bs D lp : Nat) (sv : Value) (ss : List κ) (a : κ) (A B : As), ss.length + 1 ≤ N → YCon P lp (enc a) E (A :: B :: apRecG asg body Bs sv D lp .ready :: defA D :: apKeep sT el sz cells Bs ss :: l) (A :: B :: apRecG asg body Bs sv D lp .ready :: defA D :: apKeep sT el sz cells Bs (ss ++ [a]) :: l))
    (hseq : Gives P gf caps enc S N E A B) :
    Con P f #[.slice none 0 0, .func (.func gf) #[] caps] E (A :: B :: l) (fun x : Value × List κ => x.1) (fun x => As.pure (S x.2) :: row el sz x.1 (x.2.map cells) :: A :: B :: l) := by
  intro w0 H0
  refine (callsIn_wide (n := 0)).1 (callsIn_of_wp_marks hf hbody trivial ?_ rfl)
  rw [hnt]
  obtain ⟨sv, hsv⟩ : ∃ sv, sv = Value.func (.func gf) #[] caps := ⟨_, rfl⟩
  rw [← hsv]
  have hFr0 : Fr 13 [(0, .slice none 0 0), (1, sv)] { tmps := #[.slice none 0 0, sv] ++ Array.replicate (13 - (#[.slice none 0 0, sv] : Array Value).size) undef, defers := [] } := by
    refine ⟨by simp, rfl, fun t v hv => ?_⟩
    rw [get_cons] at hv
    split at hv
    · rename_i e; subst e; cases hv; rfl
    · rw [get_cons] at hv
      split at hv
      · rename_i e; subst e; cases hv; rfl
      · cases hv
  unfold apCodeG
  refine wpIn_seq (wpIn_wide.2 ((?_ : Jk E (A :: B :: l) 13 [(0, .slice none 0 0), (1, sv)] _) w0 _ H0 hFr0))
  refine J_region (L_op (x_box rfl rfl rfl fun Bs => L_pur rfl (p_assign rfl) (L_nil (Q_then ?_))))
  intro w1 a1 H1 hF1
  refine wpIn_seq (wpIn_seq (wpIn_wide.2 ((?_ : Jk E (blk Bs sT [.slice none 0 0] :: A :: B :: l) 13 _ _) w1 a1 H1 hF1)))
  refine J_region (L_pur rfl (p_move rfl) (L_nil (Q_then ?_)))
  intro w2 a2 H2 hF2
  have hF2 : Fr 13 (apEnv Bs sv) a2 := hF2.keep (by unfold apEnv; exact .cons rfl (.cons rfl (.cons rfl (.cons rfl (.cons rfl .nil)))))
  refine wpIn_block (wpIn_rangeFunc ?_)
  intro fid _
  obtain ⟨lp, hlp⟩ : ∃ lp, lp = w2.heap.size + 1 := ⟨_, rfl⟩
  obtain ⟨D, hD⟩ : ∃ D, D = w2.heap.size := ⟨_, rfl⟩
  obtain ⟨W, hW⟩ : ∃ W, W = (w2.alloc (.deferred (some []))).alloc (.loop { state := .ready, pending := none, fn := fid, tmps := a2.tmps, params := #[7], assign := asg, body := body, defers := w2.heap.size }) := ⟨_, rfl⟩
  have hev : a2.eval (.tmp 6) = Value.func (.func gf) #[] caps := by rw [← hsv]; exact hF2.evl (x := .tmp 6) rfl
  have hgn' : ¬ fng.name = "runtime.NumGoroutine" := by simpa using hgn
  have hgb' : ¬ fng.body = none := by intro h; rw [h] at hgb; cases hgb
  refine ⟨lp, [{ target := .collected D, args := #[] }], W, { target := .fn (.func gf) caps, args := #[.func (.yield lp) #[] #[]] }, W, gf, #[.func (.yield lp) #[] #[]] ++ caps, W, ?_, ?_, fun _ _ => trivial, ?_, fun h => (by cases h), ?_⟩
  · rw [hW, hD, hlp]; exact run_enterLoop_outer _ _ _ _ _
  · simp only [rangeCall, resolve, hev]
    simp [Deferred.ofValue, Act.eval]
  · simp [invoke, callFunc, hg, hgn', hgb']
  · have H3 : Sep E w2 (apKeep sT el sz cells Bs [] :: A :: B :: l) := by
      have h1 : Sep E w2 (row el sz (.slice none 0 0) [] :: blk Bs sT [.slice none 0 0] :: A :: B :: l) := (J_nil (K := fun _ w => Sep E w (row el sz (.slice none 0 0) [] :: blk Bs sT [.slice none 0 0] :: A :: B :: l)) (fun w a H _ => H)) w2 a2 H2 hF2
      have h2 : Sep E w2 ([blk Bs sT [.slice none 0 0], row el sz (.slice none 0 0) []] ++ (A :: B :: l)) := h1.pick (.there .here)
      exact Sep.ex_in (.slice none 0 0) (Sep.all_in h2)
    have H4 : Sep E (w2.alloc (.deferred (some []))) (defA D :: apKeep sT el sz cells Bs [] :: A :: B :: l) :=
      H3.add alloc_same (fun _ hb => alloc_old hb) (S1 := fun q => q.1 = D) ⟨by rw [hD]; exact heap_alloc_new w2 _, fun _ => Iff.rfl⟩ (fun b hb => by omega)
    have hs1 : (w2.alloc (.deferred (some []))).heap.size = w2.heap.size + 1 := by simp
    have H5 : Sep E W (apRecG asg body Bs sv D lp .ready :: defA D :: apKeep sT el sz cells Bs [] :: A :: B :: l) := by
      rw [hW]
      refine H4.add alloc_same (fun _ hb => alloc_old hb) (S1 := fun q => q.1 = lp) ⟨⟨fid, a2.tmps, ⟨hF2.size, rfl, hF2.get⟩, ?_⟩, fun _ => Iff.rfl⟩ (fun b hb => by omega)
      rw [hlp, ← hs1, hD]; exact heap_alloc_new _ _
    have H6 : Sep E W (A :: B :: (fun ss => apRecG asg body Bs sv D lp .ready :: defA D :: apKeep sT el sz cells Bs ss :: l) []) :=
      Sub.sep (.cons (.there (.there (.there .here))) (.cons (.there (.there (.there .here))) .refl)) H5
    have hcon := hseq lp (fun ss => apRecG asg body Bs sv D lp .ready :: defA D :: apKeep sT el sz cells Bs ss :: l) (fun ss a A B hlen => by
      exact hY Bs D lp sv ss a A B hlen)
    refine callsIn_wide.2 ((hcon W H6).mono fun e w3 ⟨ss, he, H7⟩ => ?_)
    subst he
    obtain ⟨hSs, H8⟩ := H7.pure_out
    have H9 := H8.pick (A := apRecG asg body Bs sv D lp .ready) (.there (.there .here))
    obtain ⟨S3, ⟨fn3, tmps3, hG3, hl3⟩, _⟩ := H9.head
    refine ⟨none, _, run_endLoop hl3 (by simp), ?_⟩
    have H10 := loop_turn (s2 := .exhausted) hG3 hl3 H9
    revert H10
    generalize w3.putObj lp _ = w4
    intro H10
    have H11 : Sep E w4 (apKeep sT el sz cells Bs ss :: defA D :: A :: B :: l) := Sub.sep (.cons (.there (.there (.there (.there .here)))) (.cons (.there (.there (.there .here))) (.cons (.there .here) (.cons (.there .here) (.drop .refl))))) H10
    obtain ⟨v, H12⟩ := H11.ex_out
    have H13 : Sep E w4 (blk Bs sT [v] :: row el sz v (ss.map cells) :: defA D :: A :: B :: l) := Sep.all_out (m := [blk Bs sT [v], row el sz v (ss.map cells)]) H12
    have hload : ∀ (T : TypeId) p e g, (execOp a2.eval ⟨some 12, .load sT (.tmp 2), T, p, e, g⟩).run P w4 = .ok (.value v) w4 := fun T p e g =>
      v_load (E := E) (l := blk Bs sT [v] :: row el sz v (ss.map cells) :: defA D :: A :: B :: l) (b := Bs) (o := 0) (F := apEnv Bs sv) (n := 13) rfl hS .here rfl w4 a2 H13 hF2
    refine wpIn_seq (wpIn_region_lit ?_)
    unfold apTail
    refine wpListIn_plain rfl fun K1 hK1 => ⟨fun _ _ => trivial, ?_⟩
    show Oper.uponIn _ _ _ _ _ _ _ ((execOp a2.eval ⟨some 12, .load sT (.tmp 2), sT, "iter.go:54", #[], none⟩).run P w4)
    rw [hload]
    refine hK1 _ _ (wpListIn_plain rfl fun K2 hK2 => ⟨fun _ _ => trivial, ?_⟩)
    have hsz2 : a2.tmps.size = 13 := hF2.size
    have hass : ∀ (D' : List Deferred) (T : TypeId) p e g, (execOp (({ a2 with defers := D' } : Act).put (some 12) v).eval ⟨some 4, .assign (.tmp 12), T, p, e, g⟩).run P w4 = .ok (.value v) w4 := fun D' T p e g => by
      simp [execOp, Act.eval, Act.put, hsz2]
    show Oper.uponIn _ _ _ _ _ _ _ ((execOp (({ a2 with defers := _ } : Act).put (some 12) v).eval ⟨some 4, .assign (.tmp 12), sT, "iter.go:54", #[{ on := 0, ground := .data }, { on := 0, ground := .phase }], none⟩).run P w4)
    rw [hass]
    refine hK2 _ _ (wpListIn_nil (wpIn_ret ?_))
    have H14 := H13.pick (A := defA D) (.there (.there .here))
    obtain ⟨S4, hd4, _⟩ := H14.head
    have hdef : a2.defers = [] := hF2.defers
    show LeavesInM _ _ _ _ _ _ ([{ target := .collected D, args := #[] }] ++ a2.defers) _ _
    rw [hdef]
    refine ⟨by simp, .inl ⟨D, _, rfl, run_takeDeferred hd4, ?_⟩⟩
    have H15 : Sep E (w4.putObj D (.deferred none)) (As.pure True :: blk Bs sT [v] :: row el sz v (ss.map cells) :: A :: B :: l) := H14.rep .here put_same fun S' hS' => ⟨⟨fun _ => False, ⟨trivial, fun _ h => h⟩, fun _ h => h.elim⟩, fun k _ hk => put_out fun h => hk ((hS'.2 k).2 h)⟩
    have H16 := H15.pure_out.2.tail
    refine ⟨v, ?_, (v, ss), rfl, Sep.pure_in hSs H16⟩
    have ht4 : (((({ a2 with defers := [{ target := .collected D, args := #[] }] ++ a2.defers } : Act).put (some 12) v).put (some 4) v).tmps)[4]? = some v := by simp [Act.put, hsz2]
    unfold results
    rw [hres]
    simp [Act.put, hsz2]
theorem appendSeq {f gf : FuncId} {fn fng : Func} {caps : Array Value} {S : List κ → Prop} {N : Nat} {A B : As} (hf : P.funcs[f]? = some fn) (hbody : fn.body = some (apCode sT el fT)) (hnt : fn.ntmps = 13) (hres : fn.results = #[.tmp 4])
    (hg : P.funcs[gf]? = some fng) (hgn : (fng.name == "runtime.NumGoroutine") = false) (hgb : fng.body.isNone = false)
    (ht : P.underlying sT = some (.slice el)) (hT : Ty P el sz by_ agg zs) (hS : Ty P sT 1 24 false [.slice none 0 0]) (hsz : Nat.blt 0 sz = true) (hs64 : sz ≤ 64) (hzl : zs.length = sz)
    (hL : ∀ a, Lits [enc a] [cells a]) (hc : ∀ a, (cells a).length = sz ∧ ones (cells a) = true) (hN : N * by_ ≤ 140737488355328) (hN2 : N ≤ 9223372036854775807)
    (hseq : Gives P gf caps enc S N E A B) :
    Con P f #[.slice none 0 0, .func (.func gf) #[] caps] E (A :: B :: l) (fun x : Value × List κ => x.1) (fun x => As.pure (S x.2) :: row el sz x.1 (x.2.map cells) :: A :: B :: l) :=
  appendSeqG hf hbody hnt hres hg hgn hgb ht hT hS (fun Bs D lp sv ss a A B h1 => apYield ht hT hS hsz hs64 hzl hL hc (Nat.le_trans (Nat.mul_le_mul_right _ h1) hN) (by omega)) hseq
end
end Go.Pse
namespace Go.Pse
open Go.RowKit Go.Sort
theorem onBlock {w : World} {b : Nat} {f : Array Value → Array Value} {C : Array Value} {e : TypeId} {fr : Nat × Nat} (h : w.heap[b]? = some (.cells C e fr)) : (mapBlock w b f).heap[b]? = some (.cells (f C) e fr) := by
  have : (w.heap.modify b (onCells f))[b]? = some (.cells (f C) e fr) := by rw [Array.getElem?_modify, if_pos rfl, h]; rfl
  exact this
theorem offBlock {w : World} {b k : Nat} {f : Array Value → Array Value} (h : k ≠ b) : (mapBlock w b f).heap[k]? = w.heap[k]? := by
  have : (w.heap.modify b (onCells f))[k]? = w.heap[k]? := by rw [Array.getElem?_modify, if_neg (Ne.symm h)]
  exact this
theorem row_laid {E w w' : World} {el : TypeId} {k b o cap n : Nat} {xs ys : List (List Value)} {l : List As} {f : Array Value → Array Value} {os : Array Obj}
    (H : Sep E w (row el k (.slice (some ⟨b, o, none⟩) xs.length cap) xs :: l)) (hlen : ys.length = xs.length) (hw : Wf k ys)
    (hf : ∀ C : Array Value, o + xs.length * k ≤ C.size → (f C).size = C.size ∧ ∀ i, (f C)[i]? = if o ≤ i ∧ i < o + xs.length * k then ys.flatten[i - o]? else C[i]?)
    (hw' : w' = grow (mapBlock (Sort.ahead w n) b f) os) : Sep E w' (row el k (.slice (some ⟨b, o, none⟩) xs.length cap) ys :: l) := by
  subst hw'
  have hsz : (mapBlock (Sort.ahead w n) b f).heap.size = w.heap.size := by simp [mapBlock]
  have hold : ∀ j, j < w.heap.size → j ≠ b → (grow (mapBlock (Sort.ahead w n) b f) os).heap[j]? = w.heap[j]? := fun j hj hjb => by
    rw [heap_grow_old _ _ (by rw [hsz]; exact hj), offBlock hjb]; rfl
  refine H.rep .here ⟨rfl, rfl, ⟨rfl, Nat.le_add_right _ _⟩, by simp [grow, hsz]⟩ fun S hS => ?_
  obtain ⟨hwf, hS⟩ := hS
  rcases hS with ⟨h, _⟩ | ⟨b', o', cap', C, h1, h2, h3, h4, h5, h6, h7⟩
  · cases h
  · cases h1
    have hb : b < w.heap.size := (Array.getElem?_eq_some_iff.1 h2).1
    have hle : xs.length * k ≤ cap * k := Nat.mul_le_mul_right _ h3
    obtain ⟨g1, g2⟩ := hf C (by omega)
    refine ⟨⟨S, ⟨hw, .inr ⟨b, o, cap, f C, by rw [hlen], ?_, by omega, h4, by rw [g1]; exact h5, ?_, h7⟩⟩, fun _ h => .inl h⟩, fun q hq hS => lk_of_heap (hold q.1 hq fun e => hS ((h7 q).2 e))⟩
    · rw [heap_grow_old _ _ (by rw [hsz]; exact hb)]
      exact onBlock (w := Sort.ahead w n) h2
    · apply List.ext_getElem?
      intro i
      rw [List.getElem?_take, List.getElem?_drop, hlen]
      have h8 := g2 (o + i)
      rw [← Array.getElem?_toList] at h8
      rw [h8]
      by_cases hi : i < xs.length * k
      · rw [if_pos hi, if_pos (by omega)]; congr 1; omega
      · rw [if_neg hi, List.getElem?_eq_none (by rw [hw.len, hlen]; omega)]
theorem mem_flat {k : Nat} {xs : List (List Value)} (hw : Wf k xs) {t : Nat} (ht : t < xs.length * k) : ∃ x, xs[t / k]? = some x ∧ t % k < k ∧ xs.flatten[t]? = x[t % k]? := by
  have hk : 0 < k := by rcases Nat.eq_zero_or_pos k with h | h; · subst h; simp at ht
                        · exact h
  have h1 : t / k < xs.length := (Nat.div_lt_iff_lt_mul hk).2 ht
  refine ⟨xs[t / k], List.getElem?_eq_getElem h1, Nat.mod_lt _ hk, ?_⟩
  have := Wf.get (i := t / k) (k := t % k) hw (List.getElem?_eq_getElem h1) (Nat.mod_lt _ hk)
  rwa [Nat.mul_comm, Nat.div_add_mod] at this
section
variable {E w : World} {el : TypeId} {b o cap : Nat} {l : List As}
theorem row_cell {k : Nat} {xs : List (List Value)} (H : Sep E w (row el k (.slice (some ⟨b, o, none⟩) xs.length cap) xs :: l)) : b < w.heap.size ∧ ∀ i u, xs.flatten[i]? = some u → w.cell? ⟨b, o + i, none⟩ = some u ∧ w.frozen? ⟨b, o + i, none⟩ = false := by
  obtain ⟨S, hwf, hS⟩ := H.head
  rcases hS with ⟨h, _⟩ | ⟨b', o', cap', C, h1, h2, h3, h4, h5, h6, h7⟩
  · cases h
  · cases h1
    refine ⟨(Array.getElem?_eq_some_iff.1 h2).1, fun i u hi => ⟨?_, ?_⟩⟩
    · have h8 : i < xs.length * k := by have := (List.getElem?_eq_some_iff.1 hi).1; rwa [hwf.len] at this
      rw [← h6, List.getElem?_take, if_pos h8, List.getElem?_drop, Array.getElem?_toList] at hi
      simp [World.cell?, h2, hi]
    · simp [World.frozen?, h2]
def encN (x : Int) : List Value := [.int .i64 x]
theorem wf_encN (xs : List Int) : Wf 1 (xs.map encN) := fun x hx => by obtain ⟨a, _, rfl⟩ := List.mem_map.1 hx; exact ⟨rfl, rfl⟩
theorem flat_encN : ∀ xs : List Int, (xs.map encN).flatten = xs.map (Value.int .i64)
  | [] => rfl
  | x :: xs => by rw [List.map_cons, List.flatten_cons, flat_encN xs]; rfl
theorem int_holds {xs : List Int} (H : Sep E w (row el 1 (.slice (some ⟨b, o, none⟩) (xs.map encN).length cap) (xs.map encN) :: l)) : Holds (Value.int .i64) w b o xs.toArray := fun j hj => by
  have hj' : j < xs.length := by simpa using hj
  refine (row_cell H).2 j _ ?_
  rw [flat_encN, List.getElem?_map, List.getElem?_eq_getElem hj']
  simp [hj']
theorem int_laid {xs ys : List Int} {w' : World} {n : Nat} {os : Array Obj} (H : Sep E w (row el 1 (.slice (some ⟨b, o, none⟩) (xs.map encN).length cap) (xs.map encN) :: l)) (hlen : ys.length = xs.length)
    (hw' : w' = grow (putRow (Value.int .i64) (Sort.ahead w n) b o ys.toArray) os) : Sep E w' (row el 1 (.slice (some ⟨b, o, none⟩) (xs.map encN).length cap) (ys.map encN) :: l) := by
  refine row_laid H (by simp [hlen]) (wf_encN ys) (fun C hC => ⟨by simp [putCells], fun i => ?_⟩) hw'
  rw [flat_encN]
  simp only [List.length_map, Nat.mul_one] at hC ⊢
  unfold putCells
  rw [Array.getElem?_mapIdx]
  simp only [List.size_toArray, hlen]
  by_cases hi : o ≤ i ∧ i < o + xs.length
  · rw [if_pos hi]
    have hiC : i < C.size := by omega
    have hiy : i - o < ys.length := by omega
    rw [Array.getElem?_eq_getElem hiC, Option.map_some, if_pos hi, List.getElem?_map, List.getElem?_eq_getElem hiy]
    simp [hiy]
  · rw [if_neg hi]
    cases C[i]? with
    | none => rfl
    | some u => simp only [Option.map_some, if_neg hi]
end
def insZ (x : Int) : List Int → List Int
  | [] => [x]
  | y :: ys => if y < x then y :: insZ x ys else x :: y :: ys
def sortZ : List Int → List Int
  | [] => []
  | x :: xs => insZ x (sortZ xs)
theorem insZ_perm (x : Int) : ∀ ys : List Int, (insZ x ys).Perm (x :: ys)
  | [] => List.Perm.refl _
  | y :: ys => by
    unfold insZ
    split
    · exact ((insZ_perm x ys).cons y).trans (List.Perm.swap x y ys)
    · exact List.Perm.refl _
theorem sortZ_isPerm : ∀ xs : List Int, (sortZ xs).Perm xs
  | [] => List.Perm.refl _
  | x :: xs => (insZ_perm x (sortZ xs)).trans ((sortZ_isPerm xs).cons x)
theorem insZ_sorted (x : Int) : ∀ {ys : List Int}, (ys.Pairwise fun a b => a ≤ b) → (insZ x ys).Pairwise fun a b => a ≤ b
  | [], _ => List.pairwise_singleton _ _
  | y :: ys, h => by
    have h1 := List.pairwise_cons.1 h
    unfold insZ
    split
    · refine List.pairwise_cons.2 ⟨fun z hz => ?_, insZ_sorted x h1.2⟩
      rcases List.mem_cons.1 ((insZ_perm x ys).mem_iff.1 hz) with rfl | hz
      · omega
      · exact h1.1 z hz
    · refine List.pairwise_cons.2 ⟨fun z hz => ?_, h⟩
      rcases List.mem_cons.1 hz with rfl | hz
      · omega
      · have := h1.1 z hz; omega
theorem sortZ_sorted : ∀ xs : List Int, (sortZ xs).Pairwise fun a b => a ≤ b
  | [] => List.Pairwise.nil
  | x :: xs => insZ_sorted x (sortZ_sorted xs)
theorem sortZ_len (xs : List Int) : (sortZ xs).length = xs.length := (sortZ_isPerm xs).length_eq
theorem sortZ_perm {xs ys : List Int} (h : xs.Perm ys) : sortZ xs = sortZ ys :=
  List.Perm.eq_of_pairwise (le := fun a b => a ≤ b) (fun a b _ _ h1 h2 => by omega) (sortZ_sorted xs) (sortZ_sorted ys) (((sortZ_isPerm xs).trans h).trans (sortZ_isPerm ys).symm)
theorem sortZ_merge (xs : List Int) : (xs.mergeSort fun x y => decide (x ≤ y)) = sortZ xs := by
  have tr : ∀ a b c : Int, decide (a ≤ b) = true → decide (b ≤ c) = true → decide (a ≤ c) = true := fun a b c h1 h2 => by simp only [decide_eq_true_eq] at *; omega
  have to : ∀ a b : Int, (decide (a ≤ b) || decide (b ≤ a)) = true := fun a b => by simp only [Bool.or_eq_true, decide_eq_true_eq]; omega
  refine List.Perm.eq_of_pairwise (le := fun a b => a ≤ b) (fun a b _ _ h1 h2 => by omega) ((List.pairwise_mergeSort tr to xs).imp fun h => by simpa using h) (sortZ_sorted xs) ((List.mergeSort_perm xs _).trans (sortZ_isPerm xs).symm)
theorem con_sortZ {P : Program} {f : FuncId} {el : TypeId} {E : World} {l m : List As} {v : Value} {xs : List Int}
    (h1 : ∀ (b o cap : Nat) (w : World), Holds (Value.int .i64) w b o xs.toArray → b < w.heap.size → Calls P f #[.slice (some ⟨b, o, none⟩) xs.length cap] w fun e w' => e = .returned (.tuple #[]) ∧ ∃ n os, w' = grow (putRow (Value.int .i64) (Sort.ahead w n) b o (sortZ xs).toArray) os)
    (h0 : ∀ (p : Option Addr) (cap : Nat) (w : World), Calls P f #[.slice p 0 cap] w fun e w' => e = .returned (.tuple #[]) ∧ w' = w)
    (hp : Pick (row el 1 v (xs.map encN)) l m) : Con P f #[v] E l (fun _ : Unit => .tuple #[]) (fun _ => row el 1 v ((sortZ xs).map encN) :: m) := fun w H => by
  have H' := H.pick hp
  obtain ⟨S, hwf, hS⟩ := H'.head
  rcases hS with ⟨rfl, hx, _⟩ | ⟨b, o, cap, C, rfl, h2, _⟩
  · have hx' : xs = [] := by simpa using hx
    subst hx'
    exact (h0 none 0 w).mono fun e w' ⟨he, hw⟩ => ⟨(), he, by subst hw; rw [show sortZ [] = [] by simp [sortZ]]; exact H'⟩
  · have hh := h1 b o cap w (int_holds H') (row_cell H').1
    rw [← List.length_map encN] at hh
    exact hh.mono fun e w' ⟨he, n, os, hw⟩ => ⟨(), he, by have := int_laid H' (sortZ_len xs) hw; rw [List.length_map] at this; simpa [sortZ_len] using this⟩
end Go.Pse
namespace Go.Proofs
open Go.Shelf
def Tryz.sortA_ren : Go.Shelf.Ren := ⟨fun | 5 => 98 | 8 => 92 | 7 => 151 | 19 => 148 | 20 => 149 | 10 => 201 | 11 => 202 | 12 => 203 | 13 => 204 | 14 => 205 | 15 => 206 | 16 => 207 | 17 => 208 | 18 => 209 | 30 => 258 | 31 => 197 | 32 => 198 | 33 => 259 | 34 => 260 | 35 => 93 | 40 => 281 | n => n, fun | 23 => 73 | 25 => 3 | 3 => 3 | 32 => 139 | 22 => 73 | 0 => 0 | 44 => 22 | 46 => 134 | 4 => 4 | 36 => 306 | 35 => 305 | 41 => 36 | 5 => 5 | 9 => 9 | 53 => 356 | 57 => 360 | 63 => 406 | 64 => 407 | n => n, fun | n => n⟩
theorem Tryz.sortA : Go.Proofs.SlLaysM.n5 Tryz.prog Tryz.sortA_ren := {
  mixed := by kernel_rfl
  f5 := ⟨Tryz.f98.name, by decide, Tryz.func98.trans (congrArg some (by kernel_rfl))⟩
  f7 := ⟨Tryz.f151.name, by decide, Tryz.func151.trans (congrArg some (by kernel_rfl))⟩
  f8 := Tryz.func92.trans (congrArg some (by kernel_rfl))
  f10 := ⟨Tryz.f201.name, by decide, Tryz.func201.trans (congrArg some (by kernel_rfl))⟩
  f11 := ⟨Tryz.f202.name, by decide, Tryz.func202.trans (congrArg some (by kernel_rfl))⟩
  f12 := ⟨Tryz.f203.name, by decide, Tryz.func203.trans (congrArg some (by kernel_rfl))⟩
  f13 := ⟨Tryz.f204.name, by decide, Tryz.func204.trans (congrArg some (by kernel_rfl))⟩
  f14 := ⟨Tryz.f205.name, by decide, Tryz.func205.trans (congrArg some (by kernel_rfl))⟩
  f15 := ⟨Tryz.f206.name, by decide, Tryz.func206.trans (congrArg some (by kernel_rfl))⟩
  f16 := ⟨Tryz.f207.name, by decide, Tryz.func207.trans (congrArg some (by kernel_rfl))⟩
  f17 := ⟨Tryz.f208.name, by decide, Tryz.func208.trans (congrArg some (by kernel_rfl))⟩
  f18 := ⟨Tryz.f209.name, by decide, Tryz.func209.trans (congrArg some (by kernel_rfl))⟩
  f19 := Tryz.func148.trans (congrArg some (by kernel_rfl))
  f20 := Tryz.func149.trans (congrArg some (by kernel_rfl))
  f30 := ⟨Tryz.f258.name, by decide, Tryz.func258.trans (congrArg some (by kernel_rfl))⟩
  f31 := Tryz.func197.trans (congrArg some (by kernel_rfl))
  f32 := Tryz.func198.trans (congrArg some (by kernel_rfl))
  f33 := ⟨Tryz.f259.name, by decide, Tryz.func259.trans (congrArg some (by kernel_rfl))⟩
  f34 := ⟨Tryz.f260.name, by decide, Tryz.func260.trans (congrArg some (by kernel_rfl))⟩
  f35 := ⟨Tryz.f93.name, by decide, Tryz.func93.trans (congrArg some (by kernel_rfl))⟩
  f40 := ⟨Tryz.f281.name, by decide, Tryz.func281.trans (congrArg some (by kernel_rfl))⟩
  t0 := Tryz.underlying0
  a0 := Tryz.isAgg0
  z0 := Tryz.sizeOf0
  v0 := Tryz.zeroValue0
  t3 := Tryz.underlying3
  a3 := Tryz.isAgg3
  z3 := Tryz.sizeOf3
  v3 := Tryz.zeroValue3
  t4 := Tryz.underlying4
  a4 := Tryz.isAgg4
  z4 := Tryz.sizeOf4
  v4 := Tryz.zeroValue4
  t5 := Tryz.underlying5
  a5 := Tryz.isAgg5
  z5 := Tryz.sizeOf5
  v5 := Tryz.zeroValue5
  t9 := Tryz.underlying9
  a9 := Tryz.isAgg9
  z9 := Tryz.sizeOf9
  v9 := Tryz.zeroValue9
  t22 := Tryz.underlying73
  a22 := Tryz.isAgg73
  z22 := Tryz.sizeOf73
  v22 := Tryz.zeroValue73
  t23 := Tryz.underlying73
  a23 := Tryz.isAgg73
  z23 := Tryz.sizeOf73
  v23 := Tryz.zeroValue73
  t25 := Tryz.underlying3
  a25 := Tryz.isAgg3
  z25 := Tryz.sizeOf3
  v25 := Tryz.zeroValue3
  t32 := Tryz.underlying139
  a32 := Tryz.isAgg139
  z32 := Tryz.sizeOf139
  v32 := Tryz.zeroValue139
  t35 := Tryz.underlying305
  a35 := Tryz.isAgg305
  z35 := Tryz.sizeOf305
  v35 := Tryz.zeroValue305
  t36 := Tryz.underlying306
  a36 := Tryz.isAgg306
  z36 := Tryz.sizeOf306
  v36 := Tryz.zeroValue306
  t41 := Tryz.underlying36
  a41 := Tryz.isAgg36
  z41 := Tryz.sizeOf36
  v41 := Tryz.zeroValue36
  t44 := Tryz.underlying22
  a44 := Tryz.isAgg22
  z44 := Tryz.sizeOf22
  v44 := Tryz.zeroValue22
  t46 := Tryz.underlying134
  a46 := Tryz.isAgg134
  z46 := Tryz.sizeOf134
  v46 := Tryz.zeroValue134
  t53 := Tryz.underlying356
  a53 := Tryz.isAgg356
  z53 := Tryz.sizeOf356
  v53 := Tryz.zeroValue356
  t57 := Tryz.underlying360
  a57 := Tryz.isAgg360
  z57 := Tryz.sizeOf360
  v57 := Tryz.zeroValue360
  t63 := Tryz.underlying406
  a63 := Tryz.isAgg406
  z63 := Tryz.sizeOf406
  v63 := Tryz.zeroValue406
  t64 := Tryz.underlying407
  a64 := Tryz.isAgg407
  z64 := Tryz.sizeOf407
  v64 := Tryz.zeroValue407 }
def Tryz.sortPl_ren : Go.Shelf.Ren := ⟨fun | 6 => 101 | 15 => 92 | 14 => 153 | 28 => 148 | 29 => 149 | 20 => 210 | 21 => 211 | 22 => 212 | 23 => 213 | 24 => 214 | 25 => 215 | 26 => 216 | 27 => 217 | 46 => 261 | 47 => 197 | 48 => 198 | 49 => 262 | 50 => 263 | 57 => 282 | n => n, fun | 22 => 81 | 24 => 67 | 25 => 199 | 3 => 3 | 39 => 139 | 0 => 0 | 53 => 22 | 55 => 134 | 4 => 4 | 46 => 306 | 45 => 305 | 50 => 36 | 5 => 5 | 9 => 9 | 66 => 356 | 70 => 360 | 76 => 406 | 77 => 407 | n => n, fun | n => n⟩
theorem Tryz.sortPl : Go.Proofs.SlLaysF0.n6 Tryz.prog Tryz.sortPl_ren := {
  mixed := by kernel_rfl
  f6 := ⟨Tryz.f101.name, by decide, Tryz.func101.trans (congrArg some (by kernel_rfl))⟩
  f14 := ⟨Tryz.f153.name, by decide, Tryz.func153.trans (congrArg some (by kernel_rfl))⟩
  f15 := Tryz.func92.trans (congrArg some (by kernel_rfl))
  f20 := ⟨Tryz.f210.name, by decide, Tryz.func210.trans (congrArg some (by kernel_rfl))⟩
  f21 := ⟨Tryz.f211.name, by decide, Tryz.func211.trans (congrArg some (by kernel_rfl))⟩
  f22 := ⟨Tryz.f212.name, by decide, Tryz.func212.trans (congrArg some (by kernel_rfl))⟩
  f23 := ⟨Tryz.f213.name, by decide, Tryz.func213.trans (congrArg some (by kernel_rfl))⟩
  f24 := ⟨Tryz.f214.name, by decide, Tryz.func214.trans (congrArg some (by kernel_rfl))⟩
  f25 := ⟨Tryz.f215.name, by decide, Tryz.func215.trans (congrArg some (by kernel_rfl))⟩
  f26 := ⟨Tryz.f216.name, by decide, Tryz.func216.trans (congrArg some (by kernel_rfl))⟩
  f27 := ⟨Tryz.f217.name, by decide, Tryz.func217.trans (congrArg some (by kernel_rfl))⟩
  f28 := Tryz.func148.trans (congrArg some (by kernel_rfl))
  f29 := Tryz.func149.trans (congrArg some (by kernel_rfl))
  f46 := ⟨Tryz.f261.name, by decide, Tryz.func261.trans (congrArg some (by kernel_rfl))⟩
  f47 := Tryz.func197.trans (congrArg some (by kernel_rfl))
  f48 := Tryz.func198.trans (congrArg some (by kernel_rfl))
  f49 := ⟨Tryz.f262.name, by decide, Tryz.func262.trans (congrArg some (by kernel_rfl))⟩
  f50 := ⟨Tryz.f263.name, by decide, Tryz.func263.trans (congrArg some (by kernel_rfl))⟩
  f57 := ⟨Tryz.f282.name, by decide, Tryz.func282.trans (congrArg some (by kernel_rfl))⟩
  t0 := Tryz.underlying0
  a0 := Tryz.isAgg0
  z0 := Tryz.sizeOf0
  v0 := Tryz.zeroValue0
  t3 := Tryz.underlying3
  a3 := Tryz.isAgg3
  z3 := Tryz.sizeOf3
  v3 := Tryz.zeroValue3
  t4 := Tryz.underlying4
  a4 := Tryz.isAgg4
  z4 := Tryz.sizeOf4
  v4 := Tryz.zeroValue4
  t5 := Tryz.underlying5
  a5 := Tryz.isAgg5
  z5 := Tryz.sizeOf5
  v5 := Tryz.zeroValue5
  t9 := Tryz.underlying9
  a9 := Tryz.isAgg9
  z9 := Tryz.sizeOf9
  v9 := Tryz.zeroValue9
  t22 := Tryz.underlying81
  a22 := Tryz.isAgg81
  z22 := Tryz.sizeOf81
  v22 := Tryz.zeroValue81
  t25 := Tryz.underlying199
  a25 := Tryz.isAgg199
  z25 := Tryz.sizeOf199
  v25 := Tryz.zeroValue199
  t39 := Tryz.underlying139
  a39 := Tryz.isAgg139
  z39 := Tryz.sizeOf139
  v39 := Tryz.zeroValue139
  t45 := Tryz.underlying305
  a45 := Tryz.isAgg305
  z45 := Tryz.sizeOf305
  v45 := Tryz.zeroValue305
  t46 := Tryz.underlying306
  a46 := Tryz.isAgg306
  z46 := Tryz.sizeOf306
  v46 := Tryz.zeroValue306
  t50 := Tryz.underlying36
  a50 := Tryz.isAgg36
  z50 := Tryz.sizeOf36
  v50 := Tryz.zeroValue36
  t53 := Tryz.underlying22
  a53 := Tryz.isAgg22
  z53 := Tryz.sizeOf22
  v53 := Tryz.zeroValue22
  t55 := Tryz.underlying134
  a55 := Tryz.isAgg134
  z55 := Tryz.sizeOf134
  v55 := Tryz.zeroValue134
  t66 := Tryz.underlying356
  a66 := Tryz.isAgg356
  z66 := Tryz.sizeOf356
  v66 := Tryz.zeroValue356
  t70 := Tryz.underlying360
  a70 := Tryz.isAgg360
  z70 := Tryz.sizeOf360
  v70 := Tryz.zeroValue360
  t76 := Tryz.underlying406
  a76 := Tryz.isAgg406
  z76 := Tryz.sizeOf406
  v76 := Tryz.zeroValue406
  t77 := Tryz.underlying407
  a77 := Tryz.isAgg407
  z77 := Tryz.sizeOf407
  v77 := Tryz.zeroValue407 }
def Tryz.sortRq_ren : Go.Shelf.Ren := ⟨fun | 6 => 55 | 15 => 92 | 14 => 91 | 28 => 148 | 29 => 149 | 20 => 140 | 21 => 141 | 22 => 142 | 23 => 143 | 24 => 144 | 25 => 145 | 26 => 146 | 27 => 147 | 46 => 196 | 47 => 197 | 48 => 198 | 49 => 199 | 50 => 200 | 57 => 257 | n => n, fun | 22 => 54 | 24 => 104 | 25 => 173 | 3 => 3 | 39 => 139 | 0 => 0 | 53 => 22 | 55 => 134 | 4 => 4 | 46 => 306 | 45 => 305 | 50 => 36 | 5 => 5 | 9 => 9 | 66 => 356 | 70 => 360 | 76 => 406 | 77 => 407 | n => n, fun | n => n⟩
theorem Tryz.sortRq : Go.Proofs.SlLaysF0.n6 Tryz.prog Tryz.sortRq_ren := {
  mixed := by kernel_rfl
  f6 := ⟨Tryz.f55.name, by decide, Tryz.func55.trans (congrArg some (by kernel_rfl))⟩
  f14 := ⟨Tryz.f91.name, by decide, Tryz.func91.trans (congrArg some (by kernel_rfl))⟩
  f15 := Tryz.func92.trans (congrArg some (by kernel_rfl))
  f20 := ⟨Tryz.f140.name, by decide, Tryz.func140.trans (congrArg some (by kernel_rfl))⟩
  f21 := ⟨Tryz.f141.name, by decide, Tryz.func141.trans (congrArg some (by kernel_rfl))⟩
  f22 := ⟨Tryz.f142.name, by decide, Tryz.func142.trans (congrArg some (by kernel_rfl))⟩
  f23 := ⟨Tryz.f143.name, by decide, Tryz.func143.trans (congrArg some (by kernel_rfl))⟩
  f24 := ⟨Tryz.f144.name, by decide, Tryz.func144.trans (congrArg some (by kernel_rfl))⟩
  f25 := ⟨Tryz.f145.name, by decide, Tryz.func145.trans (congrArg some (by kernel_rfl))⟩
  f26 := ⟨Tryz.f146.name, by decide, Tryz.func146.trans (congrArg some (by kernel_rfl))⟩
  f27 := ⟨Tryz.f147.name, by decide, Tryz.func147.trans (congrArg some (by kernel_rfl))⟩
  f28 := Tryz.func148.trans (congrArg some (by kernel_rfl))
  f29 := Tryz.func149.trans (congrArg some (by kernel_rfl))
  f46 := ⟨Tryz.f196.name, by decide, Tryz.func196.trans (congrArg some (by kernel_rfl))⟩
  f47 := Tryz.func197.trans (congrArg some (by kernel_rfl))
  f48 := Tryz.func198.trans (congrArg some (by kernel_rfl))
  f49 := ⟨Tryz.f199.name, by decide, Tryz.func199.trans (congrArg some (by kernel_rfl))⟩
  f50 := ⟨Tryz.f200.name, by decide, Tryz.func200.trans (congrArg some (by kernel_rfl))⟩
  f57 := ⟨Tryz.f257.name, by decide, Tryz.func257.trans (congrArg some (by kernel_rfl))⟩
  t0 := Tryz.underlying0
  a0 := Tryz.isAgg0
  z0 := Tryz.sizeOf0
  v0 := Tryz.zeroValue0
  t3 := Tryz.underlying3
  a3 := Tryz.isAgg3
  z3 := Tryz.sizeOf3
  v3 := Tryz.zeroValue3
  t4 := Tryz.underlying4
  a4 := Tryz.isAgg4
  z4 := Tryz.sizeOf4
  v4 := Tryz.zeroValue4
  t5 := Tryz.underlying5
  a5 := Tryz.isAgg5
  z5 := Tryz.sizeOf5
  v5 := Tryz.zeroValue5
  t9 := Tryz.underlying9
  a9 := Tryz.isAgg9
  z9 := Tryz.sizeOf9
  v9 := Tryz.zeroValue9
  t22 := Tryz.underlying54
  a22 := Tryz.isAgg54
  z22 := Tryz.sizeOf54
  v22 := Tryz.zeroValue54
  t25 := Tryz.underlying173
  a25 := Tryz.isAgg173
  z25 := Tryz.sizeOf173
  v25 := Tryz.zeroValue173
  t39 := Tryz.underlying139
  a39 := Tryz.isAgg139
  z39 := Tryz.sizeOf139
  v39 := Tryz.zeroValue139
  t45 := Tryz.underlying305
  a45 := Tryz.isAgg305
  z45 := Tryz.sizeOf305
  v45 := Tryz.zeroValue305
  t46 := Tryz.underlying306
  a46 := Tryz.isAgg306
  z46 := Tryz.sizeOf306
  v46 := Tryz.zeroValue306
  t50 := Tryz.underlying36
  a50 := Tryz.isAgg36
  z50 := Tryz.sizeOf36
  v50 := Tryz.zeroValue36
  t53 := Tryz.underlying22
  a53 := Tryz.isAgg22
  z53 := Tryz.sizeOf22
  v53 := Tryz.zeroValue22
  t55 := Tryz.underlying134
  a55 := Tryz.isAgg134
  z55 := Tryz.sizeOf134
  v55 := Tryz.zeroValue134
  t66 := Tryz.underlying356
  a66 := Tryz.isAgg356
  z66 := Tryz.sizeOf356
  v66 := Tryz.zeroValue356
  t70 := Tryz.underlying360
  a70 := Tryz.isAgg360
  z70 := Tryz.sizeOf360
  v70 := Tryz.zeroValue360
  t76 := Tryz.underlying406
  a76 := Tryz.isAgg406
  z76 := Tryz.sizeOf406
  v76 := Tryz.zeroValue406
  t77 := Tryz.underlying407
  a77 := Tryz.isAgg407
  z77 := Tryz.sizeOf407
  v77 := Tryz.zeroValue407 }
end Go.Proofs
namespace Go.Pse
open Go.RowKit Go.Proofs
theorem appSeqI {E : World} {l m : List As} {gf : FuncId} {fng : Func} {caps : Array Value} {S : List Int → Prop} {N : Nat} {A B : As} (hg : Tryz.prog.funcs[gf]? = some fng) (hgn : (fng.name == "runtime.NumGoroutine") = false) (hgb : fng.body.isNone = false) (hN : N ≤ 1000000) (hseq : Gives Tryz.prog gf caps kZ S N E A B) (hp : Picks [A, B] l m) :
    Con Tryz.prog 150 #[.slice none 0 0, .func (.func gf) #[] caps] E l (fun x : Value × List Int => x.1) (fun x => As.pure (S x.2) :: row 3 1 x.1 (x.2.map encN) :: A :: B :: m) := fun w H =>
  appendSeq (sT := 73) (el := 3) (fT := 190) (cells := encN) Tryz.func150 (by kernel_rfl) (by kernel_rfl) (by kernel_rfl) hg hgn hgb Tryz.underlying73 ty3 ty73 rfl (by omega) rfl (fun _ => .one rfl .nil) (fun _ => ⟨rfl, rfl⟩) (by omega) (by omega) hseq w (hp.sep H)
theorem collectI {E : World} {l m : List As} {gf : FuncId} {fng : Func} {caps : Array Value} {S : List Int → Prop} {N : Nat} {A B : As} (hg : Tryz.prog.funcs[gf]? = some fng) (hgn : (fng.name == "runtime.NumGoroutine") = false) (hgb : fng.body.isNone = false) (hN : N ≤ 1000000) (hseq : Gives Tryz.prog gf caps kZ S N E A B) (hp : Picks [A, B] l m) :
    Con Tryz.prog 97 #[.func (.func gf) #[] caps] E l (fun x : Value × List Int => x.1) (fun x => As.pure (S x.2) :: row 3 1 x.1 (x.2.map encN) :: A :: B :: m) := by
  refine Con.body (vs := [.func (.func gf) #[] caps]) (n := 5) Tryz.func97 rfl rfl [(0, .func (.func gf) #[] caps)] (env_ok 1 rfl) <| sr <| ag rfl rfl <| nx <| mv rfl rfl <| L_op <| xc fc150 (.cons rfl (.cons rfl .nil)) rfl (appSeqI hg hgn hgb hN hseq hp) fun x4 => ag rfl rfl ?_
  refine nq <| J_ret ?_
  exact J_return (x4) Tryz.results97 (.tmp rfl .nil) rfl SU
theorem sortC {E : World} {l m : List As} {v : Value} {xs : List Int} (hp : Pick (row 3 1 v (xs.map encN)) l m) (hb : xs.length ≤ 1000000) : Con Tryz.prog 98 #[v] E l (fun _ : Unit => .tuple #[]) (fun _ => row 3 1 v ((sortZ xs).map encN) :: m) :=
  con_sortZ (fun b o cap w hH hb' => by rw [← sortZ_merge]; exact AnyM.slices_Sort_int Tryz.sortA b o cap xs w hH hb' (by omega)) (fun p cap w => AnyM.slices_Sort_int_none Tryz.sortA p cap w) hp
theorem sortedI {E : World} {l m : List As} {gf : FuncId} {fng : Func} {caps : Array Value} {ks : List Int} {A B : As} (hg : Tryz.prog.funcs[gf]? = some fng) (hgn : (fng.name == "runtime.NumGoroutine") = false) (hgb : fng.body.isNone = false) (hN : ks.length ≤ 1000000) (hseq : Gives Tryz.prog gf caps kZ (fun ss => ss.Perm ks) ks.length E A B) (hp : Picks [A, B] l m) :
    Con Tryz.prog 64 #[.func (.func gf) #[] caps] E l (fun v : Value => v) (fun v => row 3 1 v ((sortZ ks).map encN) :: A :: B :: m) := by
  refine Con.body (vs := [.func (.func gf) #[] caps]) (n := 9) Tryz.func64 rfl rfl [(0, .func (.func gf) #[] caps)] (env_ok 1 rfl) <| sr <| ag rfl rfl <| nx <| mv rfl rfl <| L_op <| xc fc97 (.cons rfl .nil) rfl (collectI hg hgn hgb hN hseq hp) fun x5 => J_pure fun hperm => ?_
  obtain ⟨v5, ss⟩ := x5
  dsimp only at hperm ⊢
  refine ag rfl rfl <| nx <| mv rfl rfl <| L_op <| xc fc98 (.cons rfl .nil) rfl (sortC (xs := ss) PC (by rw [hperm.length_eq]; exact hN)) fun _ => ?_
  refine nx <| mv rfl rfl <| ag rfl rfl <| nq <| J_ret <| J_rowEq (ys := (sortZ ks).map encN) (by rw [sortZ_perm hperm]) ?_
  exact J_return (v5) Tryz.results64 (.tmp rfl .nil) rfl SU
end Go.Pse
namespace Go.Pse
open Go.RowKit Go.Sort Go.Proofs Go.Shelf
theorem grown_of {W w : World} (H : Sep W w [old W]) : ∃ q os, w = grow (W.drewN q) os := by
  obtain ⟨S, h1, _, h3⟩ := H.has .here
  refine ⟨w.drawn - W.drawn, w.heap.extract W.heap.size w.heap.size, ?_⟩
  have hh : w.heap = W.heap ++ w.heap.extract W.heap.size w.heap.size := by
    apply Array.ext_getElem?
    intro i
    by_cases hi : i < W.heap.size
    · rw [Array.getElem?_append_left hi, h3 i hi]
    · rw [Array.getElem?_append_right (by omega), Array.getElem?_extract]
      by_cases hw : i < w.heap.size
      · rw [if_pos (by omega)]; congr 1; omega
      · rw [if_neg (by omega), Array.getElem?_eq_none (by omega)]
  have hd := H.output.2
  obtain ⟨ho⟩ := H.output
  have h1 := H.os
  have h2 := H.tape
  cases w with
  | mk heap tape drawn os output =>
    simp only [grow, World.drewN]
    simp only at hh hd ho h1 h2
    rw [← hh, h1, h2, ho]
    congr 1
    omega
section
variable {α : Type} [Inhabited α] {enc : α → List Value} {k : Nat}
omit [Inhabited α] in
theorem wf_map (hk : ∀ x, (enc x).length = k) (h1 : ∀ x, ∀ v ∈ enc x, v.oneCell' = true) (xs : List α) : Wf k (xs.map enc) := fun x hx => by obtain ⟨a, _, rfl⟩ := List.mem_map.1 hx; exact ⟨hk a, by unfold ones; exact List.all_eq_true.2 (h1 a)⟩
theorem flat_at (hk : ∀ x, (enc x).length = k) (h1 : ∀ x, ∀ v ∈ enc x, v.oneCell' = true) {xs : List α} {t : Nat} (ht : t < xs.length * k) : (xs.map enc).flatten[t]? = some ((flatK enc k xs.toArray)[t]!) := by
  obtain ⟨x, g1, g2, g3⟩ := mem_flat (wf_map hk h1 xs) (t := t) (by simpa using ht)
  rw [List.getElem?_map] at g1
  obtain ⟨a, ga, rfl⟩ := Option.map_eq_some_iff.1 g1
  rw [g3, get_flatK _ _ _ _ (by simpa using ht)]
  have : xs.toArray[t / k]! = a := by simp [ga]
  rw [this, List.getElem?_eq_getElem (by rw [hk]; exact g2), List.getElem!_eq_getElem?_getD, List.getElem?_eq_getElem (by rw [hk]; exact g2)]
  rfl
variable {E w : World} {el : TypeId} {b o cap : Nat} {l : List As}
theorem struct_holds (hk : ∀ x, (enc x).length = k) (h1 : ∀ x, ∀ v ∈ enc x, v.oneCell' = true) {xs : List α} (H : Sep E w (row el k (.slice (some ⟨b, o, none⟩) (xs.map enc).length cap) (xs.map enc) :: l)) : HoldsK enc k w b o xs.toArray := fun j hj => by
  have hj' : j < xs.length * k := by simpa using hj
  exact (row_cell H).2 j _ (flat_at hk h1 hj')
theorem struct_laid (hk : ∀ x, (enc x).length = k) (h1 : ∀ x, ∀ v ∈ enc x, v.oneCell' = true) {xs ys : List α} {w' : World} {n : Nat} {os : Array Obj} (H : Sep E w (row el k (.slice (some ⟨b, o, none⟩) (xs.map enc).length cap) (xs.map enc) :: l)) (hlen : ys.length = xs.length)
    (hw' : w' = sortWorldK enc k w b o n ys.toArray os) : Sep E w' (row el k (.slice (some ⟨b, o, none⟩) (xs.map enc).length cap) (ys.map enc) :: l) := by
  refine row_laid (n := n) (os := os) (f := putCells id o (flatK enc k ys.toArray)) H (by simp [hlen]) (wf_map hk h1 ys) (fun C hC => ⟨by simp [putCells], fun i => ?_⟩) hw'
  simp only [List.length_map] at hC ⊢
  unfold putCells
  rw [Array.getElem?_mapIdx]
  simp only [size_flatK, List.size_toArray, hlen]
  by_cases hi : o ≤ i ∧ i < o + xs.length * k
  · rw [if_pos hi]
    have hiC : i < C.size := by omega
    rw [Array.getElem?_eq_getElem hiC, Option.map_some, if_pos hi, flat_at hk h1 (by rw [hlen]; omega)]
    rfl
  · rw [if_neg hi]
    cases C[i]? with
    | none => rfl
    | some u => simp only [Option.map_some, if_neg hi]
end
def insF {α : Type} (cf : α → α → Int) (x : α) : List α → List α
  | [] => [x]
  | y :: ys => if (ltOf cf) y x = true then y :: insF cf x ys else x :: y :: ys
def sortF {α : Type} (cf : α → α → Int) : List α → List α
  | [] => []
  | x :: xs => insF cf x (sortF cf xs)
section
variable {α : Type} {cf : α → α → Int}
theorem insF_perm (x : α) : ∀ ys : List α, (insF cf x ys).Perm (x :: ys)
  | [] => List.Perm.refl _
  | y :: ys => by
    unfold insF
    split
    · exact ((insF_perm x ys).cons y).trans (List.Perm.swap x y ys)
    · exact List.Perm.refl _
theorem sortF_isPerm : ∀ xs : List α, (sortF cf xs).Perm xs
  | [] => List.Perm.refl _
  | x :: xs => (insF_perm x (sortF cf xs)).trans ((sortF_isPerm xs).cons x)
theorem sortF_len (xs : List α) : (sortF cf xs).length = xs.length := (sortF_isPerm xs).length_eq
theorem sortF_mem {xs : List α} {a : α} : a ∈ sortF cf xs ↔ a ∈ xs := (sortF_isPerm xs).mem_iff
variable (hO : SWO (ltOf cf)) (hT : ∀ x y, (ltOf cf) x y = false → (ltOf cf) y x = false → x = y)
include hO in
theorem insF_sorted (x : α) : ∀ {ys : List α}, (ys.Pairwise fun a b => (ltOf cf) b a = false) → (insF cf x ys).Pairwise fun a b => (ltOf cf) b a = false
  | [], _ => List.pairwise_singleton _ _
  | y :: ys, h => by
    have h1 := List.pairwise_cons.1 h
    unfold insF
    split
    · rename_i hyx
      refine List.pairwise_cons.2 ⟨fun z hz => ?_, insF_sorted x h1.2⟩
      rcases List.mem_cons.1 ((insF_perm x ys).mem_iff.1 hz) with rfl | hz
      · cases h2 : (ltOf cf) z y with
        | false => rfl
        | true =>
          have := hO.trans z y z h2 hyx
          rw [hO.irrefl] at this
          cases this
      · exact h1.1 z hz
    · rename_i hyx
      have hyx' : (ltOf cf) y x = false := by simpa using hyx
      refine List.pairwise_cons.2 ⟨fun z hz => ?_, h⟩
      rcases List.mem_cons.1 hz with rfl | hz
      · exact hyx'
      · exact hO.ntrans z y x (h1.1 z hz) hyx'
include hO in
theorem sortF_sorted : ∀ xs : List α, (sortF cf xs).Pairwise fun a b => (ltOf cf) b a = false
  | [] => List.Pairwise.nil
  | x :: xs => insF_sorted hO x (sortF_sorted xs)
include hO hT in
theorem sortF_merge (xs : List α) : (xs.mergeSort fun x y => !(ltOf cf) y x) = sortF cf xs := by
  have tr : ∀ a b c : α, (!(ltOf cf) b a) = true → (!(ltOf cf) c b) = true → (!(ltOf cf) c a) = true := fun a b c h1 h2 => by
    simp only [Bool.not_eq_true'] at *
    exact hO.ntrans c b a h2 h1
  have to : ∀ a b : α, ((!(ltOf cf) b a) || (!(ltOf cf) a b)) = true := fun a b => by
    cases h1 : (ltOf cf) b a <;> cases h2 : (ltOf cf) a b <;> try rfl
    have := hO.trans a b a h2 h1
    rw [hO.irrefl] at this
    cases this
  exact List.Perm.eq_of_pairwise (le := fun a b => (ltOf cf) b a = false) (fun a b _ _ h1 h2 => hT a b h2 h1) ((List.pairwise_mergeSort tr to xs).imp fun h => by simpa using h) (sortF_sorted hO xs) ((List.mergeSort_perm xs _).trans (sortF_isPerm xs).symm)
include hO hT in
theorem sortF_perm {xs ys : List α} (h : xs.Perm ys) : sortF cf xs = sortF cf ys :=
  List.Perm.eq_of_pairwise (le := fun a b => (ltOf cf) b a = false) (fun a b _ _ h1 h2 => hT a b h2 h1) (sortF_sorted hO xs) (sortF_sorted hO ys) (((sortF_isPerm xs).trans h).trans (sortF_isPerm ys).symm)
end
theorem con_sortF {α : Type} [Inhabited α] {P : Program} {ρ : Ren} {el : TypeId} {k : Nat} {enc : α → List Value} {cf : α → α → Int} {g : FuncId} {E : World} {l m : List As} {v : Value} {xs : List α}
    (L : SlLaysF0.n6 P ρ) (aE : ∀ w, (isAgg (ρ.t 24)).run P w = .ok true w) (zE : ∀ w, (Go.sizeOf (ρ.t 24)).run P w = .ok k w)
    (hk : ∀ x, (enc x).length = k) (h1 : ∀ x, ∀ v ∈ enc x, v.oneCell' = true) (hO : SWO (ltOf cf)) (hT : ∀ x y, (ltOf cf) x y = false → (ltOf cf) y x = false → x = y)
    (eg : ∀ args w, (callFunc g args).run P w = .ok (.enter g args) w)
    (hc : ∀ (x y : α) (W : World), Con P g #[.agg (enc x).toArray, .agg (enc y).toArray] W [old W] (fun _ : Unit => .int .i64 (cf x y)) (fun _ => [old W]))
    (hb : xs.length ≤ 1000000) (hp : Pick (row el k v (xs.map enc)) l m) :
    Con P (ρ.f 6) #[v, .func (.func g) #[] #[]] E l (fun _ : Unit => .tuple #[]) (fun _ => row el k v ((sortF cf xs).map enc) :: m) := fun w H => by
  have H' := H.pick hp
  obtain ⟨S, hwf, hS⟩ := H'.head
  rcases hS with ⟨rfl, hx, _⟩ | ⟨b, o, cap, C, rfl, h2, _⟩
  · have hx' : xs = [] := by simpa using hx
    subst hx'
    exact (AnyF.slices_SortFunc_none L none 0 _ w).mono fun e w' ⟨he, hw⟩ => ⟨(), he, by subst hw; rw [show sortF cf [] = [] by simp [sortF]]; exact H'⟩
  · have hcmp : CmpLays P g #[] enc k cf b o xs.toArray.size w := fun m' os dk _ x y => by
      rw [Array.append_empty]
      exact (hc x y _ _ (Sep.old_in _)).mono fun e w' ⟨_, he, hs⟩ => ⟨he, grown_of hs⟩
    have hh := AnyQ.slices_SortFunc_total L k aE zE enc hk h1 cf hO g #[] b o cap xs.toArray w eg hcmp (struct_holds hk h1 H') (row_cell H').1 (by simp; omega) hT
    simp only [List.size_toArray] at hh
    rw [← List.length_map enc] at hh
    exact hh.mono fun e w' ⟨he, n, os, hw⟩ => ⟨(), he, by rw [sortF_merge hO hT] at hw; have := struct_laid hk h1 H' (sortF_len (cf := cf) xs) hw; rw [List.length_map] at this; simpa [sortF_len] using this⟩
theorem sortF_permOn {α : Type} {cf : α → α → Int} (hO : SWO (ltOf cf)) {xs ys : List α} (hT : ∀ x ∈ xs, ∀ y ∈ xs, (ltOf cf) x y = false → (ltOf cf) y x = false → x = y) (h : xs.Perm ys) : sortF cf xs = sortF cf ys :=
  List.Perm.eq_of_pairwise (le := fun a b => (ltOf cf) b a = false) (fun a b ha hb h1 h2 => hT a (sortF_mem.1 ha) b (h.mem_iff.2 (sortF_mem.1 hb)) h2 h1) (sortF_sorted hO xs) (sortF_sorted hO ys) (((sortF_isPerm xs).trans h).trans (sortF_isPerm ys).symm)
theorem sorted_list {α : Type} [Inhabited α] {cf : α → α → Int} (hO : SWO (ltOf cf)) {xs : List α} (hT : ∀ x ∈ xs, ∀ y ∈ xs, (ltOf cf) x y = false → (ltOf cf) y x = false → x = y) {d' : Array α} (hp : PermIn 0 xs.toArray.size xs.toArray d') (hs : SortedIn (ltOf cf) 0 xs.toArray.size d') : d' = (sortF cf xs).toArray := by
  obtain ⟨h1, _, h3⟩ := hp
  have h1' : d'.size = xs.length := by simpa using h1
  have e1 : d'.extract 0 xs.length = d' := by rw [← h1']; simp
  have e2 : (xs.toArray.extract 0 xs.length).toList = xs := by simp
  have h3' : d'.toList.Perm xs := by
    rw [List.size_toArray, e1, e2] at h3; exact h3
  have : d'.toList = sortF cf xs := List.Perm.eq_of_pairwise (le := fun a b => (ltOf cf) b a = false)
    (fun a b ha hb g1 g2 => hT a (h3'.mem_iff.1 ha) b (sortF_mem.1 hb) g2 g1) (by
      rw [List.pairwise_iff_getElem]
      intro i j hi hj hij
      have hi' : i < d'.size := by simpa using hi
      have hj' : j < d'.size := by simpa using hj
      have := hs i j (Nat.zero_le _) hij (by simp; omega)
      rw [getElem!_pos d' j hj', getElem!_pos d' i hi'] at this
      simpa using this) (sortF_sorted hO xs) (h3'.trans (sortF_isPerm xs).symm)
  rw [← this]
theorem con_sortO {α : Type} [Inhabited α] {P : Program} {ρ : Ren} {el : TypeId} {k : Nat} {enc : α → List Value} {cf : α → α → Int} {g : FuncId} {E : World} {l m : List As} {v : Value} {xs : List α}
    (L : SlLaysF0.n6 P ρ) (aE : ∀ w, (isAgg (ρ.t 24)).run P w = .ok true w) (zE : ∀ w, (Go.sizeOf (ρ.t 24)).run P w = .ok k w)
    (hk : ∀ x, (enc x).length = k) (h1 : ∀ x, ∀ v ∈ enc x, v.oneCell' = true) (hO : SWO (ltOf cf)) (hT : ∀ x ∈ xs, ∀ y ∈ xs, (ltOf cf) x y = false → (ltOf cf) y x = false → x = y)
    (eg : ∀ args w, (callFunc g args).run P w = .ok (.enter g args) w)
    (hc : ∀ (x y : α) (W : World), Con P g #[.agg (enc x).toArray, .agg (enc y).toArray] W [old W] (fun _ : Unit => .int .i64 (cf x y)) (fun _ => [old W]))
    (hb : xs.length ≤ 1000000) (hp : Pick (row el k v (xs.map enc)) l m) :
    Con P (ρ.f 6) #[v, .func (.func g) #[] #[]] E l (fun _ : Unit => .tuple #[]) (fun _ => row el k v ((sortF cf xs).map enc) :: m) := fun w H => by
  have H' := H.pick hp
  obtain ⟨S, hwf, hS⟩ := H'.head
  rcases hS with ⟨rfl, hx, _⟩ | ⟨b, o, cap, C, rfl, h2, _⟩
  · have hx' : xs = [] := by simpa using hx
    subst hx'
    exact (AnyF.slices_SortFunc_none L none 0 _ w).mono fun e w' ⟨he, hw⟩ => ⟨(), he, by subst hw; rw [show sortF cf [] = [] by simp [sortF]]; exact H'⟩
  · have hcmp : CmpLays P g #[] enc k cf b o xs.toArray.size w := fun m' os dk _ x y => by
      rw [Array.append_empty]
      exact (hc x y _ _ (Sep.old_in _)).mono fun e w' ⟨_, he, hs⟩ => ⟨he, grown_of hs⟩
    have hh := AnyQ.slices_SortFunc L k aE zE enc hk h1 cf hO g #[] b o cap xs.toArray w eg hcmp (struct_holds hk h1 H') (row_cell H').1 (by simp; omega)
    have hh2 : Calls P (ρ.f 6) #[.slice (some ⟨b, o, none⟩) (xs.map enc).length cap, .func (.func g) #[] #[]] w fun e w' => e = .returned (.tuple #[]) ∧ ∃ n os, w' = sortWorldK enc k w b o n (sortF cf xs).toArray os := by
      rw [List.length_map, ← List.size_toArray]
      exact hh.mono fun _ _ ⟨he, d', n, os, hp, hs, hw⟩ => ⟨he, n, os, by rw [hw, sorted_list hO hT hp hs]⟩
    exact hh2.mono fun e w' ⟨he, n, os, hw⟩ => ⟨(), he, by have := struct_laid hk h1 H' (sortF_len (cf := cf) xs) hw; rw [List.length_map] at this; simpa [sortF_len] using this⟩
end Go.Pse
namespace Go.Pse
open Go.RowKit Go.Proofs
def cmpZ (x y : Int) : Int := if x < y then -1 else if y < x then 1 else 0
def orZ (x y : Int) : Int := if x = 0 then y else x
def cmpP (a b : Int × Int) : Int := orZ (cmpZ a.1 b.1) (cmpZ a.2 b.2)
theorem nanZ {E : World} {l : List As} {x : Int} :
    Con Tryz.prog 93 #[.int .i64 x] E l (fun _ : Unit => .bool false) (fun _ => l) := by
  refine Con.body (vs := [.int .i64 x]) (n := 6) Tryz.func93 rfl rfl [(0, .int .i64 x)] (env_ok 1 rfl) <| sr <| ag rfl rfl <| nx <| mv rfl rfl <| mv rfl rfl <| L_pur rfl (p_neq rfl rfl) <| J_bool (t := 5) (c := false) rfl (by simp) ?_
  refine ag rfl rfl <| nq <| J_ret ?_
  exact J_return (()) Tryz.results93 (.tmp rfl .nil) rfl SU
theorem cmpZC {E : World} {l : List As} {x y : Int} :
    Con Tryz.prog 57 #[.int .i64 x, .int .i64 y] E l (fun _ : Unit => .int .i64 (cmpZ x y)) (fun _ => l) := by
  refine Con.body (vs := [.int .i64 x, .int .i64 y]) (n := 20) Tryz.func57 rfl rfl [(0, .int .i64 x), (1, .int .i64 y)] (env_ok 2 rfl) <| sr <| ag rfl rfl <| nx <| mv rfl rfl <| L_op <| xc fc93 (.cons rfl .nil) rfl (nanZ) fun _ => ag rfl rfl ?_
  refine nx <| mv rfl rfl <| L_op <| xc fc93 (.cons rfl .nil) rfl (nanZ) fun _ => ag rfl rfl <| nxx <| mv rfl rfl <| nq ?_
  refine J_bool (t := 11) (c := false) rfl (rfl) <| C_false rfl <| J_skip <| Q_then <| J_seq <| sr <| mv rfl rfl <| nq ?_
  refine J_bool (t := 13) (c := false) rfl (rfl) <| C_false rfl <| J_skip <| Q_then <| J_seq <| sr <| mv rfl rfl <| mv rfl rfl ?_
  refine L_pur rfl (p_lss rfl rfl) <| nq ?_
  refine C_dec rfl (fun h16 => ?_) (fun h16 => ?_)
  refine sr <| ag rfl rfl <| nq <| J_ret <| Q_then_ret ?_
  refine J_return (()) Tryz.results57 (.tmp rfl .nil) ?_ ?_
  · simp only [one, cmpZ]; congr 1; (repeat' split) <;> omega
  · exact SU
  refine J_skip <| Q_then <| J_seq <| sr <| mv rfl rfl <| mv rfl rfl <| L_pur rfl (p_gtr rfl rfl) <| nq ?_
  refine C_dec rfl (fun h19 => ?_) (fun h19 => ?_)
  refine sr <| ag rfl rfl <| nq <| J_ret <| Q_then_ret ?_
  refine J_return (()) Tryz.results57 (.tmp rfl .nil) ?_ ?_
  · simp only [one, cmpZ]; congr 1; (repeat' split) <;> omega
  · exact SU
  refine J_skip <| qx <| ag rfl rfl <| nq <| J_ret ?_
  refine J_return (()) Tryz.results57 (.tmp rfl .nil) ?_ ?_
  · simp only [one, cmpZ]; congr 1; (repeat' split) <;> omega
  · exact SU
theorem orZC {E : World} {l m : List As} {v : Value} {x y : Int} (hp : Pick (row 3 1 v [[.int .i64 x], [.int .i64 y]]) l m) :
    Con Tryz.prog 72 #[v] E l (fun _ : Unit => .int .i64 (orZ x y)) (fun _ => m) := by
  refine Con.body (vs := [v]) (n := 18) Tryz.func72 rfl rfl [(0, v)] (env_ok 1 rfl) <| J_pick hp <| J_row .here fun hw a cap hv h1 h2 h3 => ?_
  subst hv
  obtain ⟨b, o, rfl⟩ := h3 (by simp)
  have hm : cap ≤ 9223372036854775807 := h2
  refine sr <| ag rfl rfl <| nx <| ag rfl rfl <| nxx <| mv rfl rfl <| L_pur rfl (p_len rfl Tryz.underlying73) <| J_slot (t := 7) (v := .int .i64 2) rfl rfl ?_
  refine mv rfl rfl <| nq <| J_block <| J_loop (α := Nat) (fun i => i ≤ 2 ∧ (0 < i → x = 0) ∧ (1 < i → y = 0)) (fun _ => row 3 1 (.slice (some ⟨b, o, none⟩) [[Value.int .i64 x], [Value.int .i64 y]].length cap) [[.int .i64 x], [.int .i64 y]] :: m) (fun i => [(8, .int .i64 (i : Int)), (6, .slice (some ⟨b, o, none⟩) [[Value.int .i64 x], [Value.int .i64 y]].length cap), (7, .int .i64 2), (3, .int .i64 0)]) (fun i => 2 - i) 0 (by omega) SU KE ?_
  intro i hi
  obtain ⟨hi, hx, hy⟩ := hi
  refine sr <| L_pur rfl (p_lss rfl rfl) <| nq <| J_seq ?_
  refine C_dec rfl (fun h9 => ?_) (fun h9 => ?_)
  have hml : [[Value.int .i64 x], [Value.int .i64 y]].length = 2 := rfl
  obtain ⟨c, hcc, hco⟩ : ∃ c : Int, [[Value.int .i64 x], [Value.int .i64 y]][i]? = some [.int .i64 c] ∧ ((i = 0 ∧ c = x) ∨ (i = 1 ∧ c = y)) := by
    have : i = 0 ∨ i = 1 := by omega
    rcases this with rfl | rfl
    · exact ⟨x, rfl, .inl ⟨rfl, rfl⟩⟩
    · exact ⟨y, rfl, .inr ⟨rfl, rfl⟩⟩
  refine J_skip <| Q_then <| J_seq <| J_block <| sr <| L_pur rfl (p_indexAddr rfl rfl Tryz.underlying73 ty3 (by omega) (by omega)) <| L_val rfl (v_loadE1 rfl ty3 HS (by simpa using hcc)) ?_
  refine ag rfl rfl <| nx <| mv rfl rfl <| mv rfl rfl <| L_pur rfl (p_neq rfl rfl) <| nq ?_
  refine C_dec rfl (fun h14 => ?_) (fun h14 => ?_)
  refine sr <| mv rfl rfl <| ag rfl rfl <| nq <| J_ret <| Q_blk_ret <| Q_then_ret <| Q_then_ret ?_
  refine Q_blk_ret <| Q_then_ret ?_
  refine J_return (()) Tryz.results72 (.tmp rfl .nil) ?_ ?_
  · have hor : orZ x y = c := by
      unfold orZ
      rcases hco with ⟨h0, rfl⟩ | ⟨h0, rfl⟩
      · exact if_neg h14
      · exact if_pos (hx (by omega))
    rw [hor]; rfl
  · exact SU
  have hc0 : c = 0 := by omega
  refine J_skip <| Q_blk_normal <| qr <| L_pur rfl (p_add64 rfl rfl (by omega)) <| mv rfl rfl <| nq ?_
  exact J_again (i + 1) (by omega) (by refine ⟨by omega, fun h => ?_, fun h => ?_⟩ <;> rcases hco with ⟨h0, rfl⟩ | ⟨h0, rfl⟩ <;> first | exact hc0 | exact hx (by omega) | omega) SU KE
  have hi2 : i = 2 := by omega
  obtain ⟨hx, hy⟩ : x = 0 ∧ y = 0 := ⟨hx (by omega), hy (by omega)⟩
  subst hx hy
  refine J_exit <| Q_then_exit <| Q_then_exit <| Q_blk_this <| qx <| mv rfl rfl <| ag rfl rfl <| nq ?_
  refine J_ret ?_
  refine J_return (()) Tryz.results72 (.tmp rfl .nil) ?_ ?_
  · simp [one, orZ]
  · exact SU
theorem cmpSl {E : World} {l : List As} {a b : Int × Int} :
    Con Tryz.prog 68 #[.agg (encI a).toArray, .agg (encI b).toArray] E l (fun _ : Unit => .int .i64 (cmpP a b)) (fun _ => l) := by
  refine Con.body (vs := [.agg (encI a).toArray, .agg (encI b).toArray]) (n := 17) Tryz.func68 rfl rfl [(0, .agg (encI a).toArray), (1, .agg (encI b).toArray)] (env_ok 2 rfl) <| sr <| L_op <| x_box rfl rfl rfl fun b2 => L_op <| x_box rfl rfl rfl fun b3 => ag rfl rfl <| nq ?_
  refine J_seq <| J_drawL none mixed <| ip 0 rfl rfl rfl rfl (p_fieldAddr rfl fa67_0) <| iv 1 rfl rfl rfl rfl (fun _ => v_load rfl ty3 HS (by exact rfl)) ?_
  refine ip 2 rfl rfl rfl rfl (p_fieldAddr rfl fa67_0) <| iv 3 rfl rfl rfl rfl (fun _ => v_load rfl ty3 HS (by exact rfl)) ?_
  refine ip 5 rfl rfl rfl rfl (p_fieldAddr rfl fa67_1) <| iv 6 rfl rfl rfl rfl (fun _ => v_load rfl ty3 HS (by exact rfl)) ?_
  refine ip 7 rfl rfl rfl rfl (p_fieldAddr rfl fa67_1) <| iv 8 rfl rfl rfl rfl (fun _ => v_load rfl ty3 HS (by exact rfl)) ?_
  refine i1 4 rfl <| xc fc57 (.cons rfl (.cons rfl .nil)) rfl (cmpZC (x := a.1) (y := b.1)) fun _ => i1 9 rfl <| xc fc57 (.cons rfl (.cons rfl .nil)) rfl (cmpZC (x := a.2) (y := b.2)) fun _ => i1 10 rfl <| x_lit (vals := [_, _]) Tryz.underlying73 ty3 rfl (.cons rfl (.cons rfl .nil)) (.one rfl (.one rfl .nil)) (Wf.cons rfl rfl (Wf.cons rfl rfl Wf.nil)) rfl (by decide) rfl rfl <| JR fun a15 c15 hw15 hl15 hm15 hz15 => i1 11 rfl ?_
  refine xc fc72 (.cons rfl .nil) rfl (orZC (x := cmpZ a.1 b.1) (y := cmpZ a.2 b.2) PC) fun _ => ?_
  refine ip 12 rfl rfl rfl rfl (p_assign rfl) <| i0 <| Q_then <| J_ret ?_
  refine J_return (()) Tryz.results68 (.tmp rfl .nil) ?_ ?_
  · rfl
  · exact SU
theorem cmpP_lt (a b : Int × Int) : Go.Proofs.ltOf cmpP a b = (decide (a.1 < b.1) || (decide (a.1 = b.1) && decide (a.2 < b.2))) := by
  have : (cmpP a b < 0) ↔ (a.1 < b.1 ∨ (a.1 = b.1 ∧ a.2 < b.2)) := by
    unfold cmpP orZ cmpZ
    (repeat' split) <;> omega
  unfold Go.Proofs.ltOf
  rw [Bool.eq_iff_iff]
  simp [this]
theorem cmpP_swo : Go.Sort.SWO (Go.Proofs.ltOf cmpP) where
  irrefl x := by rw [cmpP_lt]; simp
  trans x y z h1 h2 := by rw [cmpP_lt] at *; simp at *; omega
  ntrans x y z h1 h2 := by rw [cmpP_lt] at *; simp at *; omega
theorem cmpP_total (x y : Int × Int) (h1 : Go.Proofs.ltOf cmpP x y = false) (h2 : Go.Proofs.ltOf cmpP y x = false) : x = y := by
  rw [cmpP_lt] at h1 h2
  simp at h1 h2
  exact Prod.ext (by omega) (by omega)
def sortP (xs : List (Int × Int)) : List (Int × Int) := sortF cmpP xs
theorem sortP_perm {xs ys : List (Int × Int)} (h : xs.Perm ys) : sortP xs = sortP ys := sortF_perm cmpP_swo cmpP_total h
theorem sortP_len (xs : List (Int × Int)) : (sortP xs).length = xs.length := sortF_len xs
end Go.Pse
namespace Go.Pse
open Go.RowKit Go.Proofs
theorem slSort {E : World} {l m : List As} {v : Value} {xs : List (Int × Int)} (hp : Pick (row 67 2 v (xs.map encI)) l m) (hb : xs.length ≤ 1000000) : Con Tryz.prog 101 #[v, .func (.func 68) #[] #[]] E l (fun _ : Unit => .tuple #[]) (fun _ => row 67 2 v ((sortP xs).map encI) :: m) :=
  con_sortF Tryz.sortPl (fun w => ty67.isAgg w) (fun w => ty67.sizeOf w) (fun _ => rfl) (fun x v hv => by simp [encI] at hv; rcases hv with rfl | rfl <;> rfl) cmpP_swo cmpP_total (enters_of Tryz.func68 nm68 rfl) (fun x y W => cmpSl) hb hp
end Go.Pse
namespace Go.Pse
open Go.RowKit Go.Proofs
theorem slGetC {E : World} {l m : List As}  {b o : Nat} {ps : List (Place × SV)} (hp : Pick (slA b o ps) l m) {p : Place} :
    Con Tryz.prog 34 #[.pointer (some ⟨b, o, none⟩), .agg (encI p).toArray] E l (fun _ : Unit => .tuple #[.agg (encC ((look ps p).getD s0).1).toArray, .bool (look ps p).isSome]) (fun _ => slA b o ps :: m) := by
  refine Con.body (vs := [.pointer (some ⟨b, o, none⟩), .agg (encI p).toArray]) (n := 20) Tryz.func34 rfl rfl [(0, .pointer (some ⟨b, o, none⟩)), (1, .agg (encI p).toArray)] (env_ok 2 rfl) <| J_pick hp <| J_slO fun ob _ => sr <| L_op <| x_box rfl rfl rfl fun b3 => L_op <| x_alloc ty69 rfl fun b4 => ?_
  refine ag rfl rfl <| nq <| J_seq <| J_drawL none mixed <| ip 0 rfl rfl rfl rfl (p_move rfl) <| ip 1 rfl rfl rfl rfl (p_nilCheck rfl) <| ip 2 rfl rfl rfl rfl (p_fieldAddr rfl fa108_0) <| iv 3 rfl rfl rfl rfl (fun _ => v_loadL rfl ty106 HS rfl (by exact rfl)) ?_
  refine iv 4 rfl rfl rfl rfl (fun _ => v_loadA rfl ty67 HS CT) ?_
  refine iv 5 rfl rfl rfl rfl (fun _ => v_lookOk (ek := kI) (ev := evS) (a := p) rfl rfl ky67 Tryz.underlying106 zv184 HS) ?_
  refine J_slot (t := 14) (v := .tuple #[evS ((look ps p).getD s0), .bool (look ps p).isSome]) rfl (by cases look ps p <;> rfl) <| ip 6 rfl rfl rfl rfl (p_move rfl) <| ip 7 rfl rfl rfl rfl (p_extract rfl rfl) <| ip 8 rfl rfl rfl rfl (p_extract rfl rfl) <| i1 9 rfl <| x_alloc ty184 rfl fun b6 => i1 10 rfl <| x_store rfl rfl ty184 rfl SM SM RO PT ?_
  refine ip 11 rfl rfl rfl rfl (p_assign rfl) <| i0 <| qx <| fa rfl rfl fa184_0 <| L_val rfl (v_loadA rfl ty69 HS CT) ?_
  refine mv rfl rfl <| L_op <| x_store rfl rfl ty69 rfl SM SM RO PT ?_
  refine ag rfl rfl <| nq <| J_ret <| J_slS (b := b) (o := o) (ps := ps) _ PX trivial ?_
  refine J_return (()) Tryz.results34 (.cellA rfl ty69 HS CT (.tmp rfl .nil)) ?_ ?_
  · rfl
  · exact SU
theorem coBell {E : World} {l m : List As} {p : Nat} {s : KS} (hp : Pick (coA p s) l m) {u : Int} :
    Con Tryz.prog 138 #[.pointer (some ⟨p, 0, none⟩), .int .i64 u] E l (fun _ : Unit => .tuple #[.int .i64 ((look s.be u).getD (0, 0)).1, .int .u32 ((look s.be u).getD (0, 0)).2]) (fun _ => coA p s :: m) := by
  refine Con.body (vs := [.pointer (some ⟨p, 0, none⟩), .int .i64 u]) (n := 17) Tryz.func138 rfl rfl [(0, .pointer (some ⟨p, 0, none⟩)), (1, .int .i64 u)] (env_ok 2 rfl) <| J_pick hp <| J_coO fun bn be br bg bt bs bp bl bk _ => sr <| ag rfl rfl <| ag rfl rfl <| nx <| mv rfl rfl ?_
  refine nc rfl rfl <| fa rfl rfl fa136_16 <| L_val rfl (v_loadL (o := 13) (i := 7) rfl ty133 HS rfl (by exact rfl)) ?_
  refine mv rfl rfl <| L_val rfl (v_look (ek := kZ) (ev := evL) (a := u) rfl rfl ky3 Tryz.underlying133 zv271 HS) ?_
  refine J_slot (t := 12) (v := evL ((look s.be u).getD (0, 0))) rfl (by cases look s.be u <;> rfl) <| L_op <| x_alloc ty271 rfl fun b6 => L_op <| x_store rfl rfl ty271 rfl SM SM RO PT ?_
  refine nq <| J_seq <| J_drawS mixed (by kernel_rfl) <| sp rfl (p_fieldAddr rfl fa271_0) <| S_val rfl (v_load rfl ty3 HS (by exact rfl)) ?_
  refine sp rfl (p_fieldAddr rfl fa271_1) <| S_val rfl (v_load rfl ty22 HS (by exact rfl)) ?_
  refine sp rfl (p_assign rfl) <| sp rfl (p_assign rfl) <| sq <| J_ret <| J_coS (p := p) (s := s) bn be br bg bt bs bp bl bk PX trivial ?_
  refine J_return (()) Tryz.results138 (.tmp rfl (.tmp rfl .nil)) ?_ ?_
  · rfl
  · exact SU
theorem coNotif {E : World} {l m : List As} {p : Nat} {s : KS} (hp : Pick (coA p s) l m) {u : Int} :
    Con Tryz.prog 36 #[.pointer (some ⟨p, 0, none⟩), .int .i64 u] E l (fun _ : Unit => ptrOf (look (ptrs s.nt) u)) (fun _ => coA p s :: m) := by
  refine Con.body (vs := [.pointer (some ⟨p, 0, none⟩), .int .i64 u]) (n := 11) Tryz.func36 rfl rfl [(0, .pointer (some ⟨p, 0, none⟩)), (1, .int .i64 u)] (env_ok 2 rfl) <| J_pick hp <| J_coO fun bn be br bg bt bs bp bl bk _ => sr <| ag rfl rfl <| nx <| mv rfl rfl <| nc rfl rfl ?_
  refine fa rfl rfl fa136_9 <| L_val rfl (v_loadL (o := 13) (i := 0) rfl ty126 HS rfl (by exact rfl)) ?_
  refine mv rfl rfl <| L_val rfl (v_look (ek := kZ) (ev := evA) (a := u) rfl rfl ky3 Tryz.underlying126 zv79 HS) ?_
  refine J_slot (t := 10) (v := ptrOf (look (ptrs s.nt) u)) rfl (by cases look (ptrs s.nt) u <;> rfl) <| ag rfl rfl <| nq <| J_ret <| J_coS (p := p) (s := s) bn be br bg bt bs bp bl bk PX trivial ?_
  exact J_return (()) Tryz.results36 (.tmp rfl .nil) rfl SU
theorem coEp {E : World} {l m : List As} {p : Nat} {s : KS} (hp : Pick (coA p s) l m) {u : Int} :
    Con Tryz.prog 27 #[.pointer (some ⟨p, 0, none⟩), .int .i64 u] E l (fun _ : Unit => ptrOf (look (ptrs s.ep) u)) (fun _ => coA p s :: m) := by
  refine Con.body (vs := [.pointer (some ⟨p, 0, none⟩), .int .i64 u]) (n := 11) Tryz.func27 rfl rfl [(0, .pointer (some ⟨p, 0, none⟩)), (1, .int .i64 u)] (env_ok 2 rfl) <| J_pick hp <| J_coO fun bn be br bg bt bs bp bl bk _ => sr <| ag rfl rfl <| nx <| mv rfl rfl <| nc rfl rfl ?_
  refine fa rfl rfl fa136_10 <| L_val rfl (v_loadL (o := 13) (i := 1) rfl ty127 HS rfl (by exact rfl)) ?_
  refine mv rfl rfl <| L_val rfl (v_look (ek := kZ) (ev := evA) (a := u) rfl rfl ky3 Tryz.underlying127 zv57 HS) ?_
  refine J_slot (t := 10) (v := ptrOf (look (ptrs s.ep) u)) rfl (by cases look (ptrs s.ep) u <;> rfl) <| ag rfl rfl <| nq <| J_ret <| J_coS (p := p) (s := s) bn be br bg bt bs bp bl bk PX trivial ?_
  exact J_return (()) Tryz.results27 (.tmp rfl .nil) rfl SU
theorem coReply {E : World} {l m : List As} {p : Nat} {s : KS} (hp : Pick (coA p s) l m) {u : Int} :
    Con Tryz.prog 20 #[.pointer (some ⟨p, 0, none⟩), .int .i64 u] E l (fun _ : Unit => ptrOf (look (ptrs s.rp) u)) (fun _ => coA p s :: m) := by
  refine Con.body (vs := [.pointer (some ⟨p, 0, none⟩), .int .i64 u]) (n := 11) Tryz.func20 rfl rfl [(0, .pointer (some ⟨p, 0, none⟩)), (1, .int .i64 u)] (env_ok 2 rfl) <| J_pick hp <| J_coO fun bn be br bg bt bs bp bl bk _ => sr <| ag rfl rfl <| nx <| mv rfl rfl <| nc rfl rfl ?_
  refine fa rfl rfl fa136_11 <| L_val rfl (v_loadL (o := 13) (i := 2) rfl ty128 HS rfl (by exact rfl)) ?_
  refine mv rfl rfl <| L_val rfl (v_look (ek := kZ) (ev := evA) (a := u) rfl rfl ky3 Tryz.underlying128 zv42 HS) ?_
  refine J_slot (t := 10) (v := ptrOf (look (ptrs s.rp) u)) rfl (by cases look (ptrs s.rp) u <;> rfl) <| ag rfl rfl <| nq <| J_ret <| J_coS (p := p) (s := s) bn be br bg bt bs bp bl bk PX trivial ?_
  exact J_return (()) Tryz.results20 (.tmp rfl .nil) rfl SU
theorem rgUnitsC {E : World} {l m : List As} {b mb : Nat} {r : Rg} (hp : Pick (rgA b mb r) l m) :
    Con Tryz.prog 288 #[.pointer (some ⟨b, 0, none⟩)] E l (fun _ : Unit => .tuple #[.int .i64 r.sq, .int .i64 r.cq]) (fun _ => rgA b mb r :: m) := by
  refine Con.body (vs := [.pointer (some ⟨b, 0, none⟩)]) (n := 12) Tryz.func288 rfl rfl [(0, .pointer (some ⟨b, 0, none⟩))] (env_ok 1 rfl) <| J_pick hp <| J_rgO fun v _ => sr <| ag rfl rfl <| ag rfl rfl <| nq <| J_seq ?_
  refine J_drawS mixed (by kernel_rfl) <| sm rfl rfl <| sp rfl (p_nilCheck rfl) <| sp rfl (p_fieldAddr rfl fa320_1) <| S_val rfl (v_load rfl ty3 HS (by exact rfl)) ?_
  refine sm rfl rfl <| sp rfl (p_nilCheck rfl) <| sp rfl (p_fieldAddr rfl fa320_2) <| S_val rfl (v_load rfl ty3 HS (by exact rfl)) ?_
  refine sp rfl (p_assign rfl) <| sp rfl (p_assign rfl) <| sq <| J_ret <| J_rgS (b := b) (mb := mb) (r := r) _ PX trivial ?_
  refine J_return (()) Tryz.results288 (.tmp rfl (.tmp rfl .nil)) ?_ ?_
  · rfl
  · exact SU
theorem keys310 {E : World} {bm : Nat} {v : Value} {ps : List (Int × Nat)} :
  Gives Tryz.prog 310 #[.pointer (some ⟨bm, 0, none⟩)] kZ (fun ss => ss.Perm (ps.map Prod.fst)) ps.length E (blk bm 129 [v]) (mapV kZ evA v ps) := by
 intro lp L hy
 show Con Tryz.prog 310 #[.func (.yield lp) #[] #[], .pointer (some ⟨bm, 0, none⟩)] E (blk bm 129 [v] :: mapV kZ evA v ps :: L []) _ _
 refine Con.body (vs := [.func (.yield lp) #[] #[], .pointer (some ⟨bm, 0, none⟩)]) (n := 14) Tryz.func310 rfl rfl [(0, .func (.yield lp) #[] #[]), (1, .pointer (some ⟨bm, 0, none⟩))] (env_ok 2 rfl) <| sr <| L_val rfl (v_load rfl ty129 HS (by exact rfl)) ?_
 refine L_op <| x_range (ek := kZ) (ev := evA) rfl Tryz.underlying129 PC rfl fun r5 => ?_
 refine nq <| J_block <| J_rangeKeyd (ek := kZ) (ev := evA) (ps := ps) HS fun hK => ?_
 refine J_loop (fun done => Come ps done) (fun done => rangeA kZ evA v r5 ps done :: blk bm 129 [v] :: L done) (fun done => [(5, .pointer (some ⟨r5, 0, none⟩)), (0, .func (.yield lp) #[] #[]), (1, .pointer (some ⟨bm, 0, none⟩))]) (fun done => ps.length - done.length) [] Come.nil SU KE ?_
 intro done hC
 refine sr ?_
 refine L_op (x_next (ek := kZ) (ev := evA) rfl PC rfl (fun k6 u6 hm6 hn6 => ?_) (fun hd6 => ?_))
 refine L_pur rfl (p_extract rfl rfl) <| nq <| J_seq <| C_true rfl <| J_skip <| Q_then <| J_block <| sr ?_
 refine L_val rfl (v_entry (ek := kZ) (ev := evA) rfl HS (by simp) hm6) ?_
 refine L_pur rfl (p_extract rfl rfl) <| ag rfl rfl <| nq <| J_seq <| J_regionIn <| LI_op <| J_pur (p_move rfl) rfl rfl rfl <| LI_op ?_
 refine J_pur (p_move rfl) rfl rfl rfl <| LI_yield rfl rfl rfl ((hy done k6 _ _ (hC.lt hK hm6 hn6))) <| LI_op <| J_pur (p_not rfl) rfl rfl rfl <| LI_nil <| Q_then <| C_false rfl <| J_skip ?_
 refine Q_blk_normal <| Q_then ?_
 exact J_again ((done ++ [k6])) (by have := hC.lt hK hm6 hn6; simp; omega) (hC.step hm6 hn6) SU KE
 refine L_pur rfl (p_extract rfl rfl) <| nq <| J_seq <| C_false rfl <| J_exit <| Q_then_exit <| Q_then_exit <| Q_blk_this ?_
 refine J_endnormal <| J_rangeEnd <| J_pure_in (p := done.Perm (ps.map Prod.fst)) (hC.perm hK hd6) ?_
 exact J_return (done) Tryz.results310 .nil rfl SU
theorem mapsKeys302 {E : World} {l : List As} {ob : Option Nat} :
    Con Tryz.prog 302 #[.map ob] E l (fun b : Nat => .func (.func 310) #[] #[.pointer (some ⟨b, 0, none⟩)]) (fun b => blk b 129 [.map ob] :: l) := by
  refine Con.body (vs := [.map ob]) (n := 4) Tryz.func302 rfl rfl [(0, .map ob)] (env_ok 1 rfl) <| sr <| L_op <| x_box rfl rfl rfl fun b1 => ag rfl rfl <| nx <| L_pur rfl (p_makeFunc (.cons rfl .nil)) <| ag rfl rfl ?_
  refine nq <| J_ret ?_
  exact J_return (b1) Tryz.results302 (.tmp rfl .nil) rfl SU
theorem coRings {E : World} {l m : List As}{p : Nat} {s : KS} (hp : Pick (coA p s) l m) (hb : s.rg.length ≤ 1000) :
    Con Tryz.prog 287 #[.pointer (some ⟨p, 0, none⟩)] E l (fun v : Value => v) (fun v => row 3 1 v ((sortZ (s.rg.map Prod.fst)).map encN) :: coA p s :: m) := by
  refine Con.body (vs := [.pointer (some ⟨p, 0, none⟩)]) (n := 9) Tryz.func287 rfl rfl [(0, .pointer (some ⟨p, 0, none⟩))] (env_ok 1 rfl) <| J_pick hp <| J_coO fun bn be br bg bt bs bp bl bk _ => sr <| ag rfl rfl <| nx <| mv rfl rfl <| nc rfl rfl ?_
  refine fa rfl rfl fa136_12 <| L_val rfl (v_loadL (o := 13) (i := 3) rfl ty129 HS rfl (by exact rfl)) ?_
  refine L_op <| xc fc302 (.cons rfl .nil) rfl (mapsKeys302) fun b7 => L_op <| xc fc64 (.cons rfl .nil) rfl (sortedI (ks := (ptrs s.rg).map Prod.fst) (A := blk b7 129 [.map (some bg)]) (B := mapV kZ evA (.map (some bg)) (ptrs s.rg)) Tryz.func310 nm310 bd310 (by simp [ptrs]; omega) (by simpa using keys310) PX) <| JE ((sortZ (s.rg.map Prod.fst)).map encN) (by simp [ptrs, Function.comp_def]) fun a8 c8 hw8 hl8 hm8 hz8 => ag rfl rfl <| nq <| J_ret ?_
  refine J_coS (p := p) (s := s) bn be br bg bt bs bp bl bk PX trivial ?_
  exact J_return (_) Tryz.results287 (.tmp rfl .nil) rfl SU
def Owns (s : KS) (r : Int) (x : Option Th) : Prop := match x with
  | none => ∀ q ∈ s.th, q.2.ring ≠ r
  | some t => ∃ k, look s.th k = some t ∧ t.ring = r
theorem coOwner {E : World} {l m : List As}{p : Nat} {s : KS} (hp : Pick (coA p s) l m) {r : Int} :
    Con Tryz.prog 85 #[.pointer (some ⟨p, 0, none⟩), .int .i64 r] E l (fun x : Option Th => .tuple #[evT (x.getD t0), .bool x.isSome]) (fun x => As.pure (Owns s r x) :: coA p s :: m) := by
  refine Con.body (vs := [.pointer (some ⟨p, 0, none⟩), .int .i64 r]) (n := 23) Tryz.func85 rfl rfl [(0, .pointer (some ⟨p, 0, none⟩)), (1, .int .i64 r)] (env_ok 2 rfl) <| J_pick hp <| J_coO fun bn be br bg bt bs bp bl bk _ => sr <| L_op <| x_alloc ty193 rfl fun b4 => ag rfl rfl <| nxx ?_
  refine mv rfl rfl <| nc rfl rfl <| fa rfl rfl fa136_13 <| L_val rfl (v_loadL (o := 13) (i := 4) rfl ty130 HS rfl (by exact rfl)) ?_
  refine L_op <| x_range (ek := kZ) (ev := evT) rfl Tryz.underlying130 PC rfl fun r12 => ?_
  refine nq <| J_block <| J_rangeKeyd (ek := kZ) (ev := evT) (ps := s.th) HS fun hK => ?_
  refine J_loop (fun done => Come s.th done ∧ ∀ q ∈ s.th, q.1 ∈ done → q.2.ring ≠ r) (fun done => rangeA kZ evT (.map (some bt)) r12 s.th done :: blk b4 193 [.int .i64 0, .int .i64 0, .int .i64 0, .int .i64 0, .int .i64 0, .int .i64 0, .int .i64 0, .int .i64 0] :: fld p 0 [.int .i64 s.ct, .int .i64 s.cu, .int .i64 s.cs, .int .i64 s.cc, .bool s.sh, .pointer (some ⟨s.mb, 0, none⟩)] :: memA s.mb s.mem :: slA p 6 s.sl :: mkA p 7 s.mr :: spA p 8 s.mp :: rqA p 9 s.q :: rtA p 10 s.rt :: tmrA p 11 s.tm :: jnlA p 12 s.jn :: fld p 13 [.map (some bn), .map (some be), .map (some br), .map (some bg), .map (some bt), .map (some bs), .map (some bp), .map (some bl), .map (some bk)] :: mapV kZ evA (.map (some bn)) (ptrs s.nt) :: each ntF s.nt :: mapV kZ evA (.map (some be)) (ptrs s.ep) :: each epF s.ep :: mapV kZ evA (.map (some br)) (ptrs s.rp) :: each rpF s.rp :: mapV kZ evA (.map (some bg)) (ptrs s.rg) :: each (rgF s.mb) s.rg :: mapV kZ evB (.map (some bs)) s.sp :: mapV kZ evZ (.map (some bp)) s.pr :: mapV kZ evL (.map (some bl)) s.be :: mapV kZ evZ (.map (some bk)) s.tk :: fld p 22 [.int .u64 s.now] :: m) (fun done => [(12, .pointer (some ⟨r12, 0, none⟩)), (0, .pointer (some ⟨p, 0, none⟩)), (1, .int .i64 r), (4, .pointer (some ⟨b4, 0, none⟩))]) (fun done => s.th.length - done.length) [] ⟨Come.nil, fun _ _ h => by cases h⟩ SU KE ?_
  intro done hC
  obtain ⟨hC, hN⟩ := hC
  refine sr ?_
  refine L_op (x_next (ek := kZ) (ev := evT) rfl PC rfl (fun k13 u13 hm13 hn13 => ?_) (fun hd13 => ?_))
  refine L_pur rfl (p_extract rfl rfl) <| nq <| J_seq <| C_true rfl <| J_skip <| Q_then <| J_block <| sr ?_
  refine L_val rfl (v_entry (ek := kZ) (ev := evT) rfl HS (by simp) hm13) ?_
  refine L_pur rfl (p_extract rfl rfl) <| L_op <| x_alloc ty193 rfl fun b7 => L_op <| x_store rfl rfl ty193 rfl SM SM RO PT ?_
  refine nx <| fa rfl rfl fa193_2 <| L_val rfl (v_load rfl ty3 HS (by exact rfl)) ?_
  refine mv rfl rfl <| L_pur rfl (p_eql rfl rfl) <| nq ?_
  refine C_dec rfl (fun h20 => ?_) (fun h20 => ?_)
  refine sr <| L_val rfl (v_loadA rfl ty193 HS CT) ?_
  refine L_op <| x_store rfl rfl ty193 rfl SM SM RO PT ?_
  refine ag rfl rfl <| nq <| J_ret <| Q_blk_ret <| Q_then_ret <| Q_blk_ret <| Q_then_ret <| J_pick (A := rangeA kZ evT _ _ _ _) PC ?_
  refine J_rangeEnd <| J_coS (p := p) (s := s) bn be br bg bt bs bp bl bk PX trivial ?_
  refine J_pure_in (p := Owns s r (some u13)) (⟨k13, look_mem hK hm13, h20⟩) ?_
  refine J_return (some u13) Tryz.results85 (.cellA rfl ty193 HS CT (.tmp rfl .nil)) ?_ ?_
  · rfl
  · exact SU
  refine J_skip <| Q_blk_normal <| Q_then ?_
  exact J_again ((done ++ [k13])) (by have := hC.lt hK hm13 hn13; simp; omega) (⟨hC.step hm13 hn13, fun q hq hd => by
      rcases List.mem_append.1 hd with h | h
      · exact hN q hq h
      · obtain rfl := List.mem_singleton.1 h
        have h1 := look_mem hK hq
        rw [look_mem hK hm13] at h1
        cases h1
        exact h20⟩) SU KE
  refine L_pur rfl (p_extract rfl rfl) <| nq <| J_seq <| C_false rfl <| J_exit <| Q_then_exit <| Q_then_exit <| Q_blk_this ?_
  refine qx <| L_pur rfl (bld193 .nil (by repeat constructor)) <| L_op <| x_store rfl rfl ty193 rfl SM SM RO PT ?_
  refine ag rfl rfl <| nq <| J_ret <| J_pick (A := rangeA kZ evT _ _ _ _) PC ?_
  refine J_rangeEnd <| J_coS (p := p) (s := s) bn be br bg bt bs bp bl bk PX trivial ?_
  refine J_pure_in (p := Owns s r none) (fun q hq => hN q hq (hd13 q hq)) ?_
  refine J_return (none) Tryz.results85 (.cellA rfl ty193 HS CT (.tmp rfl .nil)) ?_ ?_
  · rfl
  · exact SU
end Go.Pse
namespace Go.Pse
open Go.RowKit Go.Proofs
theorem fr0 : Fr 0 [] ({ tmps := #[], defers := [] } : Act) := ⟨rfl, rfl, fun t v hv => by cases hv⟩
theorem J_con {α : Type} {Q : Program} {f : FuncId} {args : Array Value} {E : World} {l : List As} {rv : α → Value} {L L' : α → List As} (hc : Con Q f args E l rv L) (k : ∀ x, Jk E (L x) 0 [] fun _ w' => Sep E w' (L' x)) : Jk E l 0 [] fun _ w => Calls Q f args w fun e w' => ∃ x, e = .returned (rv x) ∧ Sep E w' (L' x) :=
  fun w _ H _ => (hc w H).mono fun e w' ⟨x, he, H'⟩ => ⟨x, he, k x w' _ H' fr0⟩
theorem J_end {E : World} {l l' : List As} (h : Sub l l') : Jk E l 0 [] fun _ w => Sep E w l' := fun _ _ H _ => h.sep H
theorem set_same {α : Type} {xs : List α} {i : Nat} {x : α} (h : xs[i]? = some x) : xs.set i x = xs := by
  obtain ⟨h1, h2⟩ := List.getElem?_eq_some_iff.1 h
  rw [← h2]; exact List.set_getElem_self h1
theorem coUnits {E : World} {l m : List As} {p : Nat} {s : KS} (hp : Pick (coA p s) l m) {n bR : Nat} {u : Int} {r : Rg} (hg : s.rg[n]? = some (u, bR, r)) :
    Con Tryz.prog 288 #[.pointer (some ⟨bR, 0, none⟩)] E l (fun _ : Unit => .tuple #[.int .i64 r.sq, .int .i64 r.cq]) (fun _ => coA p s :: m) := fun w H => by
  refine (?_ : Jk E l 0 [] fun _ w => Calls Tryz.prog 288 #[.pointer (some ⟨bR, 0, none⟩)] w fun e w' => ∃ x, e = .returned ((fun _ : Unit => .tuple #[.int .i64 r.sq, .int .i64 r.cq]) x) ∧ Sep E w' ((fun _ : Unit => coA p s :: m) x)) w _ H fr0
  refine J_pick hp <| J_coO fun bn be br bg bt bs bp bl bk _ => J_pick (A := each (rgF s.mb) s.rg) PC ?_
  refine J_eachOut hg <| J_asTo (B := rgA bR s.mb r) (by rfl) <| J_con (rgUnitsC (r := r) PC) fun x => ?_
  refine J_pick (A := each (rgF s.mb) _) PC ?_
  refine J_pick (A := rgA bR s.mb r) PC ?_
  refine J_asTo (B := rgF s.mb (u, bR, r)) (by rfl) ?_
  refine J_eachIn (u, bR, r) (List.getElem?_eq_some_iff.1 hg).1 ?_
  refine J_asTo (B := each (rgF s.mb) s.rg) (by rw [set_same hg]) <| J_coS (p := p) (s := s) bn be br bg bt bs bp bl bk PX trivial ?_
  exact J_end SU
end Go.Pse
namespace Go.Pse
open Go.RowKit Go.Proofs
theorem J_picks2 {E : World} {A B : As} {l m : List As} {n : Nat} {F : Env} {K : Act → World → Prop} (hp : Picks [A, B] l m) (k : Jk E (A :: B :: m) n F K) : Jk E l n F K := fun w a H hF => k w a (hp.sep H) hF
/-! ### maps.DeleteFunc at pages -/
section
variable {κ υ : Type} [DecidableEq κ] {q : κ → υ → Bool} {ps : List (κ × υ)} {done : List κ} {a : κ} {u : υ}
def cur (q : κ → υ → Bool) (ps : List (κ × υ)) (done : List κ) : List (κ × υ) := ps.filter fun e => !(decide (e.1 ∈ done) && q e.1 e.2)
theorem cur_nil : cur q ps [] = ps := by unfold cur; rw [List.filter_eq_self]; intro e _; simp
theorem cur_mem (h : (a, u) ∈ cur q ps done) : (a, u) ∈ ps := (List.mem_filter.1 h).1
theorem cur_del (hK : Keyd ps) (hm : (a, u) ∈ ps) (hq : q a u = true) : del (cur q ps done) a = cur q ps (done ++ [a]) := by
  unfold del cur
  rw [List.filter_filter]
  refine List.filter_congr fun e he => ?_
  by_cases h : e.1 = a
  · have h2 : e.2 = u := by
      have h3 : look ps e.1 = some e.2 := look_mem hK he
      rw [h, look_mem hK hm] at h3; exact (Option.some.inj h3).symm
    simp [h, h2, hq]
  · simp [h]
theorem cur_keep (hK : Keyd ps) (hm : (a, u) ∈ ps) (hq : q a u = false) : cur q ps done = cur q ps (done ++ [a]) := by
  unfold cur
  refine List.filter_congr fun e he => ?_
  by_cases h : e.1 = a
  · have h2 : e.2 = u := by
      have h3 : look ps e.1 = some e.2 := look_mem hK he
      rw [h, look_mem hK hm] at h3; exact (Option.some.inj h3).symm
    simp [h, h2, hq]
  · simp [h]
theorem cur_end (h : ∀ e ∈ cur q ps done, e.1 ∈ done) : cur q ps done = ps.filter fun e => !q e.1 e.2 := by
  have h' := h
  unfold cur at h' ⊢
  refine List.filter_congr fun e he => ?_
  by_cases hd : e.1 ∈ done
  · simp [hd]
  · exact absurd (h' e (List.mem_filter.2 ⟨he, by simp [hd]⟩)) hd
end
theorem mapDel {E : World} {l m : List As} {v : Value} {ps : List ((Int × Int) × (Int × Int))} {g : FuncId} {caps : Array Value} {fn : Func} (hf : Tryz.prog.funcs[g]? = some fn) (hn : (fn.name == "runtime.NumGoroutine") = false) (hb : fn.body.isNone = false) {q : (Int × Int) → (Int × Int) → Bool} {C : As} (hg : ∀ (l' : List As) (a u : Int × Int), Has C l' → Con Tryz.prog g (#[kI a, kI u] ++ caps) E l' (fun _ : Unit => .bool (q a u)) (fun _ => l')) (hp : Picks [C, mapV kI kI v ps] l m) :
  Con Tryz.prog 315 #[v, .func (.func g) #[] caps] E l (fun _ : Unit => .tuple #[]) (fun _ => C :: mapV kI kI v (ps.filter fun e => !q e.1 e.2) :: m) := by
 refine Con.body (vs := [v, .func (.func g) #[] caps]) (n := 19) Tryz.func315 rfl rfl [(0, v), (1, .func (.func g) #[] caps)] (env_ok 2 rfl) <| J_picks2 hp <| sr <| mv rfl rfl <| L_op <| x_range (ek := kI) (ev := kI) rfl Tryz.underlying112 PC rfl fun r7 => ?_
 refine nq <| J_block <| J_rangeKeyd (ek := kI) (ev := kI) (ps := ps) HS fun hK => ?_
 refine J_pick (A := rangeA kI kI v r7 ps []) PC ?_
 refine J_asTo (B := rangeA kI kI v r7 (cur q ps []) []) (by rw [cur_nil]) <| J_loop (fun done => Come ps done) (fun done => rangeA kI kI v r7 (cur q ps done) done :: C :: m) (fun done => [(7, .pointer (some ⟨r7, 0, none⟩)), (0, v), (1, .func (.func g) #[] caps)]) (fun done => ps.length - done.length) [] Come.nil SU KE ?_
 intro done hC
 refine sr ?_
 refine L_op (x_next (ek := kI) (ev := kI) rfl PC rfl (fun k8 u8 hm8 hn8 => ?_) (fun hd8 => ?_))
 refine L_pur rfl (p_extract rfl rfl) <| nq <| J_seq <| C_true rfl <| J_skip <| Q_then <| J_block <| sr ?_
 refine L_val rfl (v_entry (ek := kI) (ev := kI) rfl HS (by simp) hm8) ?_
 refine L_pur rfl (p_extract rfl rfl) <| L_pur rfl (p_extract rfl rfl) <| L_op <| x_alloc ty85 rfl fun b4 => L_op <| x_alloc ty91 rfl fun b5 => L_op <| x_store rfl rfl ty85 rfl SM SM RO PT ?_
 refine L_op <| x_store rfl rfl ty91 rfl SM SM RO PT ?_
 refine nx <| mv rfl rfl <| L_val rfl (v_loadA rfl ty85 HS CT) ?_
 refine L_val rfl (v_loadA rfl ty91 HS CT) ?_
 refine L_op <| x_callc rfl hf hn hb (.cons rfl (.cons rfl .nil)) rfl (hg _ k8 u8 HS) fun _ => ?_
 refine nq ?_
 refine C_split rfl (fun h16 => ?_) (fun h16 => ?_)
 refine J_region <| mv rfl rfl <| L_val rfl (v_loadA rfl ty85 HS CT) ?_
 refine L_op <| x_deleteR (ek := kI) (ev := kI) (a := k8) rfl rfl ky85 Tryz.underlying112 PC ?_
 refine J_pick (A := rangeA kI kI v r7 _ _) PC ?_
 refine J_asTo (B := rangeA kI kI v r7 (cur q ps (done ++ [k8])) (done ++ [k8])) (by rw [cur_del hK (cur_mem hm8) h16]) <| L_nil <| Q_blk_normal <| Q_then ?_
 exact J_again ((done ++ [k8])) (by have := hC.lt hK (cur_mem hm8) hn8; simp; omega) (hC.step (cur_mem hm8) hn8) SU KE
 refine J_pick (A := rangeA kI kI v r7 _ _) PC ?_
 refine J_asTo (B := rangeA kI kI v r7 (cur q ps (done ++ [k8])) (done ++ [k8])) (by rw [cur_keep hK (cur_mem hm8) h16]) <| J_skip <| Q_blk_normal <| Q_then ?_
 exact J_again ((done ++ [k8])) (by have := hC.lt hK (cur_mem hm8) hn8; simp; omega) (hC.step (cur_mem hm8) hn8) SU KE
 refine L_pur rfl (p_extract rfl rfl) <| nq <| J_seq <| C_false rfl <| J_exit <| Q_then_exit <| Q_then_exit <| Q_blk_this ?_
 refine J_endnormal <| J_pick (A := rangeA kI kI v r7 _ _) PC ?_
 refine J_rangeEnd <| J_mapEq (qs := ps.filter fun e => !q e.1 e.2) (cur_end hd8) ?_
 exact J_return (()) Tryz.results315 .nil rfl SU
theorem clearsC {E : World} {l m : List As} {b o : Nat} {ps : List (Place × M1)} {g : FuncId} {caps : Array Value} {fn : Func} (hf : Tryz.prog.funcs[g]? = some fn) (hn : (fn.name == "runtime.NumGoroutine") = false) (hb : fn.body.isNone = false) {q : (Int × Int) → (Int × Int) → Bool} {C : As} (hg : ∀ (l' : List As) (a u : Int × Int), Has C l' → Con Tryz.prog g (#[kI a, kI u] ++ caps) E l' (fun _ : Unit => .bool (q a u)) (fun _ => l')) (hp : Picks [C, spA b o ps] l m) (hz : ps.length ≤ 1000000) :
    Con Tryz.prog 311 #[.pointer (some ⟨b, o, none⟩), .func (.func g) #[] caps] E l (fun _ : Unit => .int .i64 ((ps.length : Int) - (((ps.filter fun e => !q e.1 e.2).length : Nat) : Int))) (fun _ => C :: spA b o (ps.filter fun e => !q e.1 e.2) :: m) := by
  refine Con.body (vs := [.pointer (some ⟨b, o, none⟩), .func (.func g) #[] caps]) (n := 24) Tryz.func311 rfl rfl [(0, .pointer (some ⟨b, o, none⟩)), (1, .func (.func g) #[] caps)] (env_ok 2 rfl) <| J_picks2 hp <| J_pick (A := spA b o ps) PC ?_
  refine J_spO fun ob _ => sr <| ag rfl rfl <| nx <| mv rfl rfl <| nc rfl rfl <| fa rfl rfl fa114_0 <| L_val rfl (v_loadL rfl ty112 HS rfl (by exact rfl)) ?_
  refine L_val rfl (v_lenMap (ek := kI) (ev := kI) rfl Tryz.underlying112 HS) ?_
  refine J_slot (t := 10) (v := .int .i64 (ps.length : Int)) rfl rfl <| ag rfl rfl <| nx <| mv rfl rfl <| nc rfl rfl <| fa rfl rfl fa114_0 <| L_val rfl (v_loadL rfl ty112 HS rfl (by exact rfl)) ?_
  refine mv rfl rfl <| L_op <| xc fc315 (.cons rfl (.cons rfl .nil)) rfl (mapDel (ps := ps) (C := C) hf hn hb hg PX) fun _ => ?_
  refine nx <| mv rfl rfl <| mv rfl rfl <| nc rfl rfl <| fa rfl rfl fa114_0 <| L_val rfl (v_loadL rfl ty112 HS rfl (by exact rfl)) ?_
  refine L_val rfl (v_lenMap (ek := kI) (ev := kI) rfl Tryz.underlying112 HS) ?_
  refine L_pur rfl (p_sub64 rfl rfl (by have h1 : (ps.filter fun e : (Int × Int) × (Int × Int) => !q e.1 e.2).length ≤ ps.length := List.length_filter_le _ _; omega)) <| ag rfl rfl <| nq <| J_ret <| J_spS (b := b) (o := o) (ps := ps.filter fun e => !q e.1 e.2) _ PX trivial ?_
  refine J_return (()) Tryz.results311 (.tmp rfl .nil) ?_ ?_
  · rfl
  · exact SU
end Go.Pse
namespace Go.Pse
open Go.RowKit Go.Proofs
theorem dropClo {E : World} {l : List As} {bz : Nat} {z : Int} {a u : Int × Int} (hh : Has (blk bz 3 [.int .i64 z]) l) :
    Con Tryz.prog 312 #[kI a, kI u, .pointer (some ⟨bz, 0, none⟩)] E l (fun _ : Unit => .bool (decide (u.1 = z))) (fun _ => l) := by
  refine Con.body (vs := [kI a, kI u, .pointer (some ⟨bz, 0, none⟩)]) (n := 10) Tryz.func312 rfl rfl [(0, kI a), (1, kI u), (2, .pointer (some ⟨bz, 0, none⟩))] (env_ok 3 rfl) <| sr <| L_op <| x_box rfl rfl rfl fun b3 => L_op <| x_box rfl rfl rfl fun b4 => ag rfl rfl <| nx ?_
  refine fa rfl rfl fa91_0 <| L_val rfl (v_load rfl ty3 HS (by exact rfl)) ?_
  refine L_val rfl (v_load rfl ty3 (.there (.there hh)) (by exact rfl)) <| L_pur rfl (p_eql rfl rfl) <| ag rfl rfl <| nq <| J_ret ?_
  refine J_return (()) Tryz.results312 (.tmp rfl .nil) ?_ ?_
  · rfl
  · exact SU
theorem emptyClo {E : World} {l : List As} {bz : Nat} {z : Int} {a u : Int × Int} (hh : Has (blk bz 3 [.int .i64 z]) l) :
    Con Tryz.prog 313 #[kI a, kI u, .pointer (some ⟨bz, 0, none⟩)] E l (fun _ : Unit => .bool (decide (a.1 = z))) (fun _ => l) := by
  refine Con.body (vs := [kI a, kI u, .pointer (some ⟨bz, 0, none⟩)]) (n := 10) Tryz.func313 rfl rfl [(0, kI a), (1, kI u), (2, .pointer (some ⟨bz, 0, none⟩))] (env_ok 3 rfl) <| sr <| L_op <| x_box rfl rfl rfl fun b3 => L_op <| x_box rfl rfl rfl fun b4 => ag rfl rfl <| nx ?_
  refine fa rfl rfl fa85_0 <| L_val rfl (v_load rfl ty3 HS (by exact rfl)) ?_
  refine L_val rfl (v_load rfl ty3 (.there (.there hh)) (by exact rfl)) <| L_pur rfl (p_eql rfl rfl) <| ag rfl rfl <| nq <| J_ret ?_
  refine J_return (()) Tryz.results313 (.tmp rfl .nil) ?_ ?_
  · rfl
  · exact SU
theorem dropC {E : World} {l m : List As} {b o : Nat} {ps : List (Place × M1)} {z : Int} (hp : Pick (spA b o ps) l m) (hz : ps.length ≤ 1000000) :
    Con Tryz.prog 304 #[.pointer (some ⟨b, o, none⟩), .int .i64 z] E l (fun n : Int => .int .i64 n) (fun _ => spA b o (ps.filter fun e => !decide (e.2.1 = z)) :: m) := by
  refine Con.body (vs := [.pointer (some ⟨b, o, none⟩), .int .i64 z]) (n := 8) Tryz.func304 rfl rfl [(0, .pointer (some ⟨b, o, none⟩)), (1, .int .i64 z)] (env_ok 2 rfl) <| sr <| L_op <| x_box rfl rfl rfl fun b3 => ag rfl rfl <| nx <| mv rfl rfl <| L_pur rfl (p_makeFunc (.cons rfl .nil)) ?_
  refine L_op <| xc fc311 (.cons rfl (.cons rfl .nil)) rfl (clearsC (ps := ps) (C := blk b3 3 [.int .i64 z]) (q := fun _ u => decide (u.1 = z)) Tryz.func312 nm312 bd312 (fun l' a u h => dropClo h) PX hz) fun _ => ?_
  refine ag rfl rfl <| nq <| J_ret ?_
  refine J_return (((ps.length : Int) - (((ps.filter fun e => !decide (e.2.1 = z)).length : Nat) : Int))) Tryz.results304 (.tmp rfl .nil) ?_ ?_
  · rfl
  · exact SU
theorem emptyC {E : World} {l m : List As} {b o : Nat} {ps : List (Place × M1)} {z : Int} (hp : Pick (spA b o ps) l m) (hz : ps.length ≤ 1000000) :
    Con Tryz.prog 305 #[.pointer (some ⟨b, o, none⟩), .int .i64 z] E l (fun n : Int => .int .i64 n) (fun _ => spA b o (ps.filter fun e => !decide (e.1.1 = z)) :: m) := by
  refine Con.body (vs := [.pointer (some ⟨b, o, none⟩), .int .i64 z]) (n := 8) Tryz.func305 rfl rfl [(0, .pointer (some ⟨b, o, none⟩)), (1, .int .i64 z)] (env_ok 2 rfl) <| sr <| L_op <| x_box rfl rfl rfl fun b3 => ag rfl rfl <| nx <| mv rfl rfl <| L_pur rfl (p_makeFunc (.cons rfl .nil)) ?_
  refine L_op <| xc fc311 (.cons rfl (.cons rfl .nil)) rfl (clearsC (ps := ps) (C := blk b3 3 [.int .i64 z]) (q := fun a _ => decide (a.1 = z)) Tryz.func313 nm313 bd313 (fun l' a u h => emptyClo h) PX hz) fun _ => ?_
  refine ag rfl rfl <| nq <| J_ret ?_
  refine J_return (((ps.length : Int) - (((ps.filter fun e => !decide (e.1.1 = z)).length : Nat) : Int))) Tryz.results305 (.tmp rfl .nil) ?_ ?_
  · rfl
  · exact SU
def rem {α : Type} (xs : List (Int × α)) (u : Int) : List (Int × α) := xs.filter fun x => !decide (x.1 = u)
theorem ptrs_rem {α : Type} {xs : List (Int × Nat × α)} {u : Int} : del (ptrs xs) u = ptrs (rem xs u) := by
  unfold del ptrs rem
  rw [List.filter_map]; rfl
def kGone (s : KS) (k u : Int) : KS :=
  if k = 4 then { s with ep := rem s.ep u } else if k = 5 then { s with nt := rem s.nt u } else if k = 7 then { s with rp := rem s.rp u } else if k = 3 then { s with mp := s.mp.filter fun e => !decide (e.2.1 = u) } else if k = 8 then { s with mp := s.mp.filter fun e => !decide (e.1.1 = u), sp := del s.sp u } else if k = 6 then { s with q := qRem s.q u, th := del s.th u } else if k = 9 then { s with rg := rem s.rg u } else s
theorem coGone {E : World} {l m : List As} {p : Nat} {s : KS} (hp : Pick (coA p s) l m) {k u : Int} (hq : s.q.length ≤ 90000) (hz : s.mp.length ≤ 1000000) :
  Con Tryz.prog 290 #[.pointer (some ⟨p, 0, none⟩), .agg (encI (k, u)).toArray] E l (fun _ : Unit => .tuple #[]) (fun _ => coA p (kGone s k u) :: m) := by
 refine Con.body (vs := [.pointer (some ⟨p, 0, none⟩), .agg (encI (k, u)).toArray]) (n := 74) Tryz.func290 rfl rfl [(0, .pointer (some ⟨p, 0, none⟩)), (1, .agg (encI (k, u)).toArray)] (env_ok 2 rfl) <| J_pick hp <| J_coO fun bn be br bg bt bs bp bl bk _ => sr <| L_op <| x_box rfl rfl rfl fun b3 => nx <| fa rfl rfl fa418_0 ?_
 refine L_val rfl (v_load rfl ty3 HS (by exact rfl)) ?_
 refine nq <| J_block <| sr <| L_pur rfl (p_eql rfl rfl) <| ag rfl rfl <| nq ?_
 refine C_dec rfl (fun h6 => ?_) (fun h6 => ?_)
 refine J_drawT 6 mixed (by kernel_rfl) <| sm rfl rfl <| sp rfl (p_nilCheck rfl) <| sp rfl (p_fieldAddr rfl fa136_10) <| S_val rfl (v_loadL (o := 13) (i := 1) rfl ty127 HS rfl (by exact rfl)) ?_
 refine sp rfl (p_fieldAddr rfl fa418_1) <| S_val rfl (v_load rfl ty3 HS (by exact rfl)) ?_
 refine S_nil <| L_op <| x_delete (ek := kZ) (ev := evA) (a := u) rfl rfl ky3 Tryz.underlying127 PC ?_
 refine J_pick (A := mapV kZ evA (.map (some be)) _) PC ?_
 refine J_mapEq (qs := ptrs (rem s.ep u)) ptrs_rem <| J_pick (A := each epF s.ep) PC ?_
 refine J_eachSub (ys := rem s.ep u) List.filter_sublist <| L_nil <| Q_blk_normal <| J_endnormal <| J_coS (p := p) (s := { s with ep := rem s.ep u }) bn be br bg bt bs bp bl bk PX trivial ?_
 refine J_asTo (B := coA p (kGone s k u)) (by unfold kGone; rw [if_pos h6]) ?_
 exact J_return (()) Tryz.results290 .nil rfl SU
 refine sr <| L_pur rfl (p_eql rfl rfl) <| ag rfl rfl <| nq ?_
 refine C_dec rfl (fun h14 => ?_) (fun h14 => ?_)
 refine J_drawT 6 mixed (by kernel_rfl) <| sm rfl rfl <| sp rfl (p_nilCheck rfl) <| sp rfl (p_fieldAddr rfl fa136_9) <| S_val rfl (v_loadL (o := 13) (i := 0) rfl ty126 HS rfl (by exact rfl)) ?_
 refine sp rfl (p_fieldAddr rfl fa418_1) <| S_val rfl (v_load rfl ty3 HS (by exact rfl)) ?_
 refine S_nil <| L_op <| x_delete (ek := kZ) (ev := evA) (a := u) rfl rfl ky3 Tryz.underlying126 PC ?_
 refine J_pick (A := mapV kZ evA (.map (some bn)) _) PC ?_
 refine J_mapEq (qs := ptrs (rem s.nt u)) ptrs_rem <| J_pick (A := each ntF s.nt) PC ?_
 refine J_eachSub (ys := rem s.nt u) List.filter_sublist <| L_nil <| Q_blk_normal <| J_endnormal <| J_coS (p := p) (s := { s with nt := rem s.nt u }) bn be br bg bt bs bp bl bk PX trivial ?_
 refine J_asTo (B := coA p (kGone s k u)) (by unfold kGone; rw [if_neg h6, if_pos h14]) ?_
 exact J_return (()) Tryz.results290 .nil rfl SU
 refine sr <| L_pur rfl (p_eql rfl rfl) <| ag rfl rfl <| nq ?_
 refine C_dec rfl (fun h22 => ?_) (fun h22 => ?_)
 refine J_drawT 6 mixed (by kernel_rfl) <| sm rfl rfl <| sp rfl (p_nilCheck rfl) <| sp rfl (p_fieldAddr rfl fa136_11) <| S_val rfl (v_loadL (o := 13) (i := 2) rfl ty128 HS rfl (by exact rfl)) ?_
 refine sp rfl (p_fieldAddr rfl fa418_1) <| S_val rfl (v_load rfl ty3 HS (by exact rfl)) ?_
 refine S_nil <| L_op <| x_delete (ek := kZ) (ev := evA) (a := u) rfl rfl ky3 Tryz.underlying128 PC ?_
 refine J_pick (A := mapV kZ evA (.map (some br)) _) PC ?_
 refine J_mapEq (qs := ptrs (rem s.rp u)) ptrs_rem <| J_pick (A := each rpF s.rp) PC ?_
 refine J_eachSub (ys := rem s.rp u) List.filter_sublist <| L_nil <| Q_blk_normal <| J_endnormal <| J_coS (p := p) (s := { s with rp := rem s.rp u }) bn be br bg bt bs bp bl bk PX trivial ?_
 refine J_asTo (B := coA p (kGone s k u)) (by unfold kGone; rw [if_neg h6, if_neg h14, if_pos h22]) ?_
 exact J_return (()) Tryz.results290 .nil rfl SU
 refine sr <| L_pur rfl (p_eql rfl rfl) <| ag rfl rfl <| nq ?_
 refine C_dec rfl (fun h30 => ?_) (fun h30 => ?_)
 refine J_drawT 5 mixed (by kernel_rfl) <| sm rfl rfl <| sp rfl (p_nilCheck rfl) <| sp rfl (p_fieldAddr rfl fa136_4) <| sp rfl (p_fieldAddr rfl fa418_1) <| S_val rfl (v_load rfl ty3 HS (by exact rfl)) ?_
 refine S_nil <| L_op <| xc fc304 (.cons rfl (.cons rfl .nil)) rfl (dropC (ps := s.mp) (z := u) PC hz) fun _ => ?_
 refine L_nil <| Q_blk_normal <| J_endnormal <| J_coS (p := p) (s := { s with mp := s.mp.filter fun e => !decide (e.2.1 = u) }) bn be br bg bt bs bp bl bk PX trivial ?_
 refine J_asTo (B := coA p (kGone s k u)) (by unfold kGone; rw [if_neg h6, if_neg h14, if_neg h22, if_pos h30]) ?_
 exact J_return (()) Tryz.results290 .nil rfl SU
 refine sr <| L_pur rfl (p_eql rfl rfl) <| ag rfl rfl <| nq ?_
 refine C_dec rfl (fun h38 => ?_) (fun h38 => ?_)
 refine J_seq <| J_drawT 5 mixed (by kernel_rfl) <| sm rfl rfl <| sp rfl (p_nilCheck rfl) <| sp rfl (p_fieldAddr rfl fa136_4) <| sp rfl (p_fieldAddr rfl fa418_1) <| S_val rfl (v_load rfl ty3 HS (by exact rfl)) ?_
 refine S_nil <| L_op <| xc fc305 (.cons rfl (.cons rfl .nil)) rfl (emptyC (ps := s.mp) (z := u) PC hz) fun _ => ?_
 refine nq <| J_drawT 6 mixed (by kernel_rfl) <| sm rfl rfl <| sp rfl (p_nilCheck rfl) <| sp rfl (p_fieldAddr rfl fa136_14) <| S_val rfl (v_loadL (o := 13) (i := 5) rfl ty131 HS rfl (by exact rfl)) ?_
 refine sp rfl (p_fieldAddr rfl fa418_1) <| S_val rfl (v_load rfl ty3 HS (by exact rfl)) ?_
 refine S_nil <| L_op <| x_delete (ek := kZ) (ev := evB) (a := u) rfl rfl ky3 Tryz.underlying131 PC ?_
 refine L_nil <| Q_blk_normal <| J_endnormal <| J_coS (p := p) (s := { s with mp := s.mp.filter fun e => !decide (e.1.1 = u), sp := del s.sp u }) bn be br bg bt bs bp bl bk PX trivial ?_
 refine J_asTo (B := coA p (kGone s k u)) (by unfold kGone; rw [if_neg h6, if_neg h14, if_neg h22, if_neg h30, if_pos h38]) ?_
 exact J_return (()) Tryz.results290 .nil rfl SU
 refine sr <| L_pur rfl (p_eql rfl rfl) <| ag rfl rfl <| nq ?_
 refine C_dec rfl (fun h52 => ?_) (fun h52 => ?_)
 refine J_seq <| J_drawT 5 mixed (by kernel_rfl) <| sm rfl rfl <| sp rfl (p_nilCheck rfl) <| sp rfl (p_fieldAddr rfl fa136_5) <| sp rfl (p_fieldAddr rfl fa418_1) <| S_val rfl (v_load rfl ty3 HS (by exact rfl)) ?_
 refine S_nil <| L_op <| xc fc246 (.cons rfl (.cons rfl .nil)) rfl (qRemC (q := s.q) (i := u) PC (by omega)) fun _ => ?_
 refine nq <| J_drawT 6 mixed (by kernel_rfl) <| sm rfl rfl <| sp rfl (p_nilCheck rfl) <| sp rfl (p_fieldAddr rfl fa136_13) <| S_val rfl (v_loadL (o := 13) (i := 4) rfl ty130 HS rfl (by exact rfl)) ?_
 refine sp rfl (p_fieldAddr rfl fa418_1) <| S_val rfl (v_load rfl ty3 HS (by exact rfl)) ?_
 refine S_nil <| L_op <| x_delete (ek := kZ) (ev := evT) (a := u) rfl rfl ky3 Tryz.underlying130 PC ?_
 refine L_nil <| Q_blk_normal <| J_endnormal <| J_coS (p := p) (s := { s with q := qRem s.q u, th := del s.th u }) bn be br bg bt bs bp bl bk PX trivial ?_
 refine J_asTo (B := coA p (kGone s k u)) (by unfold kGone; rw [if_neg h6, if_neg h14, if_neg h22, if_neg h30, if_neg h38, if_pos h52]) ?_
 exact J_return (()) Tryz.results290 .nil rfl SU
 refine sr <| L_pur rfl (p_eql rfl rfl) <| ag rfl rfl <| nq ?_
 refine C_dec rfl (fun h66 => ?_) (fun h66 => ?_)
 refine J_drawT 6 mixed (by kernel_rfl) <| sm rfl rfl <| sp rfl (p_nilCheck rfl) <| sp rfl (p_fieldAddr rfl fa136_12) <| S_val rfl (v_loadL (o := 13) (i := 3) rfl ty129 HS rfl (by exact rfl)) ?_
 refine sp rfl (p_fieldAddr rfl fa418_1) <| S_val rfl (v_load rfl ty3 HS (by exact rfl)) ?_
 refine S_nil <| L_op <| x_delete (ek := kZ) (ev := evA) (a := u) rfl rfl ky3 Tryz.underlying129 PC ?_
 refine J_pick (A := mapV kZ evA (.map (some bg)) _) PC ?_
 refine J_mapEq (qs := ptrs (rem s.rg u)) ptrs_rem <| J_pick (A := each (rgF s.mb) s.rg) PC ?_
 refine J_eachSub (ys := rem s.rg u) List.filter_sublist <| L_nil <| Q_blk_normal <| J_endnormal <| J_coS (p := p) (s := { s with rg := rem s.rg u }) bn be br bg bt bs bp bl bk PX trivial ?_
 refine J_asTo (B := coA p (kGone s k u)) (by unfold kGone; rw [if_neg h6, if_neg h14, if_neg h22, if_neg h30, if_neg h38, if_neg h52, if_pos h66]) ?_
 exact J_return (()) Tryz.results290 .nil rfl SU
 refine J_skip <| Q_blk_normal <| J_endnormal <| J_coS (p := p) (s := s) bn be br bg bt bs bp bl bk PX trivial ?_
 refine J_asTo (B := coA p (kGone s k u)) (by unfold kGone; rw [if_neg h6, if_neg h14, if_neg h22, if_neg h30, if_neg h38, if_neg h52, if_neg h66]) ?_
 exact J_return (()) Tryz.results290 .nil rfl SU
end Go.Pse
namespace Go.Pse
open Go.RowKit Go.Proofs
/-! ### plain: requests -/
def cmpQ (a b : Rq) : Int := cmpZ a.id.2 b.id.2
theorem cmpQ_lt (a b : Rq) : Go.Proofs.ltOf cmpQ a b = decide (a.id.2 < b.id.2) := by
  have : (cmpQ a b < 0) ↔ a.id.2 < b.id.2 := by
    unfold cmpQ cmpZ
    (repeat' split) <;> omega
  unfold Go.Proofs.ltOf
  rw [Bool.eq_iff_iff]
  simp [this]
theorem cmpQ_swo : Go.Sort.SWO (Go.Proofs.ltOf cmpQ) where
  irrefl x := by rw [cmpQ_lt]; simp
  trans x y z h1 h2 := by rw [cmpQ_lt] at *; simp at *; omega
  ntrans x y z h1 h2 := by rw [cmpQ_lt] at *; simp at *; omega
instance : Inhabited Rq := ⟨⟨(0, 0), ⟨0, 0, 0, 0, 0, 0, 0, 0⟩, 0, false, false⟩⟩
def q00 : Rq := ⟨(0, 0), ⟨0, 0, 0, 0, 0, 0, 0, 0⟩, 0, false, false⟩
def Ids (ps : List (ID × Rq)) : Prop := ∀ e ∈ ps, e.2.id = e.1
def ofRing (ps : List (ID × Rq)) (g : Int) : List Rq := (ps.filter fun e => decide (e.1.1 = g)).map Prod.snd
def ofQ (ps : List (ID × Rq)) (g : Int) : List Rq := sortF cmpQ (ofRing ps g)
theorem ofQ_len (ps : List (ID × Rq)) (g : Int) : (ofQ ps g).length ≤ ps.length := by
  unfold ofQ ofRing; rw [sortF_len, List.length_map]; exact List.length_filter_le _ _
theorem ofRing_mem {ps : List (ID × Rq)} {g : Int} {x : Rq} : x ∈ ofRing ps g ↔ ∃ k, (k, x) ∈ ps ∧ k.1 = g := by
  unfold ofRing
  rw [List.mem_map]
  constructor
  · rintro ⟨e, he, rfl⟩
    have := List.mem_filter.1 he
    exact ⟨e.1, this.1, by simpa using this.2⟩
  · rintro ⟨k, h1, h2⟩
    exact ⟨(k, x), List.mem_filter.2 ⟨h1, by simpa using h2⟩, rfl⟩
theorem ofQ_mem {ps : List (ID × Rq)} {g : Int} {x : Rq} : x ∈ ofQ ps g ↔ ∃ k, (k, x) ∈ ps ∧ k.1 = g := by unfold ofQ; rw [sortF_mem, ofRing_mem]
theorem ofQ_parts {ps : List (ID × Rq)} {g : Int} (hK : Keyd ps) (hI : Ids ps) {xs : List Rq} (hx : xs.Perm (ofRing ps g)) : ∀ x ∈ xs, ∀ y ∈ xs, Go.Proofs.ltOf cmpQ x y = false → Go.Proofs.ltOf cmpQ y x = false → x = y := fun x h1 y h2 h3 h4 => by
  obtain ⟨k1, a1, b1⟩ := ofRing_mem.1 (hx.mem_iff.1 h1)
  obtain ⟨k2, a2, b2⟩ := ofRing_mem.1 (hx.mem_iff.1 h2)
  rw [cmpQ_lt] at h3 h4
  have e1 : x.id = k1 := hI _ a1
  have e2 : y.id = k2 := hI _ a2
  have : k1 = k2 := Prod.ext (b1.trans b2.symm) (by rw [← e1, ← e2]; simp at h3 h4; omega)
  subst this
  have g1 := look_mem hK a1
  rw [look_mem hK a2] at g1
  exact (Option.some.inj g1).symm
def comeQ (ps : List (ID × Rq)) (g : Int) (done : List ID) : List Rq := (done.filter fun k => decide (k.1 = g)).filterMap (look ps)
theorem comeQ_on {ps : List (ID × Rq)} {g : Int} {done : List ID} {k : ID} {u : Rq} (hK : Keyd ps) (hm : (k, u) ∈ ps) (h : k.1 = g) : comeQ ps g (done ++ [k]) = comeQ ps g done ++ [u] := by
  unfold comeQ
  rw [List.filter_append, List.filterMap_append]
  congr 1
  simp [h, look_mem hK hm]
theorem comeQ_off {ps : List (ID × Rq)} {g : Int} {done : List ID} {k : ID} (h : ¬ k.1 = g) : comeQ ps g (done ++ [k]) = comeQ ps g done := by
  unfold comeQ
  rw [List.filter_append, List.filterMap_append]
  simp [h]
theorem comeQ_len (ps : List (ID × Rq)) (g : Int) (done : List ID) : (comeQ ps g done).length ≤ done.length := Nat.le_trans (List.length_filterMap_le _ _) (List.length_filter_le _ _)
theorem filterMap_look {ps : List (ID × Rq)} (hK : Keyd ps) (g : Int) : ∀ qs : List (ID × Rq), (∀ e ∈ qs, e ∈ ps) → ((qs.map Prod.fst).filter fun k => decide (k.1 = g)).filterMap (look ps) = (qs.filter fun e => decide (e.1.1 = g)).map Prod.snd
  | [], _ => rfl
  | e :: qs, h => by
    have h1 := look_mem hK (h e (List.mem_cons_self))
    have h2 := filterMap_look hK g qs fun e he => h e (List.mem_cons_of_mem _ he)
    rw [List.map_cons, List.filter_cons, List.filter_cons]
    by_cases hg : e.1.1 = g
    · rw [if_pos (by simpa using hg), if_pos (by simpa using hg), List.filterMap_cons_some h1, List.map_cons, h2]
    · rw [if_neg (by simpa using hg), if_neg (by simpa using hg), h2]
theorem comeQ_perm {ps : List (ID × Rq)} {g : Int} {done : List ID} (hK : Keyd ps) (h : done.Perm (ps.map Prod.fst)) : (comeQ ps g done).Perm (ofRing ps g) := by
  unfold comeQ ofRing
  rw [← filterMap_look hK g ps fun _ h => h]
  exact (h.filter _).filterMap _
def addOk (ps : List (ID × Rq)) (q : Rq) : Bool := !(look ps q.id).isSome && decide ((ofQ ps q.id.1).length < 16)
def addQ (ps : List (ID × Rq)) (q : Rq) : List (ID × Rq) := if addOk ps q then ins ps q.id q else ps
def afterQ (ps : List (ID × Rq)) (i : ID) : Option Rq := (ofQ ps i.1).find? fun r => decide (r.prev = i.2)
theorem Ids.ins {ps : List (ID × Rq)} (h : Ids ps) (q : Rq) : Ids (ins ps q.id q) := fun e he => by
  unfold Go.Pse.ins at he
  split at he
  · obtain ⟨x, hx, rfl⟩ := List.mem_map.1 he
    split
    · rfl
    · exact h x hx
  · rcases List.mem_append.1 he with h1 | h1
    · exact h e h1
    · rw [List.mem_singleton.1 h1]
theorem Ids.add {ps : List (ID × Rq)} (h : Ids ps) (q : Rq) : Ids (addQ ps q) := by unfold addQ; split <;> first | exact h.ins q | exact h
theorem Ids.del {ps : List (ID × Rq)} (h : Ids ps) (i : ID) : Ids (del ps i) := fun e he => h e (List.mem_filter.1 he).1
theorem Ids.nil : Ids [] := fun _ h => by cases h
theorem rtHas {E : World} {l m : List As}  {b o : Nat} {ps : List (ID × Rq)} (hp : Pick (rtA b o ps) l m) {i : ID} :
    Con Tryz.prog 76 #[.pointer (some ⟨b, o, none⟩), .agg (encI i).toArray] E l (fun _ : Unit => .bool (look ps i).isSome) (fun _ => rtA b o ps :: m) := by
  refine Con.body (vs := [.pointer (some ⟨b, o, none⟩), .agg (encI i).toArray]) (n := 17) Tryz.func76 rfl rfl [(0, .pointer (some ⟨b, o, none⟩)), (1, .agg (encI i).toArray)] (env_ok 2 rfl) <| J_pick hp <| J_rtO fun ob _ => sr <| L_op <| x_box rfl rfl rfl fun b3 => ag rfl rfl <| nq ?_
  refine J_seq <| J_drawL none mixed <| ip 0 rfl rfl rfl rfl (p_move rfl) <| ip 1 rfl rfl rfl rfl (p_nilCheck rfl) <| ip 2 rfl rfl rfl rfl (p_fieldAddr rfl fa120_0) <| iv 3 rfl rfl rfl rfl (fun _ => v_loadL rfl ty118 HS rfl (by exact rfl)) ?_
  refine iv 4 rfl rfl rfl rfl (fun _ => v_loadA rfl ty39 HS CT) ?_
  refine iv 5 rfl rfl rfl rfl (fun _ => v_lookOk (ek := kI) (ev := evQ) (a := i) rfl rfl ky39 Tryz.underlying118 zv104 HS) ?_
  refine J_slot (t := 13) (v := .tuple #[evQ ((look ps i).getD q00), .bool (look ps i).isSome]) rfl (by cases look ps i <;> rfl) <| ip 6 rfl rfl rfl rfl (p_move rfl) <| ip 7 rfl rfl rfl rfl (p_extract rfl rfl) <| ip 8 rfl rfl rfl rfl (p_extract rfl rfl) <| i1 9 rfl <| x_alloc ty104 rfl fun b5 => i1 10 rfl <| x_store rfl rfl ty104 rfl SM SM RO PT ?_
  refine ip 11 rfl rfl rfl rfl (p_assign rfl) <| i0 <| qx <| mv rfl rfl <| ag rfl rfl <| nq <| J_ret <| J_rtS (b := b) (o := o) (ps := ps) _ PX trivial ?_
  exact J_return (()) Tryz.results76 (.tmp rfl .nil) rfl SU
theorem rtGetC {E : World} {l m : List As}  {b o : Nat} {ps : List (ID × Rq)} (hp : Pick (rtA b o ps) l m) {i : ID} :
    Con Tryz.prog 51 #[.pointer (some ⟨b, o, none⟩), .agg (encI i).toArray] E l (fun _ : Unit => .tuple #[evQ ((look ps i).getD q00), .bool (look ps i).isSome]) (fun _ => rtA b o ps :: m) := by
  refine Con.body (vs := [.pointer (some ⟨b, o, none⟩), .agg (encI i).toArray]) (n := 19) Tryz.func51 rfl rfl [(0, .pointer (some ⟨b, o, none⟩)), (1, .agg (encI i).toArray)] (env_ok 2 rfl) <| J_pick hp <| J_rtO fun ob _ => sr <| L_op <| x_box rfl rfl rfl fun b3 => L_op <| x_alloc ty104 rfl fun b4 => ?_
  refine ag rfl rfl <| nq <| J_seq <| J_drawL none mixed <| ip 0 rfl rfl rfl rfl (p_move rfl) <| ip 1 rfl rfl rfl rfl (p_nilCheck rfl) <| ip 2 rfl rfl rfl rfl (p_fieldAddr rfl fa120_0) <| iv 3 rfl rfl rfl rfl (fun _ => v_loadL rfl ty118 HS rfl (by exact rfl)) ?_
  refine iv 4 rfl rfl rfl rfl (fun _ => v_loadA rfl ty39 HS CT) ?_
  refine iv 5 rfl rfl rfl rfl (fun _ => v_lookOk (ek := kI) (ev := evQ) (a := i) rfl rfl ky39 Tryz.underlying118 zv104 HS) ?_
  refine J_slot (t := 14) (v := .tuple #[evQ ((look ps i).getD q00), .bool (look ps i).isSome]) rfl (by cases look ps i <;> rfl) <| ip 6 rfl rfl rfl rfl (p_move rfl) <| ip 7 rfl rfl rfl rfl (p_extract rfl rfl) <| ip 8 rfl rfl rfl rfl (p_extract rfl rfl) <| i1 9 rfl <| x_alloc ty104 rfl fun b6 => i1 10 rfl <| x_store rfl rfl ty104 rfl SM SM RO PT ?_
  refine ip 11 rfl rfl rfl rfl (p_assign rfl) <| i0 <| qx <| L_val rfl (v_loadA rfl ty104 HS CT) ?_
  refine mv rfl rfl <| L_op <| x_store rfl rfl ty104 rfl SM SM RO PT ?_
  refine ag rfl rfl <| nq <| J_ret <| J_rtS (b := b) (o := o) (ps := ps) _ PX trivial ?_
  refine J_return (()) Tryz.results51 (.cellA rfl ty104 HS CT (.tmp rfl .nil)) ?_ ?_
  · rfl
  · exact SU
theorem rtDropC {E : World} {l m : List As}  {b o : Nat} {ps : List (ID × Rq)} (hp : Pick (rtA b o ps) l m) {i : ID} :
    Con Tryz.prog 87 #[.pointer (some ⟨b, o, none⟩), .agg (encI i).toArray] E l (fun _ : Unit => .bool (look ps i).isSome) (fun _ => rtA b o (del ps i) :: m) := by
  refine Con.body (vs := [.pointer (some ⟨b, o, none⟩), .agg (encI i).toArray]) (n := 15) Tryz.func87 rfl rfl [(0, .pointer (some ⟨b, o, none⟩)), (1, .agg (encI i).toArray)] (env_ok 2 rfl) <| J_pick hp <| sr <| L_op <| x_box rfl rfl rfl fun b3 => ag rfl rfl <| nx <| mv rfl rfl ?_
  refine L_val rfl (v_loadA rfl ty39 HS CT) ?_
  refine L_op <| xc fc76 (.cons rfl (.cons rfl .nil)) rfl (rtHas (ps := ps) (i := i) PC) fun _ => ?_
  refine ag rfl rfl <| nq <| J_seq <| J_pick (A := rtA b o ps) PC ?_
  refine J_rtO fun ob _ => J_drawT 5 mixed (by kernel_rfl) <| sm rfl rfl <| sp rfl (p_nilCheck rfl) <| sp rfl (p_fieldAddr rfl fa120_0) <| S_val rfl (v_loadL rfl ty118 HS rfl (by exact rfl)) ?_
  refine S_val rfl (v_loadA rfl ty39 HS CT) ?_
  refine S_nil <| L_op <| x_delete (ek := kI) (ev := evQ) (a := i) rfl rfl ky39 Tryz.underlying118 PC ?_
  refine nx <| mv rfl rfl <| ag rfl rfl <| nq <| J_ret <| J_rtS (b := b) (o := o) (ps := del ps i) _ PX trivial ?_
  exact J_return (()) Tryz.results87 (.tmp rfl .nil) rfl SU
theorem cmpReq {E : World} {l : List As} {a b : Rq} :
    Con Tryz.prog 56 #[.agg (encQ a).toArray, .agg (encQ b).toArray] E l (fun _ : Unit => .int .i64 (cmpQ a b)) (fun _ => l) := by
  refine Con.body (vs := [.agg (encQ a).toArray, .agg (encQ b).toArray]) (n := 12) Tryz.func56 rfl rfl [(0, .agg (encQ a).toArray), (1, .agg (encQ b).toArray)] (env_ok 2 rfl) <| sr <| L_op <| x_box rfl rfl rfl fun b2 => L_op <| x_box rfl rfl rfl fun b3 => ag rfl rfl <| nx ?_
  refine fa rfl rfl fa104_0 <| fa rfl rfl fa39_1 <| L_val rfl (v_load rfl ty3 HS (by exact rfl)) ?_
  refine fa rfl rfl fa104_0 <| fa rfl rfl fa39_1 <| L_val rfl (v_load rfl ty3 HS (by exact rfl)) ?_
  refine L_op <| xc fc57 (.cons rfl (.cons rfl .nil)) rfl (cmpZC (x := a.id.2) (y := b.id.2)) fun _ => ag rfl rfl <| nq <| J_ret ?_
  refine J_return (()) Tryz.results56 (.tmp rfl .nil) ?_ ?_
  · rfl
  · exact SU
theorem reqSort {E : World} {l m : List As} {v : Value} {xs : List Rq} (hp : Pick (row 104 13 v (xs.map encQ)) l m) (hT : ∀ x ∈ xs, ∀ y ∈ xs, Go.Proofs.ltOf cmpQ x y = false → Go.Proofs.ltOf cmpQ y x = false → x = y) (hb : xs.length ≤ 1000000) :
    Con Tryz.prog 55 #[v, .func (.func 56) #[] #[]] E l (fun _ : Unit => .tuple #[]) (fun _ => row 104 13 v ((sortF cmpQ xs).map encQ) :: m) :=
  con_sortO Tryz.sortRq (fun w => ty104.isAgg w) (fun w => ty104.sizeOf w) (fun _ => rfl) (fun x v hv => by simp [encQ] at hv; rcases hv with rfl | rfl | rfl | rfl | rfl | rfl | rfl | rfl | rfl | rfl | rfl | rfl | rfl <;> rfl) cmpQ_swo hT (enters_of Tryz.func56 nm56 rfl) (fun x y W => cmpReq) hb hp
theorem rtOf {E : World} {l m : List As} {b o : Nat} {ps : List (ID × Rq)} (hp : Pick (rtA b o ps) l m) {g : Int} (hI : Ids ps) (hb : ps.length ≤ 100000) :
  Con Tryz.prog 26 #[.pointer (some ⟨b, o, none⟩), .int .i64 g] E l (fun v : Value => v) (fun v => row 104 13 v ((ofQ ps g).map encQ) :: rtA b o ps :: m) := by
 refine Con.body (vs := [.pointer (some ⟨b, o, none⟩), .int .i64 g]) (n := 29) Tryz.func26 rfl rfl [(0, .pointer (some ⟨b, o, none⟩)), (1, .int .i64 g)] (env_ok 2 rfl) <| J_pick hp <| J_rtO fun ob _ => sr <| ag rfl rfl <| nx <| ag rfl rfl <| J_nil (el := 104) (sz := 13) ?_
 refine nxx <| mv rfl rfl <| nc rfl rfl <| fa rfl rfl fa120_0 <| L_val rfl (v_loadL rfl ty118 HS rfl (by exact rfl)) ?_
 refine L_op <| x_range (ek := kI) (ev := evQ) rfl Tryz.underlying118 PC rfl fun r12 => ?_
 refine nq <| J_block <| J_rangeKeyd (ek := kI) (ev := evQ) (ps := ps) HS fun hK => ?_
 refine J_loop2 (fun done v => Come ps done) (fun done v => rangeA kI evQ (.map ob) r12 ps done :: row 104 13 v ((comeQ ps g done).map encQ) :: fld b o [.map ob] :: m) (fun done v => [(12, .pointer (some ⟨r12, 0, none⟩)), (5, v), (0, .pointer (some ⟨b, o, none⟩)), (1, .int .i64 g)]) (fun done v => ps.length - done.length) [] _ Come.nil SU KE ?_
 intro done v hC
 refine sr ?_
 refine L_op (x_next (ek := kI) (ev := evQ) rfl PC rfl (fun k13 u13 hm13 hn13 => ?_) (fun hd13 => ?_))
 have hlt := hC.lt hK hm13 hn13
 have hcl := comeQ_len ps g done
 refine L_pur rfl (p_extract rfl rfl) <| nq <| J_seq <| C_true rfl <| J_skip <| Q_then <| J_block <| sr ?_
 refine L_val rfl (v_entry (ek := kI) (ev := evQ) rfl HS (by simp) hm13) ?_
 refine L_pur rfl (p_extract rfl rfl) <| L_pur rfl (p_extract rfl rfl) <| L_op <| x_alloc ty39 rfl fun b6 => L_op <| x_alloc ty104 rfl fun b7 => L_op <| x_store rfl rfl ty39 rfl SM SM RO PT ?_
 refine L_op <| x_store rfl rfl ty104 rfl SM SM RO PT ?_
 refine nx <| fa rfl rfl fa39_0 <| L_val rfl (v_load rfl ty3 HS (by exact rfl)) ?_
 refine mv rfl rfl <| L_pur rfl (p_eql rfl rfl) <| nq ?_
 refine C_dec rfl (fun h21 => ?_) (fun h21 => ?_)
 refine J_region <| mv rfl rfl <| L_val rfl (v_loadA rfl ty104 HS CT) ?_
 refine L_op <| x_lit (vals := [_]) Tryz.underlying54 ty104 rfl (.cons rfl .nil) (.agg .nil) (Wf.cons rfl rfl Wf.nil) rfl (by decide) rfl rfl <| JR fun a24 c24 hw24 hl24 hm24 hz24 => L_op <| x_app rfl rfl Tryz.underlying54 ty104 rfl rfl PC (fun w H => sep_reads HS H) (by simp; omega) (by simp; omega) rfl <| JE ((comeQ ps g (done ++ [k13])).map encQ) (by rw [comeQ_on hK hm13 h21]; simp) fun a25 c25 hw25 hl25 hm25 hz25 => ag rfl rfl <| J_nil (el := 104) (sz := 13) ?_
 refine L_nil <| Q_blk_normal <| Q_then ?_
 
 exact J_again2 (done ++ [k13]) _ (by have := hC.lt hK hm13 hn13; simp; omega) (hC.step hm13 hn13) SU KE
 refine J_skip <| Q_blk_normal <| Q_then <| J_pick (A := row 104 13 _ _) PC ?_
 refine J_rowEq (ys := (comeQ ps g (done ++ [k13])).map encQ) (by rw [comeQ_off h21]) ?_
 exact J_again2 (done ++ [k13]) _ (by have := hC.lt hK hm13 hn13; simp; omega) (hC.step hm13 hn13) SU KE
 have hperm := comeQ_perm (g := g) hK (hC.perm hK hd13)
 have hlen : (comeQ ps g done).length ≤ 1000000 := by
  rw [hperm.length_eq]
  have h1 := ofQ_len ps g
  unfold ofQ at h1
  rw [sortF_len] at h1
  omega
 refine L_pur rfl (p_extract rfl rfl) <| nq <| J_seq <| C_false rfl <| J_exit <| Q_then_exit <| Q_then_exit <| Q_blk_this ?_
 refine qx <| mv rfl rfl <| L_op <| xc fc55 (.cons rfl (.cons rfl .nil)) rfl (reqSort (xs := comeQ ps g done) PC (ofQ_parts hK hI hperm) hlen) fun _ => ?_
 refine nx <| mv rfl rfl <| ag rfl rfl <| nq <| J_ret <| J_pick (A := row 104 13 v _) PC ?_
 refine J_rowEq (ys := (ofQ ps g).map encQ) (by rw [sortF_permOn cmpQ_swo (ofQ_parts hK hI hperm) hperm]; rfl) <| J_pick (A := rangeA kI evQ _ _ _ _) PC ?_
 refine J_rangeEnd <| J_rtS (b := b) (o := o) (ps := ps) _ PX trivial ?_
 exact J_return (v) Tryz.results26 (.tmp rfl .nil) rfl SU
theorem rtAddC {E : World} {l m : List As}  {b o : Nat} {ps : List (ID × Rq)} (hp : Pick (rtA b o ps) l m) {q : Rq} (hI : Ids ps) (hb : ps.length ≤ 100000) :
    Con Tryz.prog 45 #[.pointer (some ⟨b, o, none⟩), .agg (encQ q).toArray] E l (fun _ : Unit => .bool (addOk ps q)) (fun _ => rtA b o (addQ ps q) :: m) := by
  refine Con.body (vs := [.pointer (some ⟨b, o, none⟩), .agg (encQ q).toArray]) (n := 34) Tryz.func45 rfl rfl [(0, .pointer (some ⟨b, o, none⟩)), (1, .agg (encQ q).toArray)] (env_ok 2 rfl) <| J_pick hp <| sr <| L_op <| x_box rfl rfl rfl fun b3 => ag rfl rfl <| nxx <| mv rfl rfl ?_
  refine fa rfl rfl fa104_0 <| L_val rfl (v_loadA rfl ty39 HS CT) ?_
  refine L_op <| xc fc76 (.cons rfl (.cons rfl .nil)) rfl (rtHas (ps := ps) (i := q.id) PC) fun _ => ?_
  refine mv rfl rfl ?_
  refine J_gsplit (t := 9) rfl (fun h9 => ?_) (fun h9 => ?_)
  refine L_op <| G_off rfl rfl rfl rfl rfl rfl <| L_op <| G_off rfl rfl rfl rfl rfl rfl <| L_op <| G_off rfl rfl rfl rfl rfl rfl <| L_op <| G_off rfl rfl rfl rfl rfl rfl ?_
  refine L_op <| G_off rfl rfl rfl rfl rfl rfl <| L_op <| G_off rfl rfl rfl rfl rfl rfl <| L_op <| G_off rfl rfl rfl rfl rfl rfl <| L_pur rfl (p_pick_t rfl rfl) <| nq ?_
  refine C_true rfl <| sr <| ag rfl rfl <| nq <| J_ret <| Q_then_ret <| J_pick (A := rtA b o _) PC ?_
  refine J_asTo (B := rtA b o (addQ ps q)) (by simp_all [addQ, addOk]) ?_
  refine J_return (()) Tryz.results45 (.tmp rfl .nil) ?_ ?_
  · first | (simp_all [one, addOk]; done) | (simp_all [one, addOk] <;> omega)
  · exact SU
  refine L_op <| G_on rfl rfl rfl <| J_pur (p_move rfl) rfl rfl rfl <| L_op <| G_on rfl rfl rfl <| J_pur (p_fieldAddr rfl fa104_0) rfl rfl rfl <| L_op <| G_on rfl rfl rfl ?_
  refine J_pur (p_fieldAddr rfl fa39_0) rfl rfl rfl <| L_op <| G_on rfl rfl rfl <| J_val (v_load rfl ty3 HS (by exact rfl)) rfl rfl rfl ?_
  refine L_op <| G_on rfl rfl rfl <| xc fc26 (.cons rfl (.cons rfl .nil)) rfl (rtOf (ps := ps) (g := q.id.1) PC hI hb) <| JR fun a14 c14 hw14 hl14 hm14 hz14 => L_op <| G_on rfl rfl rfl <| J_pur (p_len rfl Tryz.underlying54) rfl rfl rfl <| J_slot (t := 15) (v := .int .i64 ((ofQ ps q.id.1).length : Int)) rfl (by simp) ?_
  refine L_op <| G_on rfl rfl rfl <| J_pur (p_geq rfl rfl) rfl rfl rfl ?_
  have hol := ofQ_len ps q.id.1
  refine L_pur rfl (p_pick_f rfl rfl) <| nq ?_
  refine C_dec rfl (fun h17 => ?_) (fun h17 => ?_)
  refine sr <| ag rfl rfl <| nq <| J_ret <| Q_then_ret <| J_pick (A := rtA b o _) PC ?_
  refine J_asTo (B := rtA b o (addQ ps q)) (by rw [show addQ ps q = ps from if_neg (by unfold addOk; simp; intro _; omega)]) ?_
  refine J_return (()) Tryz.results45 (.tmp rfl .nil) ?_ ?_
  · first | (simp_all [one, addOk]; done) | (simp_all [one, addOk] <;> omega)
  · exact SU
  refine J_skip <| Q_then <| J_seq <| J_seq <| J_pick (A := rtA b o ps) PC ?_
  refine J_rtO fun ob _ => J_region <| mv rfl rfl <| nc rfl rfl <| fa rfl rfl fa120_0 <| L_val rfl (v_loadL rfl ty118 HS rfl (by exact rfl)) ?_
  refine L_pur rfl (p_eqNilMap Tryz.underlying118 rfl) <| nq ?_
  refine C_split rfl (fun h22 => ?_) (fun h22 => ?_)
  obtain rfl : ob = none := by simpa using h22
  refine J_mapNone (ps := ps) HS fun hps => ?_
  subst hps
  refine J_region <| mv rfl rfl <| L_op <| x_makeMap (ek := kI) (ev := evQ) rfl fun b24 => nc rfl rfl <| fa rfl rfl fa120_0 <| L_op <| x_storeL rfl rfl ty118 rfl SM SM rfl RO rfl PT ?_
  refine nq <| J_seq <| J_drawT 7 mixed (by kernel_rfl) <| sm rfl rfl <| sp rfl (p_nilCheck rfl) <| sp rfl (p_fieldAddr rfl fa120_0) <| S_val rfl (v_loadL rfl ty118 HS rfl (by exact rfl)) ?_
  refine sp rfl (p_fieldAddr rfl fa104_0) <| S_val rfl (v_loadA rfl ty39 HS CT) ?_
  refine S_val rfl (v_loadA rfl ty104 HS CT) ?_
  refine S_nil <| L_op <| x_mapUpdate (ek := kI) (ev := evQ) (a := q.id) (c := q) rfl rfl rfl ky39 Tryz.underlying118 PC ?_
  refine nx <| ag rfl rfl <| nq <| J_ret <| J_rtS (b := b) (o := o) (ps := ins [] q.id q) _ PX trivial ?_
  refine J_pick (A := rtA b o _) PC ?_
  refine J_asTo (B := rtA b o (addQ [] q)) (by rw [show addQ [] q = ins [] q.id q from if_pos (by unfold addOk; simp at h9 h17 ⊢; exact ⟨h9, by omega⟩)]) ?_
  refine J_return (()) Tryz.results45 (.tmp rfl .nil) ?_ ?_
  · first | (simp_all [one, addOk]; done) | (simp_all [one, addOk] <;> omega)
  · exact SU
  obtain ⟨bm, rfl⟩ : ∃ bm, ob = some bm := by cases ob with | none => simp at h22 | some x => exact ⟨x, rfl⟩
  refine J_skip <| Q_then <| J_seq <| J_drawT 7 mixed (by kernel_rfl) <| sm rfl rfl <| sp rfl (p_nilCheck rfl) <| sp rfl (p_fieldAddr rfl fa120_0) <| S_val rfl (v_loadL rfl ty118 HS rfl (by exact rfl)) ?_
  refine sp rfl (p_fieldAddr rfl fa104_0) <| S_val rfl (v_loadA rfl ty39 HS CT) ?_
  refine S_val rfl (v_loadA rfl ty104 HS CT) ?_
  refine S_nil <| L_op <| x_mapUpdate (ek := kI) (ev := evQ) (a := q.id) (c := q) rfl rfl rfl ky39 Tryz.underlying118 PC ?_
  refine nx <| ag rfl rfl <| nq <| J_ret <| J_rtS (b := b) (o := o) (ps := ins ps q.id q) _ PX trivial ?_
  refine J_pick (A := rtA b o _) PC ?_
  refine J_asTo (B := rtA b o (addQ ps q)) (by rw [show addQ ps q = ins ps q.id q from if_pos (by unfold addOk; simp at h9 h17 ⊢; exact ⟨h9, by omega⟩)]) ?_
  refine J_return (()) Tryz.results45 (.tmp rfl .nil) ?_ ?_
  · first | (simp_all [one, addOk]; done) | (simp_all [one, addOk] <;> omega)
  · exact SU
theorem find_here {α : Type} {p : α → Bool} {xs : List α} {k : Nat} {c : α} (h0 : ∀ c ∈ xs.take k, p c = false) (h : xs[k]? = some c) (hc : p c = true) : xs.find? p = some c := by
  have hl := (List.getElem?_eq_some_iff.1 h).1
  have e : xs = xs.take k ++ c :: xs.drop (k + 1) := by
    rw [← (List.getElem?_eq_some_iff.1 h).2, ← List.drop_eq_getElem_cons hl, List.take_append_drop]
  rw [e, List.find?_append, List.find?_eq_none.2 (fun x hx => by simp [h0 x hx]), List.find?_cons, hc]; rfl
theorem find_gone {α : Type} {p : α → Bool} {xs : List α} (h0 : ∀ c ∈ xs, p c = false) : xs.find? p = none := List.find?_eq_none.2 fun x hx => by simp [h0 x hx]
theorem rtAfterC {E : World} {l m : List As}  {b o : Nat} {ps : List (ID × Rq)} (hp : Pick (rtA b o ps) l m) {i : ID} (hI : Ids ps) (hb : ps.length ≤ 100000) :
    Con Tryz.prog 90 #[.pointer (some ⟨b, o, none⟩), .agg (encI i).toArray] E l (fun _ : Unit => .tuple #[evQ ((afterQ ps i).getD q00), .bool (afterQ ps i).isSome]) (fun _ => rtA b o ps :: m) := by
  refine Con.body (vs := [.pointer (some ⟨b, o, none⟩), .agg (encI i).toArray]) (n := 25) Tryz.func90 rfl rfl [(0, .pointer (some ⟨b, o, none⟩)), (1, .agg (encI i).toArray)] (env_ok 2 rfl) <| J_pick hp <| sr <| L_op <| x_box rfl rfl rfl fun b3 => L_op <| x_alloc ty104 rfl fun b4 => ag rfl rfl ?_
  refine nxx <| mv rfl rfl <| fa rfl rfl fa39_0 <| L_val rfl (v_load rfl ty3 HS (by exact rfl)) ?_
  refine L_op <| xc fc26 (.cons rfl (.cons rfl .nil)) rfl (rtOf (ps := ps) (g := i.1) PC hI hb) <| JR fun a11 c11 hw11 hl11 hm11 hz11 => ?_
  have hol := ofQ_len ps i.1
  obtain ⟨xs, hxs⟩ : ∃ xs, xs = ofQ ps i.1 := ⟨_, rfl⟩
  refine J_pick (A := row 104 13 _ _) PC ?_
  refine J_rowTo (ys := xs.map encQ) (v' := .slice a11 (xs.map encQ).length c11) (by rw [hxs]) (by rw [hxs]) <| J_slot (t := 11) (v := .slice a11 (xs.map encQ).length c11) rfl (by rw [hxs]) ?_
  rw [← hxs] at hol hz11
  have hm : c11 ≤ 9223372036854775807 := hm11
  have hml : (xs.map encQ).length = xs.length := List.length_map _
  refine L_pur rfl (p_len rfl Tryz.underlying54) <| mv rfl rfl <| nq <| J_block <| J_loop (α := Nat) (fun k => k ≤ xs.length ∧ ∀ c ∈ xs.take k, decide (c.prev = i.2) = false) (fun _ => row 104 13 (.slice a11 (xs.map encQ).length c11) (xs.map encQ) :: blk b3 39 (encI i) :: blk b4 104 (encQ q00) :: rtA b o ps :: m) (fun k => [(13, .int .i64 (k : Int)), (11, .slice a11 (xs.map encQ).length c11), (12, .int .i64 ((xs.map encQ).length : Int)), (3, .pointer (some ⟨b3, 0, none⟩)), (4, .pointer (some ⟨b4, 0, none⟩))]) (fun k => xs.length - k) 0 ⟨by omega, by simp⟩ SU KE ?_
  intro k hk
  obtain ⟨hk, h0⟩ := hk
  refine sr <| L_pur rfl (p_lss rfl rfl) <| nq <| J_seq ?_
  refine C_dec rfl (fun h14 => ?_) (fun h14 => ?_)
  have hlt : k < xs.length := by omega
  obtain ⟨bx, ox, rfl⟩ := hz11 (by intro h; rw [h] at hml; simp at hml; omega)
  obtain ⟨c, hcc⟩ : ∃ c, xs[k]? = some c := ⟨_, List.getElem?_eq_getElem hlt⟩
  refine J_skip <| Q_then <| J_seq <| J_block <| sr <| L_pur rfl (p_indexAddr rfl rfl Tryz.underlying54 ty104 (by omega) (by omega)) ?_
  refine L_val rfl (v_loadE rfl ty104 HS (by first | (simp only [Int.toNat_natCast, List.getElem?_map, hcc]; rfl) | (simp only [Int.toNat_natCast, List.getElem?_map, hcd]; rfl) | simp | rfl)) ?_
  refine L_op <| x_alloc ty104 rfl fun b7 => L_op <| x_store rfl rfl ty104 rfl SM SM RO PT ?_
  refine nx <| fa rfl rfl fa104_2 <| L_val rfl (v_load rfl ty3 HS (by exact rfl)) ?_
  refine fa rfl rfl fa39_1 <| L_val rfl (v_load rfl ty3 HS (by exact rfl)) ?_
  refine L_pur rfl (p_eql rfl rfl) <| nq ?_
  refine C_dec rfl (fun h21 => ?_) (fun h21 => ?_)
  have haf : afterQ ps i = some c := by unfold afterQ; rw [← hxs]; exact find_here h0 hcc (by simpa using h21)
  refine sr <| L_val rfl (v_loadA rfl ty104 HS CT) ?_
  refine L_op <| x_store rfl rfl ty104 rfl SM SM RO PT ?_
  refine ag rfl rfl <| nq <| J_ret <| Q_blk_ret <| Q_then_ret <| Q_then_ret <| Q_blk_ret <| Q_then_ret ?_
  refine J_return (()) Tryz.results90 (.cellA rfl ty104 HS CT (.tmp rfl .nil)) ?_ ?_
  · rw [haf]; rfl
  · exact SU
  refine J_skip <| Q_blk_normal <| qr <| L_pur rfl (p_add64 rfl rfl (by omega)) <| mv rfl rfl <| nq ?_
  exact J_again (k + 1) (by omega) (⟨by omega, take_false_succ h0 hcc (by simpa using h21)⟩) SU KE
  have haf : afterQ ps i = none := by
    unfold afterQ; rw [← hxs]
    exact find_gone (by rw [show k = xs.length by omega, List.take_length] at h0; exact h0)
  refine J_exit <| Q_then_exit <| Q_then_exit <| Q_blk_this <| qx <| L_pur rfl (bld104 .nil (by repeat constructor)) <| L_op <| x_store rfl rfl ty104 rfl SM SM RO PT ?_
  refine ag rfl rfl <| nq <| J_ret ?_
  refine J_return (()) Tryz.results90 (.cellA rfl ty104 HS CT (.tmp rfl .nil)) ?_ ?_
  · rw [haf]; rfl
  · exact SU
end Go.Pse
namespace Go.Pse
open Go.RowKit Go.Proofs
/-! ### plain: numbers in bytes -/
def le4 (n : Int) : List Int := [n % 256, n / 256 % 256, n / 65536 % 256, n / 16777216 % 256]
def putB (bs : List Int) (a : Nat) (ys : List Int) : List Int := bs.take a ++ ys ++ bs.drop (a + ys.length)
def byteAt (bs : List Int) (k : Nat) : Int := (bs[k]?).getD 0
def getN (bs : List Int) (a : Nat) : Nat → Int
  | 0 => 0
  | i + 1 => getN bs a i + byteAt bs (a + i) * 2 ^ (8 * i)
def Bytes (bs : List Int) : Prop := ∀ x ∈ bs, 0 ≤ x ∧ x ≤ 255
theorem byteAt_is {bs : List Int} (h : Bytes bs) (k : Nat) : 0 ≤ byteAt bs k ∧ byteAt bs k ≤ 255 := by
  unfold byteAt
  cases hk : bs[k]? with
  | none => simp
  | some x => exact h x (List.mem_of_getElem? hk)
theorem getN_is {bs : List Int} (h : Bytes bs) (a : Nat) : ∀ i, 0 ≤ getN bs a i ∧ getN bs a i < 2 ^ (8 * i)
  | 0 => by simp [getN]
  | i + 1 => by
    have h1 := getN_is h a i
    have h2 := byteAt_is h (a + i)
    have h3 : (2 : Int) ^ (8 * (i + 1)) = 256 * 2 ^ (8 * i) := by rw [show 8 * (i + 1) = 8 * i + 8 by omega, Int.pow_add]; omega
    have h4 : (0 : Int) < 2 ^ (8 * i) := Int.pow_pos (by omega)
    have h5 : byteAt bs (a + i) * 2 ^ (8 * i) ≤ 255 * 2 ^ (8 * i) := Int.mul_le_mul_of_nonneg_right h2.2 (by omega)
    have h6 : 0 ≤ byteAt bs (a + i) * 2 ^ (8 * i) := Int.mul_nonneg h2.1 (by omega)
    rw [getN, h3]
    omega
theorem or_nat {x y : Nat} (k : Nat) (hx : x < 2 ^ k) (hs : y * 2 ^ k < 4294967296) (hxs : x < 4294967296) : bits .or .u32 (x : Int) ((y * 2 ^ k : Nat) : Int) = ((x + y * 2 ^ k : Nat) : Int) := by
  rw [u32_or_nat x _ hxs hs, Nat.or_comm, Nat.mul_comm y, ← Nat.two_pow_add_eq_or_of_lt hx, Nat.add_comm]
theorem or_step {x y : Int} {i : Nat} (hi : i < 4) (hx : 0 ≤ x ∧ x < 2 ^ (8 * i)) (hy : 0 ≤ y ∧ y ≤ 255) : bits .or .u32 x (IntKind.u32.wrap (IntKind.u32.wrap y * 2 ^ (8 * (i : Int)).toNat)) = x + y * 2 ^ (8 * i) := by
  obtain ⟨h1, h2⟩ := hx
  obtain ⟨X, rfl⟩ := Int.eq_ofNat_of_zero_le h1
  obtain ⟨Y, rfl⟩ := Int.eq_ofNat_of_zero_le hy.1
  rw [show (8 * (i : Int)).toNat = 8 * i by omega, wrap32u_of (a := (Y : Int)) (by omega)]
  have hX : X < 2 ^ (8 * i) := by exact_mod_cast h2
  have e : ((Y : Int) * 2 ^ (8 * i)) = ((Y * 2 ^ (8 * i) : Nat) : Int) := by push_cast; rfl
  rw [e]
  have hb : Y * 2 ^ (8 * i) < 4294967296 ∧ X < 4294967296 := by
    have : i = 0 ∨ i = 1 ∨ i = 2 ∨ i = 3 := by omega
    rcases this with rfl | rfl | rfl | rfl <;> simp at hX ⊢ <;> omega
  rw [wrap32u_of (by omega), or_nat _ hX hb.1 hb.2]
  push_cast; rfl
theorem putB_nil {bs : List Int} {a : Nat} : putB bs a [] = bs := by simp [putB]
theorem putB_len {bs ys : List Int} {a : Nat} (h : a + ys.length ≤ bs.length) : (putB bs a ys).length = bs.length := by
  simp [putB]; omega
theorem putB_snoc {bs ys : List Int} {a : Nat} {y : Int} (h : a + ys.length < bs.length) : (putB bs a ys).set (a + ys.length) y = putB bs a (ys ++ [y]) := by
  unfold putB
  rw [List.drop_eq_getElem_cons h, List.set_append_right _ _ (by simp; omega), show a + ys.length - (List.take a bs ++ ys).length = 0 by simp; omega, List.set_cons_zero]
  simp [Nat.add_assoc]
theorem putB_bytes {bs ys : List Int} {a : Nat} (h : Bytes bs) (hy : Bytes ys) : Bytes (putB bs a ys) := fun x hx => by
  unfold putB at hx
  rcases List.mem_append.1 hx with h1 | h1
  · rcases List.mem_append.1 h1 with h2 | h2
    · exact h x (List.mem_of_mem_take h2)
    · exact hy x h2
  · exact h x (List.mem_of_mem_drop h1)
theorem le4_bytes (n : Int) : Bytes (le4 n) := fun x hx => by
  simp [le4] at hx
  rcases hx with rfl | rfl | rfl | rfl <;> omega
theorem le4_at (n : Int) {i : Nat} (h : i < 4) : (le4 n)[i]? = some (n / 2 ^ (8 * i) % 256) := by
  have : i = 0 ∨ i = 1 ∨ i = 2 ∨ i = 3 := by omega
  rcases this with rfl | rfl | rfl | rfl <;> simp [le4]
theorem wrap_u8 (n : Int) : IntKind.u8.wrap n = n % 256 := by simp [IntKind.wrap, IntKind.bits, IntKind.signed]
theorem put_step {bs : List Int} {a i : Nat} {n : Int} (hi : i < 4) (ha : a + 4 ≤ bs.length) :
    ((putB bs a ((le4 n).take i)).map encU).set ((a : Int) + (i : Int)).toNat [.int .u8 (IntKind.u8.wrap (n / 2 ^ (8 * (i : Int)).toNat))] = (putB bs a ((le4 n).take (i + 1))).map encU := by
  have hl : ((le4 n).take i).length = i := by simp [le4]; omega
  rw [List.take_add_one, le4_at n hi, Option.toList_some, ← putB_snoc (by omega), List.map_set, hl, show ((a : Int) + (i : Int)).toNat = a + i by omega, show (8 * (i : Int)).toNat = 8 * i by omega, wrap_u8]
  rfl
theorem getN_part {bs : List Int} {a : Nat} : getN ((bs.drop a).take 4) 0 4 = getN bs a 4 := by
  have h : ∀ k, k < 4 → byteAt ((bs.drop a).take 4) (0 + k) = byteAt bs (a + k) := fun k hk => by
    unfold byteAt; rw [List.getElem?_take_of_lt (by omega), List.getElem?_drop]; simp
  simp only [getN, h 0 (by omega), h 1 (by omega), h 2 (by omega), h 3 (by omega)]
theorem part_bytes {bs : List Int} {a n : Nat} (h : Bytes bs) : Bytes ((bs.drop a).take n) := fun x hx => h x (List.mem_of_mem_drop (List.mem_of_mem_take hx))
theorem clone306 {E : World} {l : List As} {v : Value} {xs : List (List Value)} (hr : ∀ w, Sep E w l → Reads w 1 v xs) (hb : xs.length ≤ 1000000) :
    Con Tryz.prog 306 #[v] E l (fun v' : Value => v') (fun v' => row 5 1 v' xs :: l) := by
  refine Con.body (vs := [v]) (n := 8) Tryz.func306 rfl rfl [(0, v)] (env_ok 1 rfl) <| J_reads hr fun hw a cap hv h1 h2 h3 => ?_
  subst hv
  refine sr <| ag rfl rfl <| nxx <| mv rfl rfl <| L_pur rfl (p_eqnil Tryz.underlying268 rfl) <| nq ?_
  refine C_split rfl (fun h4 => ?_) (fun h4 => ?_)
  obtain rfl : a = none := by simpa using h4
  obtain ⟨rfl, rfl⟩ := h3 rfl
  refine J_nil (el := 5) (sz := 1) <| sr <| ag rfl rfl <| nq <| J_ret <| Q_then_ret ?_
  exact J_return (_) Tryz.results306 (.tmp rfl .nil) rfl SU
  refine J_skip <| qx <| L_op <| x_lit (vals := []) Tryz.underlying268 ty5 rfl .nil .nil Wf.nil rfl (by decide) rfl rfl <| JR fun a5 c5 hw5 hl5 hm5 hz5 => mv rfl rfl <| L_op <| x_app rfl rfl Tryz.underlying268 ty5 rfl rfl PC (fun w H => hr w H.tail) (OM) (OM) rfl ?_
  refine JR fun a7 c7 hw7 hl7 hm7 hz7 => ag rfl rfl <| nq <| J_ret ?_
  exact J_return (_) Tryz.results306 (.tmp rfl .nil) rfl SU
theorem getC {E : World} {l : List As} {v : Value} {bs : List Int} {a : Nat} (hr : ∀ w, Sep E w l → Reads w 1 v (bs.map encU)) (ha : a + 4 ≤ bs.length) (hl : bs.length ≤ 1000000) (hB : Bytes bs) :
    Con Tryz.prog 307 #[v, .int .i64 (a : Int), .int .i64 4] E l (fun _ : Unit => .int .u32 (getN bs a 4)) (fun _ => l) := by
  refine Con.body (vs := [v, .int .i64 (a : Int), .int .i64 4]) (n := 39) Tryz.func307 rfl rfl [(0, v), (1, .int .i64 (a : Int)), (2, .int .i64 4)] (env_ok 3 rfl) <| J_readsB hr fun hw ad cap hv h1 h2 h3 => ?_
  subst hv
  have hm : cap ≤ 9223372036854775807 := h2
  have hml : (bs.map encU).length = bs.length := List.length_map _
  refine sr <| ag rfl rfl <| nx <| ag rfl rfl <| nxx <| mv rfl rfl <| mv rfl rfl <| nq ?_
  refine J_block <| J_loop (α := Nat) (fun i => i ≤ 4) (fun _ => l) (fun i => [(10, .int .i64 (i : Int)), (9, .int .i64 4), (7, .int .u32 (getN bs a i)), (0, .slice ad (bs.map encU).length cap), (1, .int .i64 (a : Int))]) (fun i => 4 - i) 0 (by omega) SU KE ?_
  intro i hi
  refine sr <| L_pur rfl (p_lss rfl rfl) <| nq <| J_seq ?_
  refine C_dec rfl (fun h11 => ?_) (fun h11 => ?_)
  have hlt : a + i < bs.length := by omega
  obtain ⟨bx, ox, rfl⟩ := h3 (by intro h; rw [h] at hml; simp at hml; omega)
  obtain ⟨c, hcc⟩ : ∃ c, bs[a + i]? = some c := ⟨_, List.getElem?_eq_getElem hlt⟩
  have hcB := hB c (List.mem_of_getElem? hcc)
  have hgN := getN_is hB a i
  refine J_skip <| Q_then <| J_seq <| J_block <| sr <| mv rfl rfl <| ag rfl rfl <| nx ?_
  refine mv rfl rfl <| mv rfl rfl <| L_pur rfl (p_neg64 rfl (by omega)) <| L_pur rfl (p_geq rfl rfl) <| mv rfl rfl <| J_bool (t := 17) (c := true) rfl (by first | (simp; omega) | simp) <| L_op <| G_on rfl rfl rfl ?_
  refine J_pur (p_move rfl) rfl rfl rfl <| L_op <| G_on rfl rfl rfl <| J_pur (p_move rfl) rfl rfl rfl <| L_op <| G_on rfl rfl rfl <| J_pur (p_len rfl Tryz.underlying268) rfl rfl rfl <| L_op <| G_on rfl rfl rfl ?_
  refine J_pur (p_move rfl) rfl rfl rfl <| L_op <| G_on rfl rfl rfl <| J_pur (p_sub64 rfl rfl (by omega)) rfl rfl rfl <| L_op <| G_on rfl rfl rfl <| J_pur (p_lss rfl rfl) rfl rfl rfl <| L_pur rfl (p_pick_t rfl rfl) ?_
  refine nq <| J_bool (t := 24) (c := true) rfl (by first | (simp; omega) | simp) <| C_true rfl <| J_region <| mv rfl rfl <| mv rfl rfl <| mv rfl rfl <| mv rfl rfl ?_
  refine L_pur rfl (p_add64 rfl rfl (by omega)) <| L_pur rfl (p_indexAddr rfl rfl Tryz.underlying268 ty5 (by omega) (by simp; omega)) ?_
  refine L_val rfl (v_loadR1 rfl ty5 (fun w H => hr w H) (by rw [show ((a : Int) + (i : Int)).toNat = a + i by omega, List.getElem?_map, hcc]; rfl)) ?_
  refine L_pur rfl (p_conv rfl Tryz.underlying5 Tryz.underlying22) <| mv rfl rfl <| L_pur rfl (p_mul64 rfl rfl (by omega)) <| L_pur rfl (p_shl rfl rfl (by omega) (by have : (IntKind.u32.bits : Int) = 32 := rfl; omega)) <| L_pur rfl (p_or rfl rfl) <| J_slot (t := 36) (v := .int .u32 (getN bs a (i + 1))) rfl (by rw [or_step (by omega) hgN hcB, getN, byteAt, hcc]; rfl) <| ag rfl rfl <| L_nil ?_
  refine Q_blk_normal <| qr <| L_pur rfl (p_add64 rfl rfl (by omega)) <| mv rfl rfl <| nq ?_
  exact J_again (i + 1) (by omega) (by omega) SU KE
  have hi4 : i = 4 := by omega
  subst hi4
  refine J_exit <| Q_then_exit <| Q_then_exit <| Q_blk_this <| qx <| mv rfl rfl <| ag rfl rfl <| nq ?_
  refine J_ret ?_
  refine J_return (()) Tryz.results307 (.tmp rfl .nil) ?_ ?_
  · rfl
  · exact SU
theorem putC {E : World} {l : List As} {v : Value} {bs : List Int} {a : Nat} (hr : ∀ w, Sep E w l → Reads w 1 v (bs.map encU)) (ha : a + 4 ≤ bs.length) (hl : bs.length ≤ 1000000) {n : Int} :
  Con Tryz.prog 298 #[v, .int .i64 (a : Int), .int .i64 4, .int .u32 n] E l (fun v' : Value => v') (fun v' => row 5 1 v' ((putB bs a (le4 n)).map encU) :: l) := by
 refine Con.body (vs := [v, .int .i64 (a : Int), .int .i64 4, .int .u32 n]) (n := 41) Tryz.func298 rfl rfl [(0, v), (1, .int .i64 (a : Int)), (2, .int .i64 4), (3, .int .u32 n)] (env_ok 4 rfl) <| J_readsB hr fun hw ad cap hv h1 h2 h3 => ?_
 subst hv
 have hm : cap ≤ 9223372036854775807 := h2
 have hml : (bs.map encU).length = bs.length := List.length_map _
 refine sr <| ag rfl rfl <| nx <| mv rfl rfl <| L_op <| xc fc306 (.cons rfl .nil) rfl (clone306 (xs := bs.map encU) (fun w H => hr w H) (by simpa using hl)) <| JR fun a12 c12 hw12 hl12 hm12 hz12 => ?_
 obtain ⟨bq, oq, rfl⟩ := hz12 (by intro h; rw [h] at hml; simp at hml; omega)
 have hmq : c12 ≤ 9223372036854775807 := hm12
 refine ag rfl rfl <| nxx <| mv rfl rfl <| mv rfl rfl <| J_pick (A := row 5 1 _ _) PC ?_
 refine J_rowEq (ys := (putB bs a ((le4 n).take 0)).map encU) (by rw [List.take_zero, putB_nil]) <| nq <| J_block <| J_loop (α := Nat) (fun i => i ≤ 4) (fun i => row 5 1 (.slice (some ⟨bq, oq, none⟩) (bs.map encU).length c12) ((putB bs a ((le4 n).take i)).map encU) :: l) (fun i => [(14, .int .i64 (i : Int)), (13, .int .i64 4), (9, .slice (some ⟨bq, oq, none⟩) (bs.map encU).length c12), (0, .slice ad (bs.map encU).length cap), (1, .int .i64 (a : Int)), (3, .int .u32 n)]) (fun i => 4 - i) 0 (by omega) SU KE ?_
 intro i hi
 refine sr <| L_pur rfl (p_lss rfl rfl) <| nq <| J_seq ?_
 refine C_dec rfl (fun h15 => ?_) (fun h15 => ?_)
 have hpl : ((putB bs a ((le4 n).take i)).map encU).length = bs.length := by rw [List.length_map, putB_len (by simp [le4]; omega)]
 refine J_skip <| Q_then <| J_seq <| J_block <| sr <| mv rfl rfl <| ag rfl rfl <| nx ?_
 refine mv rfl rfl <| mv rfl rfl <| L_pur rfl (p_neg64 rfl (by omega)) <| L_pur rfl (p_geq rfl rfl) <| mv rfl rfl <| J_bool (t := 21) (c := true) rfl (by first | (simp; omega) | simp) <| L_op <| G_on rfl rfl rfl ?_
 refine J_pur (p_move rfl) rfl rfl rfl <| L_op <| G_on rfl rfl rfl <| J_pur (p_move rfl) rfl rfl rfl <| L_op <| G_on rfl rfl rfl <| J_pur (p_len rfl Tryz.underlying268) rfl rfl rfl <| L_op <| G_on rfl rfl rfl ?_
 refine J_pur (p_move rfl) rfl rfl rfl <| L_op <| G_on rfl rfl rfl <| J_pur (p_sub64 rfl rfl (by omega)) rfl rfl rfl <| L_op <| G_on rfl rfl rfl <| J_pur (p_lss rfl rfl) rfl rfl rfl <| L_pur rfl (p_pick_t rfl rfl) ?_
 refine nq <| J_bool (t := 28) (c := true) rfl (by first | (simp; omega) | simp) <| C_true rfl <| J_region <| mv rfl rfl <| mv rfl rfl <| mv rfl rfl <| L_pur rfl (p_add64 rfl rfl (by omega)) ?_
 refine mv rfl rfl <| mv rfl rfl <| L_pur rfl (p_mul64 rfl rfl (by omega)) <| L_pur rfl (p_shr rfl rfl (by omega) (by have : (IntKind.u32.bits : Int) = 32 := rfl; omega)) <| L_pur rfl (p_conv rfl Tryz.underlying22 Tryz.underlying5) <| L_pur rfl (p_indexAddr rfl rfl Tryz.underlying268 ty5 (by omega) (by simp; omega)) <| L_op <| x_storeE rfl rfl ty5 rfl SM SM PC (by omega) ?_
 refine J_rowEq (ys := (putB bs a ((le4 n).take (i + 1))).map encU) (put_step (by omega) ha) <| L_nil <| Q_blk_normal <| qr <| L_pur rfl (p_add64 rfl rfl (by omega)) <| mv rfl rfl <| nq ?_
 exact J_again (i + 1) (by omega) (by omega) SU KE
 have hi4 : i = 4 := by omega
 subst hi4
 refine J_pick (A := row 5 1 _ _) PC ?_
 refine J_rowEq (ys := (putB bs a (le4 n)).map encU) (by rfl) <| J_exit <| Q_then_exit <| Q_then_exit <| Q_blk_this <| qx <| mv rfl rfl <| ag rfl rfl ?_
 refine nq <| J_ret ?_
 exact J_return (_) Tryz.results298 (.tmp rfl .nil) rfl SU
theorem u32C {E : World} {l : List As} {v : Value} {bs : List Int} {a : Nat} (hr : ∀ w, Sep E w l → Reads w 1 v (bs.map encU)) (ha : a + 4 ≤ bs.length) (hl : bs.length ≤ 1000000) (hB : Bytes bs) :
    Con Tryz.prog 296 #[v, .int .i64 (a : Int)] E l (fun _ : Unit => .int .u32 (getN bs a 4)) (fun _ => l) := by
  refine Con.body (vs := [v, .int .i64 (a : Int)]) (n := 8) Tryz.func296 rfl rfl [(0, v), (1, .int .i64 (a : Int))] (env_ok 2 rfl) <| sr <| ag rfl rfl <| nx <| mv rfl rfl <| mv rfl rfl <| L_op <| xc fc307 (.cons rfl (.cons rfl (.cons rfl .nil))) rfl (getC hr ha hl hB) fun _ => ?_
  refine ag rfl rfl <| nq <| J_ret ?_
  exact J_return (()) Tryz.results296 (.tmp rfl .nil) rfl SU
theorem put32C {E : World} {l : List As} {v : Value} {bs : List Int} {a : Nat} (hr : ∀ w, Sep E w l → Reads w 1 v (bs.map encU)) (ha : a + 4 ≤ bs.length) (hl : bs.length ≤ 1000000) {n : Int} :
    Con Tryz.prog 280 #[v, .int .i64 (a : Int), .int .u32 n] E l (fun v' : Value => v') (fun v' => row 5 1 v' ((putB bs a (le4 n)).map encU) :: l) := by
  refine Con.body (vs := [v, .int .i64 (a : Int), .int .u32 n]) (n := 11) Tryz.func280 rfl rfl [(0, v), (1, .int .i64 (a : Int)), (2, .int .u32 n)] (env_ok 3 rfl) <| sr <| ag rfl rfl <| nx <| mv rfl rfl <| mv rfl rfl <| mv rfl rfl <| L_op <| xc fc298 (.cons rfl (.cons rfl (.cons rfl (.cons rfl .nil)))) rfl (putC hr ha hl) ?_
  refine JR fun a10 c10 hw10 hl10 hm10 hz10 => ag rfl rfl <| nq <| J_ret ?_
  exact J_return (_) Tryz.results280 (.tmp rfl .nil) rfl SU
theorem shl32_small : ∀ k : Nat, k ≤ 8 → IntKind.u32.wrap (1 * 2 ^ (k : Int).toNat) = 2 ^ k ∧ IntKind.u32.wrap ((2 : Int) ^ k - 1) = 2 ^ k - 1 := by decide
theorem and_mask {n : Int} {k : Nat} (hk : k ≤ 8) (hn : 0 ≤ n ∧ n < 4294967296) : bits .and .u32 n (2 ^ k - 1) = n % 2 ^ k := by
  obtain ⟨X, rfl⟩ := Int.eq_ofNat_of_zero_le hn.1
  have h2 : 1 ≤ 2 ^ k ∧ 2 ^ k ≤ 256 := ⟨Nat.one_le_two_pow, by have : (2 : Nat) ^ k ≤ 2 ^ 8 := Nat.pow_le_pow_right (by omega) hk; omega⟩
  have e : ((2 : Int) ^ k - 1) = ((2 ^ k - 1 : Nat) : Int) := by rw [Int.ofNat_sub h2.1]; push_cast; rfl
  rw [e, u32_and_nat X _ (by omega) (by omega), Nat.and_two_pow_sub_one_eq_mod]
  push_cast; rfl
theorem maskC {E : World} {l : List As} {k : Nat} (hk : k ≤ 8) :
    Con Tryz.prog 297 #[.int .i64 0, .int .i64 (k : Int)] E l (fun _ : Unit => .int .u32 (2 ^ k - 1)) (fun _ => l) := by
  refine Con.body (vs := [.int .i64 0, .int .i64 (k : Int)]) (n := 21) Tryz.func297 rfl rfl [(0, .int .i64 0), (1, .int .i64 (k : Int))] (env_ok 2 rfl) <| sr <| ag rfl rfl <| nxx <| mv rfl rfl <| L_pur rfl (p_lss rfl rfl) <| mv rfl rfl <| J_bool (t := 7) (c := false) rfl (rfl) ?_
  refine L_op <| G_on rfl rfl rfl <| J_pur (p_move rfl) rfl rfl rfl <| L_op <| G_on rfl rfl rfl <| J_pur (p_geq rfl rfl) rfl rfl rfl <| L_pur rfl (p_pick_f rfl rfl) <| mv rfl rfl ?_
  refine J_bool (t := 11) (c := false) rfl (rfl) <| L_op <| G_on rfl rfl rfl <| J_pur (p_move rfl) rfl rfl rfl <| L_op <| G_on rfl rfl rfl <| J_pur (p_lss rfl rfl) rfl rfl rfl <| L_pur rfl (p_pick_f rfl rfl) ?_
  refine nq ?_
  refine C_split rfl (fun h14 => ?_) (fun h14 => ?_)
  obtain rfl : k = 0 := by simp at h14; omega
  refine sr <| ag rfl rfl <| nq <| J_ret <| Q_then_ret ?_
  refine J_return (()) Tryz.results297 (.tmp rfl .nil) ?_ ?_
  · rfl
  · exact SU
  have hk1 : 1 ≤ k := by simp at h14; omega
  refine J_skip <| qx <| mv rfl rfl <| mv rfl rfl <| L_pur rfl (p_sub64 rfl rfl (by omega)) <| L_pur rfl (p_min rfl rfl) <| J_slot (t := 18) (v := .int .i64 (k : Int)) rfl (by congr 1; simp; omega) <| L_pur rfl (p_shl rfl rfl (by omega) (by have : (IntKind.u32.bits : Int) = 32 := rfl; omega)) ?_
  refine J_slot (t := 19) (v := .int .u32 (2 ^ k)) rfl (by rw [(shl32_small k hk).1]) <| L_pur rfl (p_sub rfl rfl) <| J_slot (t := 20) (v := .int .u32 (2 ^ k - 1)) rfl (by rw [(shl32_small k hk).2]) <| ag rfl rfl <| nq <| J_ret ?_
  refine J_return (()) Tryz.results297 (.tmp rfl .nil) ?_ ?_
  · rfl
  · exact SU
theorem fieldC {E : World} {l : List As} {n : Int} {k : Nat} (hk : k ≤ 8) (hn : 0 ≤ n ∧ n < 4294967296) :
    Con Tryz.prog 279 #[.int .u32 n, .int .i64 0, .int .i64 (k : Int)] E l (fun _ : Unit => .int .u32 (n % 2 ^ k)) (fun _ => l) := by
  refine Con.body (vs := [.int .u32 n, .int .i64 0, .int .i64 (k : Int)]) (n := 18) Tryz.func279 rfl rfl [(0, .int .u32 n), (1, .int .i64 0), (2, .int .i64 (k : Int))] (env_ok 3 rfl) <| sr <| ag rfl rfl <| nx <| mv rfl rfl <| mv rfl rfl <| L_op <| xc fc297 (.cons rfl (.cons rfl .nil)) rfl (maskC hk) fun _ => ?_
  refine ag rfl rfl <| nxx <| mv rfl rfl <| L_pur rfl (p_eql rfl rfl) <| nq ?_
  refine C_dec rfl (fun h12 => ?_) (fun h12 => ?_)
  have hk0 : n % 2 ^ k = 0 := by
    have : (2 : Int) ^ k = 1 := by omega
    rw [this]; omega
  refine sr <| ag rfl rfl <| nq <| J_ret <| Q_then_ret ?_
  refine J_return (()) Tryz.results279 (.tmp rfl .nil) ?_ ?_
  · rw [hk0]; rfl
  · exact SU
  refine J_skip <| qx <| mv rfl rfl <| mv rfl rfl <| L_pur rfl (p_shr rfl rfl (by omega) (by decide)) <| J_slot (t := 15) (v := .int .u32 n) rfl (by simp) <| mv rfl rfl <| L_pur rfl (p_and rfl rfl) ?_
  refine J_slot (t := 17) (v := .int .u32 (n % 2 ^ k)) rfl (by rw [and_mask hk hn]) <| ag rfl rfl <| nq <| J_ret ?_
  refine J_return (()) Tryz.results279 (.tmp rfl .nil) ?_ ?_
  · rfl
  · exact SU
theorem mod_small {n : Int} {k : Nat} (hk : k ≤ 4) : 0 ≤ n % 2 ^ k ∧ n % 2 ^ k ≤ 15 := by
  have h2 : (1 : Int) ≤ 2 ^ k ∧ (2 : Int) ^ k ≤ 16 := by
    have : k = 0 ∨ k = 1 ∨ k = 2 ∨ k = 3 ∨ k = 4 := by omega
    rcases this with rfl | rfl | rfl | rfl | rfl <;> decide
  have h3 := Int.emod_nonneg n (b := 2 ^ k) (by omega)
  have h4 := Int.emod_lt_of_pos n (b := 2 ^ k) (by omega)
  omega
theorem placeC {E : World} {l : List As} {n : Int} {k : Nat} (hk : k ≤ 4) (hn : 0 ≤ n ∧ n < 4294967296) :
    Con Tryz.prog 254 #[.int .u32 n, .int .i64 (k : Int), .int .i64 16] E l (fun _ : Unit => .int .i64 (16 + n % 2 ^ k * 16)) (fun _ => l) := by
  refine Con.body (vs := [.int .u32 n, .int .i64 (k : Int), .int .i64 16]) (n := 14) Tryz.func254 rfl rfl [(0, .int .u32 n), (1, .int .i64 (k : Int)), (2, .int .i64 16)] (env_ok 3 rfl) <| sr <| ag rfl rfl <| nx <| mv rfl rfl <| mv rfl rfl <| L_op <| xc fc279 (.cons rfl (.cons rfl (.cons rfl .nil))) rfl (fieldC (k := k) (n := n) (by omega) hn) fun _ => ?_
  have hms := mod_small (n := n) hk
  refine L_pur rfl (p_conv rfl Tryz.underlying22 Tryz.underlying3) <| J_slot (t := 10) (v := .int .i64 (n % 2 ^ k)) rfl (by rw [wrap64_of (by omega)]) <| mv rfl rfl <| L_pur rfl (p_mul64 rfl rfl (by omega)) <| L_pur rfl (p_add64 rfl rfl (by omega)) <| ag rfl rfl <| nq <| J_ret ?_
  refine J_return (()) Tryz.results254 (.tmp rfl .nil) ?_ ?_
  · rfl
  · exact SU
theorem distC {E : World} {l : List As} {x y : Int} :
    Con Tryz.prog 277 #[.int .u32 x, .int .u32 y] E l (fun _ : Unit => .int .u32 (IntKind.u32.wrap (x - y))) (fun _ => l) := by
  refine Con.body (vs := [.int .u32 x, .int .u32 y]) (n := 8) Tryz.func277 rfl rfl [(0, .int .u32 x), (1, .int .u32 y)] (env_ok 2 rfl) <| sr <| ag rfl rfl <| nx <| mv rfl rfl <| mv rfl rfl <| L_pur rfl (p_sub rfl rfl) <| ag rfl rfl ?_
  refine nq <| J_ret ?_
  refine J_return (()) Tryz.results277 (.tmp rfl .nil) ?_ ?_
  · rfl
  · exact SU
def bytesX (c : Cqe) : List Int := le4 c.1 ++ le4 (IntKind.u32.wrap c.2.1) ++ le4 c.2.2.1 ++ le4 c.2.2.2
def z16 : List Int := List.replicate 16 0
theorem bytesX_len (c : Cqe) : (bytesX c).length = 16 := rfl
theorem bytesX_bytes (c : Cqe) : Bytes (bytesX c) := fun x hx => by
  simp only [bytesX, List.mem_append] at hx
  rcases hx with ((h | h) | h) | h <;> exact le4_bytes _ x h
theorem bytesX_put (c : Cqe) : putB (putB (putB (putB z16 0 (le4 c.1)) 4 (le4 (IntKind.u32.wrap c.2.1))) 8 (le4 c.2.2.1)) 12 (le4 c.2.2.2) = bytesX c := rfl
def ofD (d : Deed) : Cqe := (d.2.1, IntKind.i32.wrap d.2.2.2.1, d.2.2.2.2.1, IntKind.u32.wrap d.1.2)
theorem bytesC {E : World} {l : List As} {c : Cqe} :
    Con Tryz.prog 255 #[.agg (encX c).toArray] E l (fun v : Value => v) (fun v => row 5 1 v ((bytesX c).map encU) :: l) := by
  refine Con.body (vs := [.agg (encX c).toArray]) (n := 21) Tryz.func255 rfl rfl [(0, .agg (encX c).toArray)] (env_ok 1 rfl) <| sr <| L_op <| x_box rfl rfl rfl fun b1 => ag rfl rfl <| nq <| J_seq <| J_drawL none mixed ?_
  refine ip 1 rfl rfl rfl rfl (p_fieldAddr rfl fa298_0) <| iv 2 rfl rfl rfl rfl (fun _ => v_load rfl ty22 HS (by exact rfl)) ?_
  refine i1 0 rfl <| x_make (len := 16) rfl rfl Tryz.underlying268 ty5 rfl rfl (by simp) (by simp) rfl rfl <| JE (z16.map encU) (by rfl) fun a4 c4 hw4 hl4 hm4 hz4 => i1 3 rfl <| xc fc280 (.cons rfl (.cons rfl (.cons rfl .nil))) rfl (put32C (a := 0) (bs := z16) (fun w H => sep_reads (xs := z16.map encU) HS H) (show 4 ≤ 16 by decide) (show 16 ≤ 1000000 by decide)) <| JR fun a7 c7 hw7 hl7 hm7 hz7 => ip 4 rfl rfl rfl rfl (p_assign rfl) <| i0 ?_
  refine qx <| mv rfl rfl <| fa rfl rfl fa298_1 <| L_val rfl (v_load rfl ty21 HS (by exact rfl)) ?_
  refine L_pur rfl (p_conv rfl Tryz.underlying21 Tryz.underlying22) <| L_op <| xc fc280 (.cons rfl (.cons rfl (.cons rfl .nil))) rfl (put32C (a := 4) (bs := (putB z16 0 (le4 c.1))) (fun w H => sep_reads (xs := (putB z16 0 (le4 c.1)).map encU) HS H) (show 8 ≤ 16 by decide) (show 16 ≤ 1000000 by decide)) <| JR fun a12 c12 hw12 hl12 hm12 hz12 => ag rfl rfl <| nx <| mv rfl rfl <| fa rfl rfl fa298_2 ?_
  refine L_val rfl (v_load rfl ty22 HS (by exact rfl)) ?_
  refine L_op <| xc fc280 (.cons rfl (.cons rfl (.cons rfl .nil))) rfl (put32C (a := 8) (bs := (putB (putB z16 0 (le4 c.1)) 4 (le4 (IntKind.u32.wrap c.2.1)))) (fun w H => sep_reads (xs := (putB (putB z16 0 (le4 c.1)) 4 (le4 (IntKind.u32.wrap c.2.1))).map encU) HS H) (show 12 ≤ 16 by decide) (show 16 ≤ 1000000 by decide)) <| JR fun a16 c16 hw16 hl16 hm16 hz16 => ag rfl rfl <| nx <| mv rfl rfl <| fa rfl rfl fa298_3 <| L_val rfl (v_load rfl ty22 HS (by exact rfl)) ?_
  refine L_op <| xc fc280 (.cons rfl (.cons rfl (.cons rfl .nil))) rfl (put32C (a := 12) (bs := (putB (putB (putB z16 0 (le4 c.1)) 4 (le4 (IntKind.u32.wrap c.2.1))) 8 (le4 c.2.2.1))) (fun w H => sep_reads (xs := (putB (putB (putB z16 0 (le4 c.1)) 4 (le4 (IntKind.u32.wrap c.2.1))) 8 (le4 c.2.2.1)).map encU) HS H) (show 16 ≤ 16 by decide) (show 16 ≤ 1000000 by decide)) <| JE ((bytesX c).map encU) (by rw [bytesX_put]) fun a20 c20 hw20 hl20 hm20 hz20 => ag rfl rfl <| nq <| J_ret ?_
  exact J_return (_) Tryz.results255 (.tmp rfl .nil) rfl SU
theorem compOfC {E : World} {l : List As} {d : Deed} :
    Con Tryz.prog 137 #[.agg (encD d).toArray] E l (fun _ : Unit => .agg (encX (ofD d)).toArray) (fun _ => l) := by
  refine Con.body (vs := [.agg (encD d).toArray]) (n := 15) Tryz.func137 rfl rfl [(0, .agg (encD d).toArray)] (env_ok 1 rfl) <| sr <| L_op <| x_box rfl rfl rfl fun b1 => L_op <| x_alloc ty298 rfl fun b2 => nx <| fa rfl rfl fa41_1 ?_
  refine L_val rfl (v_load rfl ty22 HS (by exact rfl)) ?_
  refine fa rfl rfl fa41_3 <| L_val rfl (v_load rfl ty3 HS (by exact rfl)) ?_
  refine L_pur rfl (p_conv rfl Tryz.underlying3 Tryz.underlying21) <| fa rfl rfl fa41_4 <| L_val rfl (v_load rfl ty22 HS (by exact rfl)) ?_
  refine fa rfl rfl fa41_0 <| fa rfl rfl fa39_1 <| L_val rfl (v_load rfl ty3 HS (by exact rfl)) ?_
  refine L_pur rfl (p_conv rfl Tryz.underlying3 Tryz.underlying22) <| L_pur rfl (bld298 (.cons rfl (.cons rfl (.cons rfl (.cons rfl .nil)))) (by repeat constructor)) <| L_op <| x_store rfl rfl ty298 rfl SM SM RO PT ?_
  refine nq <| J_ret ?_
  refine J_return (()) Tryz.results137 (.cellA rfl ty298 HS CT .nil) ?_ ?_
  · rfl
  · exact SU
end Go.Pse
namespace Go.Pse
open Go.RowKit
section
variable {P : Program} {ops : Array Oper} {Q : Exit → Act → World → Prop} {E : World} {l l' m : List As} {n : Nat} {F : Env} {K : Act → World → Prop}
variable {d : Nat} {T : TypeId} {p : String} {e : Array Edge} {g : Option (Nat × Bool)} {dst : Option Tmp} {t : TypeId} {x y z : Operand} {u v : Value}
theorem run_copy_sz {w : World} {sT ty el : TypeId} {gb o dl dc sl sc sz by_ : Nat} {agg : Bool} {zs : List Value} {a : Addr} {cur : Array Value} {bt : TypeId} {cs : List Value} (hu : P.underlying sT = some (.slice el)) (hT : Ty P el sz by_ agg zs)
    (hg : w.heap[gb]? = some (.cells cur bt (0, 0))) (hn : cs.length = Nat.min sl dl * sz) (hsrc : ∀ j v, cs[j]? = some v → w.cell? (a.add j) = some v) (hfit : o + cs.length ≤ cur.size) (h1 : ∀ v ∈ cs, v.oneCell' = true) :
    (Builtin.copy_ #[sT, sT] ty #[.slice (some ⟨gb, o, none⟩) dl dc, .slice (some a) sl sc]).run P w =
      .ok (.int .i64 (Nat.min sl dl : Nat)) (w.setRow gb (cur.toList.take o ++ cs ++ cur.toList.drop (o + cs.length)).toArray) := by
  have hl := run_loadCells_list (P := P) w a cs hsrc
  have hst := run_storeCells_at P gb o bt cs 0 cur w hg (by simpa using hfit) h1
  simp only [Nat.add_zero] at hst
  simp [Builtin.copy_, run_underlying hu, Builtin.lenOf, Builtin.firstCells, hT.sizeOf, ← hn, hl, hst, goInt]
theorem run_copy_nothing {w : World} {sT ty el : TypeId} {dl dc sl sc sz by_ : Nat} {agg : Bool} {zs : List Value} {a b : Option Addr} (hu : P.underlying sT = some (.slice el)) (hT : Ty P el sz by_ agg zs) (h0 : Nat.min sl dl = 0) :
    (Builtin.copy_ #[sT, sT] ty #[.slice b dl dc, .slice a sl sc]).run P w = .ok (.int .i64 (0 : Nat)) w := by
  have h0' : min sl dl = 0 := h0
  cases a <;> cases b <;> simp [Builtin.copy_, run_underlying hu, Builtin.lenOf, Builtin.firstCells, hT.sizeOf, h0', loadCells, loadCellsFrom, storeCells, goInt]
theorem copy_op {sT : TypeId} {v v2 : Value} {r : Value} {w w' : World} (hx : evl F x = some v) (hy : evl F y = some v2) (hd : Nat.blt d n = true) {a : Act} (hF : Fr n F a)
    (hrun : (Builtin.copy_ #[sT, sT] T #[v, v2]).run P w = .ok r w') (hs : Sep E w' l') (k : Jk E l' n ((d, r) :: F) K) :
    if Region.wanted (⟨some d, .call { callee := .builtin .copy, args := #[x, y], argTypes := #[sT, sT] }, T, p, e, none⟩ : Oper) (yielded ops a.tmps) = true then (⟨some d, .call { callee := .builtin .copy, args := #[x, y], argTypes := #[sT, sT] }, T, p, e, none⟩ : Oper).wp P a w K Q else K (a.put (some d) undef) w := by
  have hw : Region.wanted (⟨some d, .call { callee := .builtin .copy, args := #[x, y], argTypes := #[sT, sT] }, T, p, e, none⟩ : Oper) (yielded ops a.tmps) = true := rfl
  rw [if_pos hw]
  unfold Oper.wp
  have : (execOp a.eval ⟨some d, .call { callee := .builtin .copy, args := #[x, y], argTypes := #[sT, sT] }, T, p, e, none⟩).run P w = .ok (.value r) w' := by
    simp [execOp, resolve, invoke, builtin, hF.evl hx, hF.evl hy, hrun]
  rw [this]
  exact k w' _ hs (hF.put hd)
theorem x_copyTo {el sT : TypeId} {b o len cap sz by_ k0 dl dc : Nat} {agg : Bool} {zs : List Value} {xs ys : List (List Value)} {v2 : Value} (hx : evl F x = some (.slice (if cap = k0 then some ⟨b, o, none⟩ else (some (⟨b, o, none⟩ : Addr)).map (·.add (k0 * sz))) dl dc)) (hy : evl F y = some v2)
    (ht : P.underlying sT = some (.slice el)) (hT : Ty P el sz by_ agg zs) (hp : Pick (row el sz (.slice (some ⟨b, o, none⟩) len cap) xs) l m) (hr : ∀ w, Sep E w l → Reads w sz v2 ys) (hi : ys.length ≤ dl) (hk : k0 + ys.length ≤ xs.length) (hd : Nat.blt d n = true)
    (k : Jk E (row el sz (.slice (some ⟨b, o, none⟩) len cap) (xs.take k0 ++ ys ++ xs.drop (k0 + ys.length)) :: m) n ((d, .int .i64 (ys.length : Nat)) :: F) K) :
    Jop P ops Q ⟨some d, .call { callee := .builtin .copy, args := #[x, y], argTypes := #[sT, sT] }, T, p, e, none⟩ E l n F K := fun w a H hF => by
  have hrd := hr w H
  obtain ⟨a2, c2, hv2, hc2, hc2', hn2, ha2⟩ := hrd.is
  have H' := H.pick hp
  obtain ⟨S, hS⟩ := H'.head
  obtain ⟨C, hC, hl, hlc, hsz⟩ := row_block hS
  have hyl := hrd.wf.len
  subst hv2
  by_cases h0 : ys = []
  · subst h0
    refine copy_op hx hy hd hF (w' := w) (r := .int .i64 (0 : Nat)) (run_copy_nothing ht hT (by simp)) ?_ k
    simpa using H'
  · have hpos : 0 < ys.length := List.length_pos_iff.2 h0
    have hne : cap ≠ k0 := by omega
    rw [if_neg hne] at hx
    simp only [Option.map_some, Addr.add_lit] at hx
    cases a2 with
    | none => exact absurd (hn2 rfl).1 h0
    | some ad =>
      have hmul : k0 * sz + ys.length * sz ≤ xs.length * sz := by rw [← Nat.add_mul]; exact Nat.mul_le_mul_right _ hk
      have hmul2 : xs.length * sz ≤ cap * sz := Nat.mul_le_mul_right _ (by omega)
      have hrun := run_copy_sz (P := P) (w := w) (ty := T) (o := o + k0 * sz) (dl := dl) (dc := dc) (sl := ys.length) (sc := c2) (a := ad) (cs := ys.flatten) ht hT hC (by rw [hyl]; congr 1; exact (Nat.min_eq_left hi).symm) (ha2 ad rfl).2 (by rw [hyl]; omega) hrd.wf.one
      have hmin : Nat.min ys.length dl = ys.length := Nat.min_eq_left hi
      rw [hmin] at hrun
      exact copy_op hx hy hd hF hrun (H'.rep .here setRow_same (row_splice hC hrd.wf hk)) k
/-! ### two rows lie apart -/
end
end Go.Pse
namespace Go.Pse
open Go.RowKit Go.Proofs
theorem lset_same {α : Type} {xs : List α} {i : Nat} {y : α} (h : xs[i]? = some y) : xs.set i y = xs := by
  obtain ⟨hl, rfl⟩ := List.getElem?_eq_some_iff.1 h
  exact List.set_getElem_self hl
theorem snd_at {xs : List (Value × List Int)} {ms : List (List Int)} {u : Nat} {r : List Int} (h : xs.map Prod.snd = ms) (hr : ms[u]? = some r) : ∃ v, xs[u]? = some (v, r) := by
  subst h
  rw [List.getElem?_map] at hr
  obtain ⟨⟨v, x⟩, h1, rfl⟩ := Option.map_eq_some_iff.1 hr
  exact ⟨v, h1⟩
theorem fst_set {xs : List (Value × List Int)} {u : Nat} {v : Value} {r r' : List Int} (h : xs[u]? = some (v, r)) : ((xs.set u (v, r')).map fun x => [x.1]) = xs.map fun x => [x.1] := by
  rw [List.map_set]
  exact lset_same (by rw [List.getElem?_map, h]; rfl)
theorem partC {E : World} {l : List As} {b u off n br orr len cr : Nat} {v : Value} {ms : List Int} {xs : List (Value × List Int)} (hb : Has (blk b 267 [v]) l) (hv : Has (row 268 1 v (xs.map fun x => [x.1])) l) (hx : xs[u]? = some (.slice (some ⟨br, orr, none⟩) len cr, ms)) (hxl : xs.length ≤ 64) (ho : off + n ≤ 512) (hc : 512 ≤ cr) :
    Con Tryz.prog 274 #[.pointer (some ⟨b, 0, none⟩), .int .i64 ((u : Int) + 1), .int .i64 (off : Int), .int .i64 (n : Int)] E l (fun _ : Unit => .tuple #[.slice (if cr = off then some ⟨br, orr, none⟩ else (some (⟨br, orr, none⟩ : Addr)).map (·.add (off * 1))) n (cr - off), .bool true]) (fun _ => l) := by
  refine Con.body (vs := [.pointer (some ⟨b, 0, none⟩), .int .i64 ((u : Int) + 1), .int .i64 (off : Int), .int .i64 (n : Int)]) (n := 52) Tryz.func274 rfl rfl [(0, .pointer (some ⟨b, 0, none⟩)), (1, .int .i64 ((u : Int) + 1)), (2, .int .i64 (off : Int)), (3, .int .i64 (n : Int))] (env_ok 4 rfl) ?_
  have hxu := (List.getElem?_eq_some_iff.1 hx).1
  refine J_row hv fun hw a cap hv' h1 h2 h3 => ?_
  have hml : (xs.map fun x : Value × List Int => [x.1]).length = xs.length := List.length_map _
  obtain ⟨bx, ox, rfl⟩ := h3 (by intro h; rw [h] at hml; simp at hml; omega)
  subst hv'
  have hm : cap ≤ 9223372036854775807 := h2
  refine sr <| ag rfl rfl <| ag rfl rfl <| nxx <| mv rfl rfl <| L_pur rfl (p_lss rfl rfl) <| mv rfl rfl <| J_bool (t := 12) (c := false) rfl (by first | (simp; omega) | simp) ?_
  refine L_op <| G_on rfl rfl rfl <| J_pur (p_move rfl) rfl rfl rfl <| L_op <| G_on rfl rfl rfl <| J_pur (p_move rfl) rfl rfl rfl <| L_op <| G_on rfl rfl rfl ?_
  refine J_pur (p_nilCheck rfl) rfl rfl rfl <| L_op <| G_on rfl rfl rfl <| J_pur (p_fieldAddr rfl fa267_0) rfl rfl rfl <| L_op <| G_on rfl rfl rfl <| J_val (v_load rfl ty265 HS (by exact rfl)) rfl rfl rfl ?_
  refine L_op <| G_on rfl rfl rfl <| J_pur (p_len rfl Tryz.underlying265) rfl rfl rfl <| L_op <| G_on rfl rfl rfl <| J_pur (p_gtr rfl rfl) rfl rfl rfl <| L_pur rfl (p_pick_f rfl rfl) <| mv rfl rfl ?_
  refine J_bool (t := 21) (c := false) rfl (by first | (simp; omega) | simp) <| L_op <| G_on rfl rfl rfl <| J_pur (p_move rfl) rfl rfl rfl <| L_op <| G_on rfl rfl rfl <| J_pur (p_lss rfl rfl) rfl rfl rfl <| L_pur rfl (p_pick_f rfl rfl) ?_
  refine mv rfl rfl <| J_bool (t := 25) (c := false) rfl (by first | (simp; omega) | simp) <| L_op <| G_on rfl rfl rfl <| J_pur (p_move rfl) rfl rfl rfl <| L_op <| G_on rfl rfl rfl <| J_pur (p_lss rfl rfl) rfl rfl rfl ?_
  refine L_pur rfl (p_pick_f rfl rfl) <| mv rfl rfl <| J_bool (t := 29) (c := false) rfl (by first | (simp; omega) | simp) <| L_op <| G_on rfl rfl rfl <| J_pur (p_move rfl) rfl rfl rfl <| L_op <| G_on rfl rfl rfl ?_
  refine J_pur (p_gtr rfl rfl) rfl rfl rfl <| L_pur rfl (p_pick_f rfl rfl) <| mv rfl rfl <| J_bool (t := 33) (c := false) rfl (by first | (simp; omega) | simp) <| L_op <| G_on rfl rfl rfl <| J_pur (p_move rfl) rfl rfl rfl <| L_op <| G_on rfl rfl rfl ?_
  refine J_pur (p_move rfl) rfl rfl rfl <| L_op <| G_on rfl rfl rfl <| J_pur (p_sub64 rfl rfl (by omega)) rfl rfl rfl <| L_op <| G_on rfl rfl rfl <| J_pur (p_gtr rfl rfl) rfl rfl rfl <| L_pur rfl (p_pick_f rfl rfl) ?_
  refine nq <| J_bool (t := 38) (c := false) rfl (by first | (simp; omega) | simp) <| C_false rfl <| J_skip <| qx <| mv rfl rfl <| nc rfl rfl <| fa rfl rfl fa267_0 ?_
  refine L_val rfl (v_load rfl ty265 HS (by exact rfl)) ?_
  refine mv rfl rfl <| L_pur rfl (p_sub64 rfl rfl (by omega)) <| L_pur rfl (p_indexAddr rfl rfl Tryz.underlying265 ty268 (by omega) (by simp; omega)) ?_
  refine L_val rfl (v_loadE1 rfl ty268 hv (by rw [show ((u : Int) + 1 - 1).toNat = u by omega, List.getElem?_map, hx]; rfl)) ?_
  refine mv rfl rfl <| mv rfl rfl <| mv rfl rfl <| L_pur rfl (p_add64 rfl rfl (by omega)) <| L_pur rfl (p_slice rfl Tryz.underlying268 ty5 rfl rfl (by omega) (by omega) (by omega)) <| J_slot (t := 51) (v := .slice (if cr = off then some ⟨br, orr, none⟩ else (some (⟨br, orr, none⟩ : Addr)).map (·.add (off * 1))) n (cr - off)) rfl (by rw [show ((off : Int) + (n : Int)).toNat = off + n by omega, show ((off : Int)).toNat = off by omega, Nat.add_sub_cancel_left]) <| ag rfl rfl <| ag rfl rfl ?_
  refine nq <| J_ret ?_
  refine J_return (()) Tryz.results274 (.tmp rfl (.tmp rfl .nil)) ?_ ?_
  · rfl
  · exact SU
theorem readC {E : World} {l m : List As} {b u : Nat} {ms : List (List Int)} {r : List Int} (hp : Pick (memA b ms) l m) (hms : ms.length = 64) (hu : ms[u]? = some r) (hrl : r.length = 512) {off n : Nat} (ho : off + n ≤ 512) :
  Con Tryz.prog 295 #[.pointer (some ⟨b, 0, none⟩), .int .i64 ((u : Int) + 1), .int .i64 (off : Int), .int .i64 (n : Int)] E l (fun v : Value => .tuple #[v, .bool true]) (fun v => row 5 1 v (((r.drop off).take n).map encU) :: memA b ms :: m) := by
 refine Con.body (vs := [.pointer (some ⟨b, 0, none⟩), .int .i64 ((u : Int) + 1), .int .i64 (off : Int), .int .i64 (n : Int)]) (n := 23) Tryz.func295 rfl rfl [(0, .pointer (some ⟨b, 0, none⟩)), (1, .int .i64 ((u : Int) + 1)), (2, .int .i64 (off : Int)), (3, .int .i64 (n : Int))] (env_ok 4 rfl) <| J_pick hp <| J_memO fun v xs hxs => ?_
 have hxl : xs.length = 64 := by rw [← hms, ← show xs.map Prod.snd = ms from hxs, List.length_map]
 obtain ⟨vr, hx⟩ := snd_at hxs hu
 have hxu := (List.getElem?_eq_some_iff.1 hx).1
 refine J_pick (A := each memF xs) PC ?_
 refine J_eachOut hx <| J_asTo (B := row 5 1 vr (r.map encU)) (by rfl) <| J_row .here fun hwr ar cr hvr hr1 hr2 hr3 => ?_
 have hlr : (r.map encU).length = 512 := by rw [List.length_map]; exact hrl
 obtain ⟨br, orr, rfl⟩ := hr3 (by intro h; rw [h] at hlr; simp at hlr)
 subst hvr
 have hcr : cr ≤ 9223372036854775807 := hr2
 refine sr <| ag rfl rfl <| ag rfl rfl <| nx <| mv rfl rfl <| mv rfl rfl <| mv rfl rfl <| mv rfl rfl ?_
 refine L_op <| xc fc274 (.cons rfl (.cons rfl (.cons rfl (.cons rfl .nil)))) rfl (partC (len := (r.map encU).length) HS HS hx (by omega) ho (by omega)) fun _ => ?_
 refine mv rfl rfl <| L_pur rfl (p_extract rfl rfl) <| L_pur rfl (p_extract rfl rfl) <| ag rfl rfl <| ag rfl rfl <| nx <| mv rfl rfl <| L_op <| xc fc306 (.cons rfl .nil) rfl (clone306 (xs := (((r.map encU).drop off).take n)) (fun w H => ((sep_reads (xs := r.map encU) HS H).drop (lo := off) (by omega)).take (i := n) (by simp; omega)) (by simp; omega)) ?_
 refine JE (((r.drop off).take n).map encU) (by rw [List.map_take, List.map_drop]) fun a21 c21 hw21 hl21 hm21 hz21 => mv rfl rfl <| ag rfl rfl <| ag rfl rfl <| nq <| J_ret <| J_pick (A := row 5 1 (.slice (some ⟨br, orr, none⟩) (r.map encU).length cr) _) PC ?_
 refine J_asTo (B := memF (.slice (some ⟨br, orr, none⟩) (r.map encU).length cr, r)) (by rfl) <| J_pick (A := each memF _) PC ?_
 refine J_pick (A := memF _) PC ?_
 refine J_eachIn (.slice (some ⟨br, orr, none⟩) (r.map encU).length cr, r) hxu ?_
 skip
 refine J_pick (A := row 268 1 v _) PC ?_
 refine J_rowEq (ys := (xs.set u (.slice (some ⟨br, orr, none⟩) (r.map encU).length cr, r)).map fun x : Value × List Int => [x.1]) (fst_set hx).symm <| J_memS (b := b) (ms := (ms.set u r)) v (xs.set u (.slice (some ⟨br, orr, none⟩) (r.map encU).length cr, r)) PX (by show List.map Prod.snd _ = _; rw [List.map_set, show xs.map Prod.snd = ms from hxs]) ?_
 refine J_asTo (B := memA b ms) (by rw [lset_same hu]) ?_
 exact J_return (_) Tryz.results295 (.tmp rfl (.tmp rfl .nil)) rfl SU
theorem writeC {E : World} {l m : List As} {b u : Nat} {ms : List (List Int)} {r : List Int} (hp : Pick (memA b ms) l m) (hms : ms.length = 64) (hu : ms[u]? = some r) (hrl : r.length = 512) {off : Nat} {ys : List Int} {v' : Value} (hr : ∀ w, Sep E w m → Reads w 1 v' (ys.map encU)) (ho : off + ys.length ≤ 512) :
    Con Tryz.prog 253 #[.pointer (some ⟨b, 0, none⟩), .int .i64 ((u : Int) + 1), .int .i64 (off : Int), v'] E l (fun _ : Unit => .bool true) (fun _ => memA b (ms.set u (putB r off ys)) :: m) := by
  refine Con.body (vs := [.pointer (some ⟨b, 0, none⟩), .int .i64 ((u : Int) + 1), .int .i64 (off : Int), v']) (n := 24) Tryz.func253 rfl rfl [(0, .pointer (some ⟨b, 0, none⟩)), (1, .int .i64 ((u : Int) + 1)), (2, .int .i64 (off : Int)), (3, v')] (env_ok 4 rfl) <| J_readsB (fun w H => hr w (H.pick hp).tail) fun hw' a' cap' hv' h1' h2' h3' => ?_
  subst hv'
  refine J_pick hp <| J_memO fun v xs hxs => ?_
  have hxl : xs.length = 64 := by rw [← hms, ← show xs.map Prod.snd = ms from hxs, List.length_map]
  obtain ⟨vr, hx⟩ := snd_at hxs hu
  have hxu := (List.getElem?_eq_some_iff.1 hx).1
  refine J_pick (A := each memF xs) PC ?_
  refine J_eachOut hx <| J_asTo (B := row 5 1 vr (r.map encU)) (by rfl) <| J_row .here fun hwr ar cr hvr hr1 hr2 hr3 => ?_
  have hlr : (r.map encU).length = 512 := by rw [List.length_map]; exact hrl
  obtain ⟨br, orr, rfl⟩ := hr3 (by intro h; rw [h] at hlr; simp at hlr)
  subst hvr
  have hcr : cr ≤ 9223372036854775807 := hr2
  refine sr <| ag rfl rfl <| nx <| mv rfl rfl <| mv rfl rfl <| mv rfl rfl <| mv rfl rfl <| L_pur rfl (p_len rfl Tryz.underlying268) ?_
  refine J_slot (t := 16) (v := .int .i64 (ys.length : Int)) rfl (by simp) <| L_op <| xc fc274 (.cons rfl (.cons rfl (.cons rfl (.cons rfl .nil)))) rfl (partC (len := (r.map encU).length) (n := ys.length) HS HS hx (by omega) ho (by omega)) fun _ => ?_
  refine mv rfl rfl <| L_pur rfl (p_extract rfl rfl) <| L_pur rfl (p_extract rfl rfl) <| ag rfl rfl <| ag rfl rfl <| nx <| mv rfl rfl <| mv rfl rfl ?_
  refine L_op <| x_copyTo (k0 := off) (len := (r.map encU).length) (xs := r.map encU) (ys := ys.map encU) rfl rfl Tryz.underlying268 ty5 PC (fun w H => hr w (Sub.sep SU H)) (by simp) (by simp; omega) rfl ?_
  refine J_rowEq (ys := (putB r off ys).map encU) (by simp [putB]) <| nx <| mv rfl rfl <| ag rfl rfl <| nq <| J_ret <| J_pick (A := row 5 1 (.slice (some ⟨br, orr, none⟩) (r.map encU).length cr) _) PC ?_
  refine J_asTo (B := memF (.slice (some ⟨br, orr, none⟩) (r.map encU).length cr, putB r off ys)) (by rfl) <| J_pick (A := each memF _) PC ?_
  refine J_pick (A := memF _) PC ?_
  refine J_eachIn (.slice (some ⟨br, orr, none⟩) (r.map encU).length cr, putB r off ys) hxu ?_
  skip
  refine J_pick (A := row 268 1 v _) PC ?_
  refine J_rowEq (ys := (xs.set u (.slice (some ⟨br, orr, none⟩) (r.map encU).length cr, putB r off ys)).map fun x : Value × List Int => [x.1]) (fst_set hx).symm <| J_memS (b := b) (ms := (ms.set u (putB r off ys))) v (xs.set u (.slice (some ⟨br, orr, none⟩) (r.map encU).length cr, putB r off ys)) PX (by show List.map Prod.snd _ = _; rw [List.map_set, show xs.map Prod.snd = ms from hxs]) ?_
  refine J_return (()) Tryz.results253 (.tmp rfl .nil) ?_ ?_
  · rfl
  · exact SU
def rowAt (ms : List (List Int)) (u : Int) : List Int := (ms[(u - 1).toNat]?).getD []
structure MemOk (ms : List (List Int)) : Prop where
  len : ms.length = 64
  rows : ∀ r ∈ ms, r.length = 512 ∧ Bytes r
structure RgOk (r : Rg) : Prop where
  sq : 1 ≤ r.sq ∧ r.sq ≤ 64
  cq : 1 ≤ r.cq ∧ r.cq ≤ 64
  cb : 0 ≤ r.cb ∧ r.cb ≤ 4
  tail : 0 ≤ r.tail ∧ r.tail < 4294967296
theorem MemOk.at {ms : List (List Int)} (h : MemOk ms) {u : Int} (hu : 1 ≤ u ∧ u ≤ 64) : ms[(u - 1).toNat]? = some (rowAt ms u) ∧ (rowAt ms u).length = 512 ∧ Bytes (rowAt ms u) := by
  have hl : (u - 1).toNat < ms.length := by rw [h.len]; omega
  have e := List.getElem?_eq_getElem hl
  have e2 : rowAt ms u = ms[(u - 1).toNat] := by unfold rowAt; rw [e]; rfl
  exact ⟨by rw [e2]; exact e, by rw [e2]; exact h.rows _ (List.getElem_mem hl)⟩
theorem MemOk.put {ms : List (List Int)} (h : MemOk ms) {u : Nat} {r : List Int} (hr : r.length = 512 ∧ Bytes r) : MemOk (ms.set u r) := ⟨by rw [List.length_set, h.len], fun x hx => by
  rcases List.mem_or_eq_of_mem_set hx with h1 | h1
  · exact h.rows x h1
  · rw [h1]; exact hr⟩
def rgFar (r : Rg) (ms : List (List Int)) : Int := IntKind.u32.wrap (r.tail - getN (rowAt ms r.cq) 0 4)
def rgRoom (r : Rg) (ms : List (List Int)) : Int := if rgFar r ms > 2 ^ r.cb.toNat then 0 else 2 ^ r.cb.toNat - rgFar r ms
def rgWrOk (r : Rg) (ms : List (List Int)) : Bool := decide (rgFar r ms < 2 ^ r.cb.toNat)
def rgRow (r : Rg) (ms : List (List Int)) (c : Cqe) : List Int := putB (putB (rowAt ms r.cq) (16 + r.tail % 2 ^ r.cb.toNat * 16).toNat (bytesX c)) 4 (le4 (IntKind.u32.wrap (r.tail + 1)))
def rgUp (r : Rg) : Rg := { r with tail := IntKind.u32.wrap (r.tail + 1) }
def postOk (r : Rg) (ms : List (List Int)) : Bool := r.over.isEmpty && rgWrOk r ms
def postR (r : Rg) (ms : List (List Int)) (c : Cqe) : Rg := if postOk r ms then rgUp r else { r with over := r.over ++ [c] }
def postM (r : Rg) (ms : List (List Int)) (c : Cqe) : List (List Int) := if postOk r ms then ms.set (r.cq - 1).toNat (rgRow r ms c) else ms
theorem wrap32_in (n : Int) : 0 ≤ IntKind.u32.wrap n ∧ IntKind.u32.wrap n < 4294967296 := by
  have : IntKind.u32.wrap n = n % 4294967296 := by simp [IntKind.wrap, IntKind.bits, IntKind.signed]
  rw [this]; omega
theorem RgOk.up {r : Rg} (h : RgOk r) : RgOk (rgUp r) := ⟨h.sq, h.cq, h.cb, wrap32_in _⟩
theorem pow_cb {k : Int} (h : 0 ≤ k ∧ k ≤ 4) : (1 : Int) ≤ 2 ^ k.toNat ∧ (2 : Int) ^ k.toNat ≤ 16 ∧ IntKind.u32.wrap (1 * 2 ^ k.toNat) = 2 ^ k.toNat := by
  have : k = 0 ∨ k = 1 ∨ k = 2 ∨ k = 3 ∨ k = 4 := by omega
  rcases this with rfl | rfl | rfl | rfl | rfl <;> decide
theorem place_in {r : Rg} (h : RgOk r) : 0 ≤ r.tail % 2 ^ r.cb.toNat ∧ r.tail % 2 ^ r.cb.toNat ≤ 15 := by
  have h2 := pow_cb h.cb
  have h3 := Int.emod_nonneg r.tail (b := 2 ^ r.cb.toNat) (by omega)
  have h4 := Int.emod_lt_of_pos r.tail (b := 2 ^ r.cb.toNat) (by omega)
  omega
theorem rgRow_ok {r : Rg} {ms : List (List Int)} (h : RgOk r) (hM : MemOk ms) (c : Cqe) : (rgRow r ms c).length = 512 ∧ Bytes (rgRow r ms c) := by
  obtain ⟨h1, h2, h3⟩ := hM.at h.cq
  have h4 := place_in h
  have h5 : (putB (rowAt ms r.cq) (16 + r.tail % 2 ^ r.cb.toNat * 16).toNat (bytesX c)).length = 512 := by rw [putB_len (by rw [bytesX_len]; omega), h2]
  exact ⟨by unfold rgRow; rw [putB_len (by simp [le4]; omega), h5], putB_bytes (putB_bytes h3 (bytesX_bytes c)) (le4_bytes _)⟩
theorem postM_ok {r : Rg} {ms : List (List Int)} (h : RgOk r) (hM : MemOk ms) (c : Cqe) : MemOk (postM r ms c) := by
  unfold postM; split
  · exact hM.put (rgRow_ok h hM c)
  · exact hM
theorem postR_ok {r : Rg} {ms : List (List Int)} (h : RgOk r) (c : Cqe) : RgOk (postR r ms c) := by
  unfold postR; split
  · exact h.up
  · exact ⟨h.sq, h.cq, h.cb, h.tail⟩
theorem ringWord {E : World} {l m : List As} {b mb : Nat} {v : Value} {r : Rg} {ms : List (List Int)} (hp : Picks [blk b 320 [.pointer (some ⟨mb, 0, none⟩), .int .i64 r.sq, .int .i64 r.cq, .int .i64 r.sb, .int .i64 r.cb, .int .u32 r.head, .int .u32 r.tail, v], memA mb ms] l m) {x : List Int} {u : Nat} (hms : ms.length = 64) (hu : ms[u]? = some x) (hxl : x.length = 512) (hB : Bytes x) :
    Con Tryz.prog 278 #[.pointer (some ⟨b, 0, none⟩), .int .i64 ((u : Int) + 1), .int .i64 0] E l (fun _ : Unit => .int .u32 (getN x 0 4)) (fun _ => blk b 320 [.pointer (some ⟨mb, 0, none⟩), .int .i64 r.sq, .int .i64 r.cq, .int .i64 r.sb, .int .i64 r.cb, .int .u32 r.head, .int .u32 r.tail, v] :: memA mb ms :: m) := by
  refine Con.body (vs := [.pointer (some ⟨b, 0, none⟩), .int .i64 ((u : Int) + 1), .int .i64 0]) (n := 21) Tryz.func278 rfl rfl [(0, .pointer (some ⟨b, 0, none⟩)), (1, .int .i64 ((u : Int) + 1)), (2, .int .i64 0)] (env_ok 3 rfl) <| J_picks2 hp <| sr <| ag rfl rfl <| nx <| mv rfl rfl <| nc rfl rfl <| fa rfl rfl fa320_0 ?_
  refine L_val rfl (v_load rfl ty105 HS (by exact rfl)) ?_
  refine mv rfl rfl <| mv rfl rfl <| L_op <| xc fc295 (.cons rfl (.cons rfl (.cons rfl (.cons rfl .nil)))) rfl (readC (ms := ms) (u := u) (off := 0) (n := 4) PC hms hu hxl (by omega)) fun x16 => ?_
  refine mv rfl rfl <| L_pur rfl (p_extract rfl rfl) <| L_pur rfl (p_extract rfl rfl) <| ag rfl rfl <| ag rfl rfl <| nx <| mv rfl rfl <| L_op <| xc fc296 (.cons rfl (.cons rfl .nil)) rfl (u32C (a := 0) (bs := (x.drop 0).take 4) (fun w H => sep_reads (xs := ((x.drop 0).take 4).map encU) HS H) (by simp; omega) (by simp; omega) (part_bytes hB)) fun _ => ?_
  refine J_slot (t := 20) (v := .int .u32 (getN x 0 4)) rfl (by rw [getN_part]) <| ag rfl rfl <| nq <| J_ret ?_
  refine J_return (()) Tryz.results278 (.tmp rfl .nil) ?_ ?_
  · rfl
  · exact SU
theorem ringPuts {E : World} {l m : List As} {b mb : Nat} {v : Value} {r : Rg} {ms : List (List Int)} (hp : Picks [blk b 320 [.pointer (some ⟨mb, 0, none⟩), .int .i64 r.sq, .int .i64 r.cq, .int .i64 r.sb, .int .i64 r.cb, .int .u32 r.head, .int .u32 r.tail, v], memA mb ms] l m) {x : List Int} {n : Int} {u : Nat} (hms : ms.length = 64) (hu : ms[u]? = some x) (hxl : x.length = 512)  :
    Con Tryz.prog 256 #[.pointer (some ⟨b, 0, none⟩), .int .i64 ((u : Int) + 1), .int .i64 4, .int .u32 n] E l (fun _ : Unit => .tuple #[]) (fun _ => blk b 320 [.pointer (some ⟨mb, 0, none⟩), .int .i64 r.sq, .int .i64 r.cq, .int .i64 r.sb, .int .i64 r.cb, .int .u32 r.head, .int .u32 r.tail, v] :: memA mb (ms.set u (putB x 4 (le4 n))) :: m) := by
  refine Con.body (vs := [.pointer (some ⟨b, 0, none⟩), .int .i64 ((u : Int) + 1), .int .i64 4, .int .u32 n]) (n := 18) Tryz.func256 rfl rfl [(0, .pointer (some ⟨b, 0, none⟩)), (1, .int .i64 ((u : Int) + 1)), (2, .int .i64 4), (3, .int .u32 n)] (env_ok 4 rfl) <| J_picks2 hp <| J_drawL (some 9) mixed <| ip 0 rfl rfl rfl rfl (p_move rfl) <| ip 1 rfl rfl rfl rfl (p_nilCheck rfl) <| ip 2 rfl rfl rfl rfl (p_fieldAddr rfl fa320_0) <| iv 3 rfl rfl rfl rfl (fun _ => v_load rfl ty105 HS (by exact rfl)) ?_
  refine ip 4 rfl rfl rfl rfl (p_move rfl) <| ip 5 rfl rfl rfl rfl (p_move rfl) <| ip 7 rfl rfl rfl rfl (p_move rfl) <| i1 6 rfl <| x_make (len := 4) rfl rfl Tryz.underlying268 ty5 rfl rfl (by simp) (by simp) rfl rfl <| JE ((List.replicate 4 0).map encU) (by rfl) fun a14 c14 hw14 hl14 hm14 hz14 => i1 8 rfl <| xc fc280 (.cons rfl (.cons rfl (.cons rfl .nil))) rfl (put32C (a := 0) (bs := List.replicate 4 0) (fun w H => sep_reads (xs := (List.replicate 4 (0 : Int)).map encU) HS H) (by decide) (by decide)) ?_
  refine JE ((le4 n).map encU) (by rfl) fun a16 c16 hw16 hl16 hm16 hz16 => i1 9 rfl <| xc fc253 (.cons rfl (.cons rfl (.cons rfl (.cons rfl .nil)))) rfl (writeC (ms := ms) (u := u) (r := x) (off := 4) (ys := le4 n) PC hms hu hxl (fun w H => sep_reads (xs := (le4 n).map encU) HS H) (by simp [le4])) fun _ => ?_
  refine i0 <| J_endnormal ?_
  exact J_return (()) Tryz.results256 .nil rfl SU
theorem ringRoom {E : World} {l m : List As} {b mb : Nat} {v : Value} {r : Rg} {ms : List (List Int)} (hp : Picks [blk b 320 [.pointer (some ⟨mb, 0, none⟩), .int .i64 r.sq, .int .i64 r.cq, .int .i64 r.sb, .int .i64 r.cb, .int .u32 r.head, .int .u32 r.tail, v], memA mb ms] l m) (hR : RgOk r) (hM : MemOk ms) :
    Con Tryz.prog 252 #[.pointer (some ⟨b, 0, none⟩)] E l (fun _ : Unit => .tuple #[.int .i64 (rgRoom r ms), .bool (!decide (rgFar r ms > 2 ^ r.cb.toNat))]) (fun _ => blk b 320 [.pointer (some ⟨mb, 0, none⟩), .int .i64 r.sq, .int .i64 r.cq, .int .i64 r.sb, .int .i64 r.cb, .int .u32 r.head, .int .u32 r.tail, v] :: memA mb ms :: m) := by
  refine Con.body (vs := [.pointer (some ⟨b, 0, none⟩)]) (n := 29) Tryz.func252 rfl rfl [(0, .pointer (some ⟨b, 0, none⟩))] (env_ok 1 rfl) <| J_picks2 hp ?_
  obtain ⟨hu, hxl, hB⟩ := hM.at hR.cq
  obtain ⟨x, hx⟩ : ∃ x, x = rowAt ms r.cq := ⟨_, rfl⟩
  obtain ⟨u, huq⟩ : ∃ u : Nat, r.cq = (u : Int) + 1 := ⟨(r.cq - 1).toNat, by have := hR.cq; omega⟩
  have hu1 : (r.cq - 1).toNat = u := by omega
  rw [← hx, hu1] at hu
  rw [← hx] at hxl hB
  have hcb := pow_cb hR.cb
  have hcr := hR.cb
  refine sr <| ag rfl rfl <| ag rfl rfl <| nq <| J_seq <| J_drawL none mixed <| ip 0 rfl rfl rfl rfl (p_move rfl) <| ip 1 rfl rfl rfl rfl (p_nilCheck rfl) ?_
  refine ip 2 rfl rfl rfl rfl (p_fieldAddr rfl fa320_6) <| iv 3 rfl rfl rfl rfl (fun _ => v_load rfl ty22 HS (by exact rfl)) ?_
  refine ip 4 rfl rfl rfl rfl (p_move rfl) <| ip 5 rfl rfl rfl rfl (p_move rfl) <| ip 6 rfl rfl rfl rfl (p_nilCheck rfl) <| ip 7 rfl rfl rfl rfl (p_fieldAddr rfl fa320_2) <| iv 8 rfl rfl rfl rfl (fun _ => v_load rfl ty3 HS (by exact rfl)) ?_
  refine J_slot (t := 14) (v := .int .i64 ((u : Int) + 1)) rfl (by rw [huq]) <| ip 11 rfl rfl rfl rfl (p_move rfl) <| ip 12 rfl rfl rfl rfl (p_nilCheck rfl) <| ip 13 rfl rfl rfl rfl (p_fieldAddr rfl fa320_4) <| iv 14 rfl rfl rfl rfl (fun _ => v_load rfl ty3 HS (by exact rfl)) ?_
  refine ip 15 rfl rfl rfl rfl (p_shl rfl rfl (by omega) (by have : (IntKind.u32.bits : Int) = 32 := rfl; omega)) <| J_slot (t := 21) (v := .int .u32 (2 ^ r.cb.toNat)) rfl (by rw [hcb.2.2]) <| i1 9 rfl <| xc fc278 (.cons rfl (.cons rfl (.cons rfl .nil))) rfl (ringWord (r := r) (ms := ms) (x := x) (u := u) PX hM.len hu hxl hB) fun _ => ?_
  refine i1 10 rfl <| xc fc277 (.cons rfl (.cons rfl .nil)) rfl (distC) fun _ => J_slot (t := 16) (v := .int .u32 (rgFar r ms)) rfl (by unfold rgFar; rw [← hx]) <| ip 16 rfl rfl rfl rfl (p_assign rfl) <| ip 17 rfl rfl rfl rfl (p_assign rfl) <| i0 <| Q_then <| J_seq ?_
  refine sr <| mv rfl rfl <| mv rfl rfl <| L_pur rfl (p_gtr rfl rfl) <| nq ?_
  refine C_dec rfl (fun h24 => ?_) (fun h24 => ?_)
  refine sr <| ag rfl rfl <| ag rfl rfl <| nq <| J_ret <| Q_then_ret ?_
  refine J_return (()) Tryz.results252 (.tmp rfl (.tmp rfl .nil)) ?_ ?_
  · simp [one, rgRoom, h24]
  · exact SU
  have hfar := wrap32_in (r.tail - getN (rowAt ms r.cq) 0 4)
  have hfe : rgFar r ms = IntKind.u32.wrap (r.tail - getN (rowAt ms r.cq) 0 4) := rfl
  refine J_skip <| qx <| mv rfl rfl <| mv rfl rfl <| L_pur rfl (p_sub rfl rfl) <| L_pur rfl (p_conv rfl Tryz.underlying22 Tryz.underlying3) <| J_slot (t := 28) (v := .int .i64 (2 ^ r.cb.toNat - rgFar r ms)) rfl (by rw [wrap32u_of (by omega), wrap64_of (by omega)]) <| ag rfl rfl ?_
  refine ag rfl rfl <| nq <| J_ret ?_
  refine J_return (()) Tryz.results252 (.tmp rfl (.tmp rfl .nil)) ?_ ?_
  · simp [one, rgRoom, h24]
  · exact SU
theorem ringWrites {E : World} {l m : List As} {b mb : Nat} {v : Value} {r : Rg} {ms : List (List Int)} (hp : Picks [blk b 320 [.pointer (some ⟨mb, 0, none⟩), .int .i64 r.sq, .int .i64 r.cq, .int .i64 r.sb, .int .i64 r.cb, .int .u32 r.head, .int .u32 r.tail, v], memA mb ms] l m) {c : Cqe} (hR : RgOk r) (hM : MemOk ms) :
    Con Tryz.prog 194 #[.pointer (some ⟨b, 0, none⟩), .agg (encX c).toArray] E l (fun _ : Unit => .bool (rgWrOk r ms)) (fun _ => blk b 320 [.pointer (some ⟨mb, 0, none⟩), .int .i64 (if rgWrOk r ms then rgUp r else r).sq, .int .i64 (if rgWrOk r ms then rgUp r else r).cq, .int .i64 (if rgWrOk r ms then rgUp r else r).sb, .int .i64 (if rgWrOk r ms then rgUp r else r).cb, .int .u32 (if rgWrOk r ms then rgUp r else r).head, .int .u32 (if rgWrOk r ms then rgUp r else r).tail, v] :: memA mb (if rgWrOk r ms then ms.set (r.cq - 1).toNat (rgRow r ms c) else ms) :: m) := by
  refine Con.body (vs := [.pointer (some ⟨b, 0, none⟩), .agg (encX c).toArray]) (n := 55) Tryz.func194 rfl rfl [(0, .pointer (some ⟨b, 0, none⟩)), (1, .agg (encX c).toArray)] (env_ok 2 rfl) <| J_picks2 hp ?_
  obtain ⟨hu, hxl, hB⟩ := hM.at hR.cq
  obtain ⟨x, hx⟩ : ∃ x, x = rowAt ms r.cq := ⟨_, rfl⟩
  obtain ⟨u, huq⟩ : ∃ u : Nat, r.cq = (u : Int) + 1 := ⟨(r.cq - 1).toNat, by have := hR.cq; omega⟩
  have hu1 : (r.cq - 1).toNat = u := by omega
  rw [← hx, hu1] at hu
  rw [← hx] at hxl hB
  have hcb := pow_cb hR.cb
  have hcr := hR.cb
  refine sr <| L_op <| x_box rfl rfl rfl fun b3 => ag rfl rfl <| nxx <| mv rfl rfl <| L_op <| xc fc252 (.cons rfl .nil) rfl (ringRoom (r := r) (ms := ms) PX hR hM) fun _ => ?_
  refine mv rfl rfl <| L_pur rfl (p_extract rfl rfl) <| L_pur rfl (p_extract rfl rfl) <| ag rfl rfl <| ag rfl rfl <| nx <| mv rfl rfl <| L_pur rfl (p_not rfl) ?_
  refine mv rfl rfl ?_
  refine J_gsplit (t := 14) rfl (fun h14 => ?_) (fun h14 => ?_)
  have hno : rgWrOk r ms = false := by unfold rgWrOk; simp at h14 ⊢; omega
  refine L_op <| G_off rfl rfl rfl rfl rfl rfl <| L_op <| G_off rfl rfl rfl rfl rfl rfl <| L_pur rfl (p_pick_t rfl rfl) <| nq <| C_true rfl <| sr ?_
  refine ag rfl rfl <| nq <| J_ret <| Q_then_ret <| J_pick (A := blk b _ _) PC ?_
  refine J_asTo (B := blk b 320 [.pointer (some ⟨mb, 0, none⟩), .int .i64 (if rgWrOk r ms then rgUp r else r).sq, .int .i64 (if rgWrOk r ms then rgUp r else r).cq, .int .i64 (if rgWrOk r ms then rgUp r else r).sb, .int .i64 (if rgWrOk r ms then rgUp r else r).cb, .int .u32 (if rgWrOk r ms then rgUp r else r).head, .int .u32 (if rgWrOk r ms then rgUp r else r).tail, v]) (by rw [hno, if_neg (by decide)]) <| J_pick (A := memA mb _) PC ?_
  refine J_asTo (B := memA mb (if rgWrOk r ms then ms.set (r.cq - 1).toNat (rgRow r ms c) else ms)) (by rw [hno, if_neg (by decide)]) ?_
  refine J_return (()) Tryz.results194 (.tmp rfl .nil) ?_ ?_
  · simp [one, hno]
  · exact SU
  refine L_op <| G_on rfl rfl rfl <| J_pur (p_move rfl) rfl rfl rfl <| L_op <| G_on rfl rfl rfl <| J_pur (p_lss rfl rfl) rfl rfl rfl <| L_pur rfl (p_pick_f rfl rfl) <| nq ?_
  refine C_dec rfl (fun h17 => ?_) (fun h17 => ?_)
  have hno : rgWrOk r ms = false := by unfold rgWrOk rgRoom at *; simp at h14 h17 ⊢; split at h17 <;> omega
  refine sr <| ag rfl rfl <| nq <| J_ret <| Q_then_ret <| J_pick (A := blk b _ _) PC ?_
  refine J_asTo (B := blk b 320 [.pointer (some ⟨mb, 0, none⟩), .int .i64 (if rgWrOk r ms then rgUp r else r).sq, .int .i64 (if rgWrOk r ms then rgUp r else r).cq, .int .i64 (if rgWrOk r ms then rgUp r else r).sb, .int .i64 (if rgWrOk r ms then rgUp r else r).cb, .int .u32 (if rgWrOk r ms then rgUp r else r).head, .int .u32 (if rgWrOk r ms then rgUp r else r).tail, v]) (by rw [hno, if_neg (by decide)]) <| J_pick (A := memA mb _) PC ?_
  refine J_asTo (B := memA mb (if rgWrOk r ms then ms.set (r.cq - 1).toNat (rgRow r ms c) else ms)) (by rw [hno, if_neg (by decide)]) ?_
  refine J_return (()) Tryz.results194 (.tmp rfl .nil) ?_ ?_
  · simp [one, hno]
  · exact SU
  have hyes : rgWrOk r ms = true := by unfold rgWrOk rgRoom at *; simp at h14 h17 ⊢; split at h17 <;> omega
  have hpl := place_in hR
  obtain ⟨off, hoff⟩ : ∃ off : Nat, 16 + r.tail % 2 ^ r.cb.toNat * 16 = (off : Int) := ⟨(16 + r.tail % 2 ^ r.cb.toNat * 16).toNat, by omega⟩
  obtain ⟨y, hy⟩ : ∃ y, y = putB x off (bytesX c) := ⟨_, rfl⟩
  have hyl : y.length = 512 := by rw [hy, putB_len (by rw [bytesX_len]; omega), hxl]
  have hul : u < ms.length := (List.getElem?_eq_some_iff.1 hu).1
  have hrow : rgRow r ms c = putB y 4 (le4 (IntKind.u32.wrap (r.tail + 1))) := by unfold rgRow; rw [← hx, hoff, Int.toNat_natCast, ← hy]
  refine J_skip <| Q_then <| J_seq <| J_drawL (some 19) mixed <| ip 0 rfl rfl rfl rfl (p_move rfl) <| ip 1 rfl rfl rfl rfl (p_nilCheck rfl) <| ip 2 rfl rfl rfl rfl (p_fieldAddr rfl fa320_0) <| iv 3 rfl rfl rfl rfl (fun _ => v_load rfl ty105 HS (by exact rfl)) ?_
  refine ip 4 rfl rfl rfl rfl (p_move rfl) <| ip 5 rfl rfl rfl rfl (p_nilCheck rfl) <| ip 6 rfl rfl rfl rfl (p_fieldAddr rfl fa320_2) <| iv 7 rfl rfl rfl rfl (fun _ => v_load rfl ty3 HS (by exact rfl)) ?_
  refine J_slot (t := 25) (v := .int .i64 ((u : Int) + 1)) rfl (by rw [huq]) <| ip 8 rfl rfl rfl rfl (p_move rfl) <| ip 9 rfl rfl rfl rfl (p_nilCheck rfl) <| ip 10 rfl rfl rfl rfl (p_fieldAddr rfl fa320_6) <| iv 11 rfl rfl rfl rfl (fun _ => v_load rfl ty22 HS (by exact rfl)) ?_
  refine ip 12 rfl rfl rfl rfl (p_move rfl) <| ip 13 rfl rfl rfl rfl (p_nilCheck rfl) <| ip 14 rfl rfl rfl rfl (p_fieldAddr rfl fa320_4) <| iv 15 rfl rfl rfl rfl (fun _ => v_load rfl ty3 HS (by exact rfl)) ?_
  refine J_slot (t := 33) (v := .int .i64 (r.cb.toNat : Int)) rfl (by rw [Int.toNat_of_nonneg hcr.1]) <| iv 17 rfl rfl rfl rfl (fun _ => v_loadA rfl ty298 HS CT) ?_
  refine i1 16 rfl <| xc fc254 (.cons rfl (.cons rfl (.cons rfl .nil))) rfl (placeC (k := r.cb.toNat) (n := r.tail) (by omega) hR.tail) fun _ => J_slot (t := 34) (v := .int .i64 (off : Int)) rfl (by rw [← hoff]) <| i1 18 rfl <| xc fc255 (.cons rfl .nil) rfl (bytesC) <| JR fun a36 c36 hw36 hl36 hm36 hz36 => i1 19 rfl ?_
  refine xc fc253 (.cons rfl (.cons rfl (.cons rfl (.cons rfl .nil)))) rfl (writeC (ms := ms) (u := u) (r := x) (off := off) (ys := bytesX c) PC hM.len hu hxl (fun w H => sep_reads (xs := (bytesX c).map encU) HS H) (by rw [bytesX_len]; omega)) fun _ => ?_
  refine J_pick (A := memA mb _) PC ?_
  refine J_asTo (B := memA mb (ms.set u y)) (by rw [hy]) <| i0 <| qx <| mv rfl rfl <| nc rfl rfl <| fa rfl rfl fa320_6 <| L_val rfl (v_load rfl ty22 HS (by exact rfl)) ?_
  refine L_pur rfl (p_add rfl rfl) <| J_slot (t := 42) (v := .int .u32 (rgUp r).tail) rfl rfl <| nc rfl rfl <| fa rfl rfl fa320_6 <| L_op <| x_store rfl rfl ty22 rfl SM SM RO PT ?_
  refine J_pick (A := blk b _ _) PC ?_
  refine J_asTo (B := blk b 320 [.pointer (some ⟨mb, 0, none⟩), .int .i64 (rgUp r).sq, .int .i64 (rgUp r).cq, .int .i64 (rgUp r).sb, .int .i64 (rgUp r).cb, .int .u32 (rgUp r).head, .int .u32 (rgUp r).tail, v]) (by rfl) <| nq <| J_seq <| J_drawT 9 mixed (by kernel_rfl) <| sm rfl rfl <| sm rfl rfl <| sp rfl (p_nilCheck rfl) <| sp rfl (p_fieldAddr rfl fa320_2) ?_
  refine S_val rfl (v_load rfl ty3 HS (by exact rfl)) ?_
  refine J_slot (t := 49) (v := .int .i64 ((u : Int) + 1)) rfl (by rw [← huq]; rfl) <| sm rfl rfl <| sp rfl (p_nilCheck rfl) <| sp rfl (p_fieldAddr rfl fa320_6) <| S_val rfl (v_load rfl ty22 HS (by exact rfl)) ?_
  refine S_nil ?_
  refine L_op (xc fc256 (.cons rfl (.cons rfl (.cons rfl (.cons rfl .nil)))) rfl (ringPuts (r := rgUp r) (ms := ms.set u y) (x := y) (u := u) (n := (rgUp r).tail) PX (by rw [List.length_set, hM.len]) (by rw [List.getElem?_set_self hul]) hyl) fun _ => ?_)
  refine J_pick (A := memA mb _) PC ?_
  refine J_asTo (B := memA mb (ms.set u (rgRow r ms c))) (by rw [List.set_set, hrow]; rfl) <| nx <| ag rfl rfl <| nq <| J_ret <| J_pick (A := blk b _ _) PC ?_
  refine J_asTo (B := blk b 320 [.pointer (some ⟨mb, 0, none⟩), .int .i64 (if rgWrOk r ms then rgUp r else r).sq, .int .i64 (if rgWrOk r ms then rgUp r else r).cq, .int .i64 (if rgWrOk r ms then rgUp r else r).sb, .int .i64 (if rgWrOk r ms then rgUp r else r).cb, .int .u32 (if rgWrOk r ms then rgUp r else r).head, .int .u32 (if rgWrOk r ms then rgUp r else r).tail, v]) (by rw [hyes, if_pos rfl]) <| J_pick (A := memA mb _) PC ?_
  refine J_asTo (B := memA mb (if rgWrOk r ms then ms.set (r.cq - 1).toNat (rgRow r ms c) else ms)) (by rw [hyes, if_pos rfl, hu1]) ?_
  refine J_return (()) Tryz.results194 (.tmp rfl .nil) ?_ ?_
  · simp [one, hyes]
  · exact SU
end Go.Pse
namespace Go.Pse
open Go.RowKit Go.Proofs
theorem ringPost {E : World} {l m : List As} {b mb : Nat} {r : Rg} {ms : List (List Int)} (hp : Picks [rgA b mb r, memA mb ms] l m) {c : Cqe} (hl : r.over.length ≤ 100000) (hR : RgOk r) (hM : MemOk ms) :
    Con Tryz.prog 136 #[.pointer (some ⟨b, 0, none⟩), .agg (encX c).toArray] E l (fun _ : Unit => .bool (postOk r ms)) (fun _ => rgA b mb (postR r ms c) :: memA mb (postM r ms c) :: m) := by
  refine Con.body (vs := [.pointer (some ⟨b, 0, none⟩), .agg (encX c).toArray]) (n := 26) Tryz.func136 rfl rfl [(0, .pointer (some ⟨b, 0, none⟩)), (1, .agg (encX c).toArray)] (env_ok 2 rfl) <| J_picks2 hp <| J_rgO fun v _ => J_row (.there .here) fun hw a cap hv h1 h2 h3 => ?_
  subst hv
  have hm : cap ≤ 9223372036854775807 := h2
  have hml : (r.over.map encX).length = r.over.length := List.length_map _
  refine sr <| L_op <| x_box rfl rfl rfl fun b3 => ag rfl rfl <| nxx <| mv rfl rfl <| nc rfl rfl <| fa rfl rfl fa320_7 ?_
  refine L_val rfl (v_load rfl ty226 HS (by exact rfl)) ?_
  refine L_pur rfl (p_len rfl Tryz.underlying226) <| L_pur rfl (p_eql rfl rfl) <| mv rfl rfl ?_
  refine J_gsplit (t := 11) rfl (fun h11 => ?_) (fun h11 => ?_)
  have he : r.over = [] := by simpa using h11
  refine L_op <| G_on rfl rfl rfl <| J_pur (p_move rfl) rfl rfl rfl <| L_op <| G_on rfl rfl rfl <| J_val (v_loadA rfl ty298 HS CT) rfl rfl rfl ?_
  refine L_op <| G_on rfl rfl rfl <| xc fc194 (.cons rfl (.cons rfl .nil)) rfl (ringWrites (c := c) (r := r) (ms := ms) PX hR hM) fun _ => ?_
  refine L_pur rfl (p_pick_t rfl rfl) <| nq ?_
  refine C_split rfl (fun h15 => ?_) (fun h15 => ?_)
  have hok : postOk r ms = true := by unfold postOk; rw [he, h15]; rfl
  refine sr <| ag rfl rfl <| nq <| J_ret <| Q_then_ret <| J_pick (A := row 298 4 _ _) PC ?_
  refine J_rowEq (ys := (rgUp r).over.map encX) (by rfl) <| J_pick (A := blk b _ _) PC ?_
  refine J_asTo (B := blk b 320 [.pointer (some ⟨mb, 0, none⟩), .int .i64 (rgUp r).sq, .int .i64 (rgUp r).cq, .int .i64 (rgUp r).sb, .int .i64 (rgUp r).cb, .int .u32 (rgUp r).head, .int .u32 (rgUp r).tail, (.slice a (r.over.map encX).length cap)]) (by rw [h15, if_pos rfl]) <| J_pick (A := memA mb _) PC ?_
  refine J_asTo (B := memA mb (ms.set (r.cq - 1).toNat (rgRow r ms c))) (by rw [h15, if_pos rfl]) <| J_rgS (b := b) (mb := mb) (r := rgUp r) _ PX trivial ?_
  refine J_asTo (B := rgA b mb (postR r ms c)) (by rw [postR, hok]; rfl) <| J_pick (A := memA mb _) PC ?_
  refine J_asTo (B := memA mb (postM r ms c)) (by rw [postM, hok]; rfl) ?_
  refine J_return (()) Tryz.results136 (.tmp rfl .nil) ?_ ?_
  · simp [one, hok]
  · exact SU
  have hno : rgWrOk r ms = false := h15
  have hok : postOk r ms = false := by unfold postOk; rw [hno, Bool.and_false]
  refine J_skip <| Q_then <| J_seq <| J_pick (A := blk b _ _) PC ?_
  refine J_asTo (B := blk b 320 [.pointer (some ⟨mb, 0, none⟩), .int .i64 r.sq, .int .i64 r.cq, .int .i64 r.sb, .int .i64 r.cb, .int .u32 r.head, .int .u32 r.tail, (.slice a (r.over.map encX).length cap)]) (by rw [hno, if_neg (by decide)]) <| J_pick (A := memA mb _) PC ?_
  refine J_asTo (B := memA mb ms) (by rw [hno, if_neg (by decide)]) <| J_drawL (some 7) mixed <| ip 0 rfl rfl rfl rfl (p_move rfl) <| ip 1 rfl rfl rfl rfl (p_move rfl) <| ip 2 rfl rfl rfl rfl (p_nilCheck rfl) <| ip 3 rfl rfl rfl rfl (p_fieldAddr rfl fa320_7) <| iv 4 rfl rfl rfl rfl (fun _ => v_load rfl ty226 HS (by exact rfl)) ?_
  refine iv 5 rfl rfl rfl rfl (fun _ => v_loadA rfl ty298 HS CT) ?_
  refine i1 6 rfl <| x_lit (vals := [_]) Tryz.underlying226 ty298 rfl (.cons rfl .nil) (.agg .nil) (Wf.cons rfl rfl Wf.nil) rfl (by decide) rfl rfl <| JR fun a22 c22 hw22 hl22 hm22 hz22 => i1 7 rfl <| x_app rfl rfl Tryz.underlying226 ty298 rfl rfl PC (fun w H => sep_reads HS H) (by simp; omega) (by simp; omega) rfl <| JE ((r.over ++ [c]).map encX) (by simp) fun a23 c23 hw23 hl23 hm23 hz23 => ip 8 rfl rfl rfl rfl (p_nilCheck rfl) <| ip 9 rfl rfl rfl rfl (p_fieldAddr rfl fa320_7) ?_
  refine i1 10 rfl <| x_store rfl rfl ty226 rfl SM SM RO PT ?_
  refine i0 <| qx <| ag rfl rfl <| nq <| J_ret <| J_rgS (b := b) (mb := mb) (r := { r with over := r.over ++ [c] }) _ PX trivial ?_
  refine J_asTo (B := rgA b mb (postR r ms c)) (by rw [postR, hok]; rfl) <| J_pick (A := memA mb _) PC ?_
  refine J_asTo (B := memA mb (postM r ms c)) (by rw [postM, hok]; rfl) ?_
  refine J_return (()) Tryz.results136 (.tmp rfl .nil) ?_ ?_
  · simp [one, hok]
  · exact SU
  have he : r.over.isEmpty = false := by
    cases hov : r.over with
    | nil => rw [hov] at h11; simp at h11
    | cons x xs => rfl
  refine L_op <| G_off rfl rfl rfl rfl rfl rfl <| L_op <| G_off rfl rfl rfl rfl rfl rfl <| L_op <| G_off rfl rfl rfl rfl rfl rfl <| L_pur rfl (p_pick_f rfl rfl) <| nq ?_
  refine C_false rfl <| J_skip <| Q_then <| J_seq ?_
  have hok : postOk r ms = false := by unfold postOk; rw [he]; rfl
  refine J_drawL (some 7) mixed <| ip 0 rfl rfl rfl rfl (p_move rfl) <| ip 1 rfl rfl rfl rfl (p_move rfl) <| ip 2 rfl rfl rfl rfl (p_nilCheck rfl) <| ip 3 rfl rfl rfl rfl (p_fieldAddr rfl fa320_7) <| iv 4 rfl rfl rfl rfl (fun _ => v_load rfl ty226 HS (by exact rfl)) ?_
  refine iv 5 rfl rfl rfl rfl (fun _ => v_loadA rfl ty298 HS CT) ?_
  refine i1 6 rfl <| x_lit (vals := [_]) Tryz.underlying226 ty298 rfl (.cons rfl .nil) (.agg .nil) (Wf.cons rfl rfl Wf.nil) rfl (by decide) rfl rfl <| JR fun a22 c22 hw22 hl22 hm22 hz22 => i1 7 rfl <| x_app rfl rfl Tryz.underlying226 ty298 rfl rfl PC (fun w H => sep_reads HS H) (by simp; omega) (by simp; omega) rfl <| JE ((r.over ++ [c]).map encX) (by simp) fun a23 c23 hw23 hl23 hm23 hz23 => ip 8 rfl rfl rfl rfl (p_nilCheck rfl) <| ip 9 rfl rfl rfl rfl (p_fieldAddr rfl fa320_7) ?_
  refine i1 10 rfl <| x_store rfl rfl ty226 rfl SM SM RO PT ?_
  refine i0 <| qx <| ag rfl rfl <| nq <| J_ret <| J_rgS (b := b) (mb := mb) (r := { r with over := r.over ++ [c] }) _ PX trivial ?_
  refine J_asTo (B := rgA b mb (postR r ms c)) (by rw [postR, hok]; rfl) <| J_pick (A := memA mb _) PC ?_
  refine J_asTo (B := memA mb (postM r ms c)) (by rw [postM, hok]; rfl) ?_
  refine J_return (()) Tryz.results136 (.tmp rfl .nil) ?_ ?_
  · simp [one, hok]
  · exact SU
theorem ringClear {E : World} {l m : List As} {b mb : Nat} {r : Rg} (hp : Pick (rgA b mb r) l m) :
    Con Tryz.prog 303 #[.pointer (some ⟨b, 0, none⟩)] E l (fun _ : Unit => .int .i64 (r.over.length : Int)) (fun _ => rgA b mb { r with over := [] } :: m) := by
  refine Con.body (vs := [.pointer (some ⟨b, 0, none⟩)]) (n := 13) Tryz.func303 rfl rfl [(0, .pointer (some ⟨b, 0, none⟩))] (env_ok 1 rfl) <| J_pick hp <| J_rgO fun v _ => J_row (.there .here) fun hw a cap hv h1 h2 h3 => ?_
  subst hv
  refine sr <| ag rfl rfl <| nx <| mv rfl rfl <| nc rfl rfl <| fa rfl rfl fa320_7 <| L_val rfl (v_load rfl ty226 HS (by exact rfl)) ?_
  refine L_pur rfl (p_len rfl Tryz.underlying226) <| ag rfl rfl <| nx <| mv rfl rfl <| nc rfl rfl <| fa rfl rfl fa320_7 <| L_op <| x_store rfl rfl ty226 rfl SM SM RO PT ?_
  refine nx <| mv rfl rfl <| ag rfl rfl <| nq <| J_ret <| J_nil (el := 298) (sz := 4) <| J_asTo (B := row 298 4 (.slice none 0 0) (({ r with over := [] } : Rg).over.map encX)) (by rfl) <| J_rgS (b := b) (mb := mb) (r := { r with over := [] }) (.slice none 0 0) PX trivial ?_
  refine J_return (()) Tryz.results303 (.tmp rfl .nil) ?_ ?_
  · simp [one]
  · exact SU
theorem jnlAdd {E : World} {l m : List As} {b o : Nat} {xs : List Deed} (hp : Pick (jnlA b o xs) l m) (hb : xs.length ≤ 200000) {d : Deed} :
    Con Tryz.prog 134 #[.pointer (some ⟨b, o, none⟩), .agg (encD d).toArray] E l (fun _ : Unit => .tuple #[]) (fun _ => jnlA b o (xs ++ [d]) :: m) := by
  refine Con.body (vs := [.pointer (some ⟨b, o, none⟩), .agg (encD d).toArray]) (n := 14) Tryz.func134 rfl rfl [(0, .pointer (some ⟨b, o, none⟩)), (1, .agg (encD d).toArray)] (env_ok 2 rfl) <| J_pick hp <| J_jnlO fun v _ => J_row (.there .here) fun hw a cap hv h1 h2 h3 => ?_
  subst hv
  have hm : cap ≤ 9223372036854775807 := h2
  have hml : (xs.map encD).length = xs.length := List.length_map _
  refine sr <| L_op <| x_box rfl rfl rfl fun b3 => nq <| J_drawL (some 7) mixed <| ip 0 rfl rfl rfl rfl (p_move rfl) <| ip 1 rfl rfl rfl rfl (p_move rfl) <| ip 2 rfl rfl rfl rfl (p_nilCheck rfl) ?_
  refine ip 3 rfl rfl rfl rfl (p_fieldAddr rfl fa125_0) <| iv 4 rfl rfl rfl rfl (fun _ => v_loadL rfl ty32 HS rfl (by exact rfl)) ?_
  refine iv 5 rfl rfl rfl rfl (fun _ => v_loadA rfl ty41 HS CT) ?_
  refine i1 6 rfl <| x_lit (vals := [_]) Tryz.underlying32 ty41 rfl (.cons rfl .nil) (.agg .nil) (Wf.cons rfl rfl Wf.nil) rfl (by decide) rfl rfl <| JR fun a10 c10 hw10 hl10 hm10 hz10 => i1 7 rfl <| x_app rfl rfl Tryz.underlying32 ty41 rfl rfl PC (fun w H => sep_reads HS H) (by simp; omega) (by simp; omega) rfl <| JE ((xs ++ [d]).map encD) (by simp) fun a11 c11 hw11 hl11 hm11 hz11 => ip 8 rfl rfl rfl rfl (p_nilCheck rfl) <| ip 9 rfl rfl rfl rfl (p_fieldAddr rfl fa125_0) ?_
  refine i1 10 rfl <| x_storeL rfl rfl ty32 rfl SM SM rfl RO rfl PT ?_
  refine i0 <| J_endnormal <| J_jnlS (b := b) (o := o) (xs := xs ++ [d]) _ PX trivial ?_
  exact J_return (()) Tryz.results134 .nil rfl SU
theorem clone47 {E : World} {l : List As} {v : Value} {xs : List (List Value)} (hr : ∀ w, Sep E w l → Reads w 7 v xs) (hb : xs.length ≤ 1000000) :
    Con Tryz.prog 47 #[v] E l (fun v' : Value => v') (fun v' => row 41 7 v' xs :: l) := by
  refine Con.body (vs := [v]) (n := 8) Tryz.func47 rfl rfl [(0, v)] (env_ok 1 rfl) <| J_reads hr fun hw a cap hv h1 h2 h3 => ?_
  subst hv
  refine sr <| ag rfl rfl <| nxx <| mv rfl rfl <| L_pur rfl (p_eqnil Tryz.underlying32 rfl) <| nq ?_
  refine C_split rfl (fun h4 => ?_) (fun h4 => ?_)
  obtain rfl : a = none := by simpa using h4
  obtain ⟨rfl, rfl⟩ := h3 rfl
  refine J_nil (el := 41) (sz := 7) <| sr <| ag rfl rfl <| nq <| J_ret <| Q_then_ret ?_
  exact J_return (_) Tryz.results47 (.tmp rfl .nil) rfl SU
  refine J_skip <| qx <| L_op <| x_lit (vals := []) Tryz.underlying32 ty41 rfl .nil .nil Wf.nil rfl (by decide) rfl rfl <| JR fun a5 c5 hw5 hl5 hm5 hz5 => mv rfl rfl <| L_op <| x_app rfl rfl Tryz.underlying32 ty41 rfl rfl PC (fun w H => hr w H.tail) (OM) (OM) rfl ?_
  refine JR fun a7 c7 hw7 hl7 hm7 hz7 => ag rfl rfl <| nq <| J_ret ?_
  exact J_return (_) Tryz.results47 (.tmp rfl .nil) rfl SU
theorem jnlAll {E : World} {l m : List As} {b o : Nat} {xs : List Deed} (hp : Pick (jnlA b o xs) l m) (hb : xs.length ≤ 200000) :
    Con Tryz.prog 18 #[.pointer (some ⟨b, o, none⟩)] E l (fun v : Value => v) (fun v => row 41 7 v (xs.map encD) :: jnlA b o xs :: m) := by
  refine Con.body (vs := [.pointer (some ⟨b, o, none⟩)]) (n := 8) Tryz.func18 rfl rfl [(0, .pointer (some ⟨b, o, none⟩))] (env_ok 1 rfl) <| J_pick hp <| J_jnlO fun v _ => J_row (.there .here) fun hw a cap hv h1 h2 h3 => ?_
  subst hv
  have hm : cap ≤ 9223372036854775807 := h2
  have hml : (xs.map encD).length = xs.length := List.length_map _
  refine sr <| ag rfl rfl <| nx <| mv rfl rfl <| nc rfl rfl <| fa rfl rfl fa125_0 <| L_val rfl (v_loadL rfl ty32 HS rfl (by exact rfl)) ?_
  refine L_op <| xc fc47 (.cons rfl .nil) rfl (clone47 (xs := xs.map encD) (fun w H => sep_reads (xs := xs.map encD) HS H) (by simp; omega)) <| JR fun a7 c7 hw7 hl7 hm7 hz7 => ag rfl rfl <| nq <| J_ret <| J_jnlS (b := b) (o := o) (xs := xs) _ PX trivial ?_
  exact J_return (_) Tryz.results18 (.tmp rfl .nil) rfl SU
/-! ### plain: who waits, in order -/
theorem encI_one (c : ID) : ones (encI c) = true := rfl
theorem encI_len (c : ID) : (encI c).length = 2 := rfl
def isI (i c : ID) : Bool := decide (c.1 = i.1 ∧ c.2 = i.2)
theorem isI_iff {i c : ID} : isI i c = true ↔ c = i := by unfold isI; rw [decide_eq_true_eq, Prod.ext_iff]
theorem isI_eq (i c : ID) : isI i c = decide (c = i) := by rw [Bool.eq_iff_iff, isI_iff, decide_eq_true_eq]
def lpush (xs : List ID) (i : ID) : List ID := if i ∈ xs then xs else xs ++ [i]
def ldrop (xs : List ID) (i : ID) : List ID := xs.filter fun c => !isI i c
theorem ldrop_len (xs : List ID) (i : ID) : (ldrop xs i).length ≤ xs.length := List.length_filter_le _ _
theorem lpush_len (xs : List ID) (i : ID) : (lpush xs i).length ≤ xs.length + 1 := by unfold lpush; split <;> simp
theorem ldrop_mem {xs : List ID} {i c : ID} : c ∈ ldrop xs i ↔ c ∈ xs ∧ ¬ c = i := by
  unfold ldrop; rw [List.mem_filter]; simp [isI_eq]
theorem ldrop_no {xs : List ID} {i : ID} (h : i ∉ xs) : ldrop xs i = xs := by
  unfold ldrop; rw [List.filter_eq_self]; intro c hc; have : ¬ c = i := fun e => h (e ▸ hc); simp [isI_eq, this]
theorem ldrop_nodup {xs : List ID} (h : xs.Nodup) (i : ID) : (ldrop xs i).Nodup := List.Nodup.sublist List.filter_sublist h
theorem lpush_nodup {xs : List ID} (h : xs.Nodup) (i : ID) : (lpush xs i).Nodup := by
  unfold lpush; split
  · exact h
  · rename_i hi
    rw [List.nodup_append]
    refine ⟨h, by simp, fun x hx y hy => ?_⟩
    simp at hy; subst hy; exact fun e => hi (e ▸ hx)
theorem ldrop_head {x : ID} {xs : List ID} (h : (x :: xs).Nodup) : ldrop (x :: xs) x = xs := by
  have h1 := List.nodup_cons.1 h
  unfold ldrop
  rw [List.filter_cons, if_neg (by simp [isI_eq])]
  exact ldrop_no h1.1
theorem Who.push {xs : List ID} {ps : List (ID × Bool)} (h : Who xs ps) {i : ID} (hi : i ∉ xs) : Who (xs ++ [i]) (ins ps i true) := by
  refine ⟨by have := lpush_nodup h.1 i; unfold lpush at this; rwa [if_neg hi] at this, fun c => ?_⟩
  rw [look_ins, h.2]
  by_cases hc : i = c
  · subst hc; simp
  · have hc' : ¬ c = i := fun e => hc e.symm
    simp [hc, hc']
theorem Who.drop {xs : List ID} {ps : List (ID × Bool)} (h : Who xs ps) (i : ID) : Who (ldrop xs i) (del ps i) := by
  refine ⟨ldrop_nodup h.1 i, fun c => ?_⟩
  rw [look_del, h.2]
  by_cases hc : i = c
  · subst hc; simp [ldrop_mem]
  · have hc' : ¬ c = i := fun e => hc e.symm
    simp [hc, hc', ldrop_mem]
theorem Who.says {xs : List ID} {ps : List (ID × Bool)} (h : Who xs ps) (i : ID) : zof evB (.bool false) (look ps i) = .bool (decide (i ∈ xs)) := by
  rw [h.2]; by_cases hi : i ∈ xs <;> simp [zof, hi]
theorem clone314 {E : World} {l : List As} {v : Value} {xs : List (List Value)} (hr : ∀ w, Sep E w l → Reads w 2 v xs) (hb : xs.length ≤ 1000000) :
    Con Tryz.prog 314 #[v] E l (fun v' : Value => v') (fun v' => row 39 2 v' xs :: l) := by
  refine Con.body (vs := [v]) (n := 8) Tryz.func314 rfl rfl [(0, v)] (env_ok 1 rfl) <| J_reads hr fun hw a cap hv h1 h2 h3 => ?_
  subst hv
  refine sr <| ag rfl rfl <| nxx <| mv rfl rfl <| L_pur rfl (p_eqnil Tryz.underlying208 rfl) <| nq ?_
  refine C_split rfl (fun h4 => ?_) (fun h4 => ?_)
  obtain rfl : a = none := by simpa using h4
  obtain ⟨rfl, rfl⟩ := h3 rfl
  refine J_nil (el := 39) (sz := 2) <| sr <| ag rfl rfl <| nq <| J_ret <| Q_then_ret ?_
  exact J_return (_) Tryz.results314 (.tmp rfl .nil) rfl SU
  refine J_skip <| qx <| L_op <| x_lit (vals := []) Tryz.underlying208 ty39 rfl .nil .nil Wf.nil rfl (by decide) rfl rfl <| JR fun a5 c5 hw5 hl5 hm5 hz5 => mv rfl rfl <| L_op <| x_app rfl rfl Tryz.underlying208 ty39 rfl rfl PC (fun w H => hr w H.tail) (OM) (OM) rfl ?_
  refine JR fun a7 c7 hw7 hl7 hm7 hz7 => ag rfl rfl <| nq <| J_ret ?_
  exact J_return (_) Tryz.results314 (.tmp rfl .nil) rfl SU
theorem indexfunc276 {E : World} {l : List As} {v : Value} {α : Type} {enc : α → List Value} {xs : List α} {g : FuncId} {caps : Array Value} {fn : Func} (hf : Tryz.prog.funcs[g]? = some fn) (hn : (fn.name == "runtime.NumGoroutine") = false) (hb : fn.body.isNone = false) {q : α → Bool} {C : As} (hg : ∀ (l' : List As) (c : α), Has C l' → Con Tryz.prog g (#[.agg (enc c).toArray] ++ caps) E l' (fun _ : Unit => .bool (q c)) (fun _ => l')) (hv : Has (row 39 2 v (xs.map enc)) l) (hc : Has C l) :
    Con Tryz.prog 276 #[v, .func (.func g) #[] caps] E l (fun _ : Unit => .int .i64 (idx q xs)) (fun _ => l) := by
  refine Con.body (vs := [v, .func (.func g) #[] caps]) (n := 19) Tryz.func276 rfl rfl [(0, v), (1, .func (.func g) #[] caps)] (env_ok 2 rfl) <| J_row hv fun hw a cap hv h1 h2 h3 => ?_
  subst hv
  have hm : cap ≤ 9223372036854775807 := h2
  have hml : (xs.map enc).length = xs.length := List.length_map _
  refine sr <| ag rfl rfl <| nxx <| mv rfl rfl <| L_pur rfl (p_len rfl Tryz.underlying208) <| mv rfl rfl <| nq <| J_block ?_
  refine J_loop (α := Nat) (fun i => i ≤ xs.length ∧ ∀ c ∈ xs.take i, q c = false) (fun _ => l) (fun i => [(8, .int .i64 (i : Int)), (7, .int .i64 (xs.map enc).length), (0, .slice a (xs.map enc).length cap), (1, .func (.func g) #[] caps)]) (fun i => xs.length - i) 0 ⟨by omega, by simp⟩ SU KE ?_
  intro i ⟨hi, hq⟩
  refine sr <| L_pur rfl (p_lss rfl rfl) <| nq <| J_seq ?_
  refine C_dec rfl (fun h9 => ?_) (fun h9 => ?_)
  have hlt : i < xs.length := by omega
  obtain ⟨b, o, rfl⟩ := h3 (by intro h; rw [h] at hml; simp at hml; omega)
  obtain ⟨c, hcc⟩ : ∃ c, xs[i]? = some c := ⟨_, List.getElem?_eq_getElem hlt⟩
  refine J_skip <| Q_then <| J_seq <| J_block <| sr <| mv rfl rfl <| ag rfl rfl <| nx ?_
  refine mv rfl rfl <| mv rfl rfl <| mv rfl rfl <| L_pur rfl (p_indexAddr rfl rfl Tryz.underlying208 ty39 (by omega) (by omega)) ?_
  refine L_val rfl (v_loadE rfl ty39 HS (by simp only [Int.toNat_natCast, List.getElem?_map, hcc]; rfl)) ?_
  refine L_op <| x_callc rfl hf hn hb (.cons rfl .nil) rfl (hg _ c hc) fun _ => nq ?_
  refine C_split rfl (fun h16 => ?_) (fun h16 => ?_)
  have hidx := idx_here hq hcc h16
  refine sr <| mv rfl rfl <| ag rfl rfl <| nq <| J_ret <| Q_blk_ret <| Q_then_ret <| Q_then_ret ?_
  refine Q_blk_ret <| Q_then_ret ?_
  refine J_return (()) Tryz.results276 (.tmp rfl .nil) ?_ ?_
  · simp [one, hidx]
  · exact SU
  refine J_skip <| Q_blk_normal <| qr <| L_pur rfl (p_add64 rfl rfl (by omega)) <| mv rfl rfl <| nq ?_
  exact J_again (i + 1) (by omega) (⟨by omega, take_false_succ hq hcc h16⟩) SU KE
  have hix : i = xs.length := by omega
  rw [hix, List.take_length] at hq
  have hidx := idx_none hq
  refine J_exit <| Q_then_exit <| Q_then_exit <| Q_blk_this <| qx <| ag rfl rfl <| nq <| J_ret ?_
  refine J_return (()) Tryz.results276 (.tmp rfl .nil) ?_ ?_
  · simp [one, hidx]
  · exact SU
theorem deletefunc250 {E : World} {l m : List As} {v : Value} {α : Type} {enc : α → List Value} {xs : List α} {g : FuncId} {caps : Array Value} {fn : Func} (hf : Tryz.prog.funcs[g]? = some fn) (hn : (fn.name == "runtime.NumGoroutine") = false) (hb : fn.body.isNone = false) {q : α → Bool} {C : As} (hg : ∀ (l' : List As) (c : α), Has C l' → Con Tryz.prog g (#[.agg (enc c).toArray] ++ caps) E l' (fun _ : Unit => .bool (q c)) (fun _ => l')) (hv : Pick (row 39 2 v (xs.map enc)) l m) (hc : Has C m) (hone : ∀ c, ones (enc c) = true) (hlen : ∀ c, (enc c).length = 2) :
  Con Tryz.prog 250 #[v, .func (.func g) #[] caps] E l (fun v' : Value => v') (fun v' => row 39 2 v' ((xs.filter fun c => !q c).map enc) :: m) := by
 rcases idx_cases q xs with ⟨hi0, hall⟩ | ⟨i0, hi0, hlt0, hpre, c0, hc0, hq0⟩
 ·
  refine Con.body (vs := [v, .func (.func g) #[] caps]) (n := 42) Tryz.func250 rfl rfl [(0, v), (1, .func (.func g) #[] caps)] (env_ok 2 rfl) <| J_pick hv <| sr <| ag rfl rfl <| nx <| mv rfl rfl <| mv rfl rfl <| L_op <| xc fc276 (.cons rfl (.cons rfl .nil)) rfl (indexfunc276 hf hn hb hg .here (.there hc)) fun _ => ?_
  refine ag rfl rfl <| nxx <| mv rfl rfl <| L_pur rfl (p_eql rfl rfl) <| nq <| J_bool (t := 12) (c := true) rfl (by simp [hi0]) <| C_true rfl <| sr ?_
  refine J_rowEq (ys := (xs.filter fun c => !q c).map enc) (by rw [List.filter_eq_self.2 (fun c hc => by simp [hall c hc])]) <| mv rfl rfl <| ag rfl rfl <| nq <| J_ret <| Q_then_ret ?_
  exact J_return (_) Tryz.results250 (.tmp rfl .nil) rfl SU
 ·
  refine Con.body (vs := [v, .func (.func g) #[] caps]) (n := 42) Tryz.func250 rfl rfl [(0, v), (1, .func (.func g) #[] caps)] (env_ok 2 rfl) <| J_pick hv <| J_row .here fun hw a cap hv h1 h2 h3 => ?_
  obtain ⟨b, o, rfl⟩ := h3 (by intro h; have := congrArg List.length h; simp at this; subst this; simp at hlt0)
  subst hv
  have hm : cap ≤ 9223372036854775807 := h2
  have hml : (xs.map enc).length = xs.length := List.length_map _
  have hk0 : kept q xs (i0 + 1) = xs.take i0 := kept_first hpre hc0 hq0
  have hl0 : (xs.take i0).length = i0 := by simp; omega
  refine sr <| ag rfl rfl <| nx <| mv rfl rfl <| mv rfl rfl <| L_op <| xc fc276 (.cons rfl (.cons rfl .nil)) rfl (indexfunc276 hf hn hb hg .here (.there hc)) fun _ => J_slot (t := 10) (v := .int .i64 (i0 : Int)) rfl (by rw [hi0]) ?_
  refine ag rfl rfl <| nxx <| mv rfl rfl <| L_pur rfl (p_eql rfl rfl) <| nq <| J_bool (t := 12) (c := false) rfl (by simp) <| C_false rfl <| J_skip ?_
  refine Q_then <| J_seq <| sr <| mv rfl rfl <| L_pur rfl (p_add64 rfl rfl (by omega)) <| ag rfl rfl <| nq <| J_block ?_
  refine J_rowEq (ys := (kept q xs (i0 + 1) ++ xs.drop (kept q xs (i0 + 1)).length).map enc) (by rw [hk0, hl0, List.take_append_drop]) <| J_slot (t := 5) (v := .int .i64 ((kept q xs (i0 + 1)).length : Int)) rfl (by rw [hk0, hl0]) <| J_loop (α := Nat) (fun j => j ≤ xs.length) (fun j => row 39 2 (.slice (some ⟨b, o, none⟩) (xs.map enc).length cap) ((kept q xs j ++ xs.drop (kept q xs j).length).map enc) :: m) (fun j => [(6, .int .i64 (j : Int)), (5, .int .i64 ((kept q xs j).length : Int)), (0, .slice (some ⟨b, o, none⟩) (xs.map enc).length cap), (1, .func (.func g) #[] caps)]) (fun j => xs.length - j) (i0 + 1) (by omega) SU KE ?_
  intro j hj
  have hkl := kept_le q xs j
  refine J_seq <| sr <| mv rfl rfl <| mv rfl rfl <| L_pur rfl (p_len rfl Tryz.underlying208) <| L_pur rfl (p_lss rfl rfl) <| nq ?_
  refine C_dec rfl (fun h19 => ?_) (fun h19 => ?_)
  have hlt : j < xs.length := by omega
  obtain ⟨c, hcc⟩ : ∃ c, xs[j]? = some c := ⟨_, List.getElem?_eq_getElem hlt⟩
  refine J_skip <| Q_then <| J_seq <| J_block <| sr <| mv rfl rfl <| mv rfl rfl <| L_pur rfl (p_indexAddr rfl rfl Tryz.underlying208 ty39 (by omega) (by omega)) ?_
  refine L_val rfl (v_loadE rfl ty39 HS (by simp only [Int.toNat_natCast, List.getElem?_map, kept_get, hcc]; rfl)) ?_
  refine L_op <| x_alloc ty39 rfl fun b7 => L_op <| x_store rfl rfl ty39 rfl SM SM RO PT ?_
  refine nx <| mv rfl rfl <| L_val rfl (v_loadA rfl ty39 HS CT) ?_
  refine L_op <| x_callc rfl hf hn hb (.cons rfl .nil) rfl (hg _ c (.there (.there hc))) fun _ => L_pur rfl (p_not rfl) <| nq ?_
  refine C_split rfl (fun h29 => ?_) (fun h29 => ?_)
  have hqc : q c = false := by simpa using h29
  have hks := kept_set hcc hqc
  have hkl1 : (kept q xs (j + 1)).length = (kept q xs j).length + 1 := by rw [kept_succ hcc, hqc]; simp
  refine sr <| mv rfl rfl <| mv rfl rfl <| L_val rfl (v_loadA rfl ty39 HS CT) ?_
  refine L_pur rfl (p_indexAddr rfl rfl Tryz.underlying208 ty39 (by omega) (by omega)) <| L_op <| x_storeE (vs := enc c) rfl rfl ty39 rfl (hlen c) (hone c) PC (OM) ?_
  refine J_rowEq (ys := (kept q xs (j + 1) ++ xs.drop (kept q xs (j + 1)).length).map enc) (by rw [← hks, List.map_set]; simp) <| ny <| mv rfl rfl <| L_pur rfl (p_add64 rfl rfl (by omega)) <| ag rfl rfl <| L_nil <| Q_blk_normal <| qr ?_
  refine mv rfl rfl <| L_pur rfl (p_add64 rfl rfl (by omega)) <| ag rfl rfl <| nq <| J_slot (t := 5) (v := .int .i64 ((kept q xs (j + 1)).length : Int)) rfl (by rw [hkl1]; rfl) ?_
  exact J_again (j + 1) (by omega) (by omega) SU KE
  have hqc : q c = true := by simpa using h29
  have hks : kept q xs (j + 1) = kept q xs j := by rw [kept_succ hcc, hqc]; simp
  refine J_skip <| Q_blk_normal <| qr <| mv rfl rfl <| L_pur rfl (p_add64 rfl rfl (by omega)) <| ag rfl rfl <| nq <| J_slot (t := 5) (v := .int .i64 ((kept q xs (j + 1)).length : Int)) rfl (by rw [hks]) ?_
  refine J_pick (A := row 39 2 (.slice (some ⟨b, o, none⟩) (xs.map enc).length cap) ((kept q xs j ++ xs.drop (kept q xs j).length).map enc)) PC ?_
  refine J_rowEq (ys := (kept q xs (j + 1) ++ xs.drop (kept q xs (j + 1)).length).map enc) (by rw [hks]) ?_
  exact J_again (j + 1) (by omega) (by omega) SU KE
  have hjx : j = xs.length := by omega
  have hka : kept q xs j = xs.filter fun c => !q c := kept_all (by omega)
  refine J_exit <| Q_then_exit <| Q_then_exit <| Q_blk_this <| qx <| mv rfl rfl <| mv rfl rfl <| L_pur rfl (p_slice rfl Tryz.underlying208 ty39 rfl rfl (by omega) (by omega) (by omega)) ?_
  refine L_op <| x_clear (len := (xs.map enc).length) rfl Tryz.underlying208 ty39 rfl rfl PC (OM) ?_
  refine nx <| mv rfl rfl <| mv rfl rfl <| L_pur rfl (p_slice rfl Tryz.underlying208 ty39 rfl rfl (by omega) (by omega) (by omega)) <| J_take (k := (kept q xs j).length) (OM) <| J_rowTo (v' := .slice (some ⟨b, o, none⟩) (kept q xs j).length cap) (ys := (xs.filter fun c => !q c).map enc) (by simp [hka]) rfl <| J_slot (t := 41) (v := .slice (some ⟨b, o, none⟩) (kept q xs j).length cap) rfl (by simp [Addr.add]) <| ag rfl rfl ?_
  refine nq <| J_ret ?_
  exact J_return (_) Tryz.results250 (.tmp rfl .nil) rfl SU
theorem clo251 {E : World} {l : List As} {bc : Nat} {i : ID} {c : ID} (hc : Has (blk bc 39 (encI i)) l) :
    Con Tryz.prog 251 #[.agg (encI c).toArray, .pointer (some ⟨bc, 0, none⟩)] E l (fun _ : Unit => .bool (isI i c)) (fun _ => l) := by
  refine Con.body (vs := [.agg (encI c).toArray, .pointer (some ⟨bc, 0, none⟩)]) (n := 7) Tryz.func251 rfl rfl [(0, .agg (encI c).toArray), (1, .pointer (some ⟨bc, 0, none⟩))] (env_ok 2 rfl) <| sr <| L_op <| x_box rfl rfl rfl fun b2 => ag rfl rfl <| nx <| L_val rfl (v_loadA rfl ty39 HS CT) ?_
  refine L_val rfl (v_loadA rfl ty39 HS CT) ?_
  refine L_pur rfl (p_eqv rfl rfl (fun w => eg39 _ _ _ _ _ w) (fun w => eqv39 _ _ _ _ w)) <| ag rfl rfl <| nq <| J_ret ?_
  exact J_return (()) Tryz.results251 (.tmp rfl .nil) rfl SU
theorem lAll {E : World} {l m : List As} {b o : Nat} {xs : List ID} (hp : Pick (lsA b o xs) l m) (hb : xs.length ≤ 100000) :
    Con Tryz.prog 309 #[.pointer (some ⟨b, o, none⟩)] E l (fun v : Value => v) (fun v => row 39 2 v (xs.map encI) :: lsA b o xs :: m) := by
  refine Con.body (vs := [.pointer (some ⟨b, o, none⟩)]) (n := 8) Tryz.func309 rfl rfl [(0, .pointer (some ⟨b, o, none⟩))] (env_ok 1 rfl) <| J_pick hp <| J_lsO fun v ob ps hw => sr <| ag rfl rfl <| nx <| mv rfl rfl <| nc rfl rfl ?_
  refine fa rfl rfl fa211_0 <| L_val rfl (v_loadL rfl ty208 HS rfl (by exact rfl)) ?_
  refine L_op <| xc fc314 (.cons rfl .nil) rfl (clone314 (xs := xs.map encI) (fun w H => sep_reads (xs := xs.map encI) HS H) (by simp; omega)) <| JR fun a7 c7 hw7 hl7 hm7 hz7 => ag rfl rfl <| nq <| J_ret <| J_lsS (b := b) (o := o) (xs := xs) _ _ _ PX (hw) ?_
  exact J_return (_) Tryz.results309 (.tmp rfl .nil) rfl SU
theorem lDrop {E : World} {l m : List As} {b o : Nat} {xs : List ID} (hp : Pick (lsA b o xs) l m) (hb : xs.length ≤ 100000) {i : ID} :
    Con Tryz.prog 193 #[.pointer (some ⟨b, o, none⟩), .agg (encI i).toArray] E l (fun _ : Unit => .bool (decide (i ∈ xs))) (fun _ => lsA b o (ldrop xs i) :: m) := by
  refine Con.body (vs := [.pointer (some ⟨b, o, none⟩), .agg (encI i).toArray]) (n := 26) Tryz.func193 rfl rfl [(0, .pointer (some ⟨b, o, none⟩)), (1, .agg (encI i).toArray)] (env_ok 2 rfl) <| J_pick hp <| J_lsO fun v ob ps hw => sr <| L_op <| x_box rfl rfl rfl fun b3 => ag rfl rfl <| nq ?_
  refine J_seq <| J_seq <| J_drawS mixed (by kernel_rfl) <| sm rfl rfl <| sp rfl (p_nilCheck rfl) <| sp rfl (p_fieldAddr rfl fa211_1) <| S_val rfl (v_loadL rfl ty209 HS rfl (by exact rfl)) ?_
  refine S_val rfl (v_loadA rfl ty39 HS CT) ?_
  refine S_val rfl (v_look (ek := kI) (ev := evB) (a := i) rfl rfl ky39 Tryz.underlying209 zv4 HS) ?_
  refine J_slot (t := 10) (v := .bool (decide (i ∈ xs))) rfl (hw.says i) <| sp rfl (p_not rfl) <| sq ?_
  refine C_split rfl (fun h11 => ?_) (fun h11 => ?_)
  have hi : i ∉ xs := by simpa using h11
  refine sr <| ag rfl rfl <| nq <| J_ret <| Q_then_ret <| J_lsS (b := b) (o := o) (xs := xs) _ _ _ PX (hw) ?_
  refine J_asTo (B := lsA b o (ldrop xs i)) (by rw [ldrop_no hi]) ?_
  refine J_return (()) Tryz.results193 (.tmp rfl .nil) ?_ ?_
  · simp [one, hi]
  · exact SU
  have hi : i ∈ xs := by simpa using h11
  refine J_skip <| Q_then <| J_seq <| J_drawT 5 mixed (by kernel_rfl) <| sm rfl rfl <| sp rfl (p_nilCheck rfl) <| sp rfl (p_fieldAddr rfl fa211_1) <| S_val rfl (v_loadL rfl ty209 HS rfl (by exact rfl)) ?_
  refine S_val rfl (v_loadA rfl ty39 HS CT) ?_
  refine S_nil <| L_op <| x_delete (ek := kI) (ev := evB) (a := i) rfl rfl ky39 Tryz.underlying209 PC ?_
  refine nx <| mv rfl rfl <| mv rfl rfl <| nc rfl rfl <| fa rfl rfl fa211_0 <| L_val rfl (v_loadL rfl ty208 HS rfl (by exact rfl)) ?_
  refine L_pur rfl (p_makeFunc (.cons rfl .nil)) <| L_op <| xc fc250 (.cons rfl (.cons rfl .nil)) rfl (deletefunc250 (xs := xs) (enc := encI) (q := isI i) (C := blk b3 39 (encI i)) Tryz.func251 nm251 bd251 (fun l' c hc => clo251 hc) PC HS encI_one encI_len) <| JR fun a23 c23 hw23 hl23 hm23 hz23 => nc rfl rfl <| fa rfl rfl fa211_0 <| L_op <| x_storeL rfl rfl ty208 rfl SM SM rfl RO rfl PT ?_
  refine nx <| ag rfl rfl <| nq <| J_ret <| J_lsS (b := b) (o := o) (xs := xs.filter fun c => !isI i c) _ _ _ PX (hw.drop i) ?_
  refine J_return (()) Tryz.results193 (.tmp rfl .nil) ?_ ?_
  · simp [one, hi]
  · exact SU
theorem lPop {E : World} {l m : List As}{b o : Nat} {xs : List ID} (hp : Pick (lsA b o xs) l m) (hb : xs.length ≤ 100000) :
  Con Tryz.prog 195 #[.pointer (some ⟨b, o, none⟩)] E l (fun _ : Unit => .tuple #[.agg (encI (xs.headD (0, 0))).toArray, .bool (!xs.isEmpty)]) (fun _ => lsA b o xs.tail :: m) := by
 rcases xs with _ | ⟨x, r⟩
 ·
  refine Con.body (vs := [.pointer (some ⟨b, o, none⟩)]) (n := 22) Tryz.func195 rfl rfl [(0, .pointer (some ⟨b, o, none⟩))] (env_ok 1 rfl) <| J_pick hp <| J_lsO fun v ob ps hw => J_row (.there .here) fun hwf a cap hv h1 h2 h3 => ?_
  subst hv
  refine sr <| L_op <| x_alloc ty39 rfl fun b2 => ag rfl rfl <| nxx <| mv rfl rfl <| nc rfl rfl <| fa rfl rfl fa211_0 ?_
  refine L_val rfl (v_loadL rfl ty208 HS rfl (by exact rfl)) ?_
  refine L_pur rfl (p_len rfl Tryz.underlying208) <| L_pur rfl (p_eql rfl rfl) <| nq <| J_bool (t := 10) (c := true) rfl (by simp) <| C_true rfl <| sr <| L_pur rfl (bld39 .nil (by repeat constructor)) <| L_op <| x_store rfl rfl ty39 rfl SM SM RO PT ?_
  refine ag rfl rfl <| nq <| J_ret <| Q_then_ret <| J_lsS (b := b) (o := o) (xs := []) _ _ _ PX (hw) ?_
  exact J_return (()) Tryz.results195 (.cellA rfl ty39 HS CT (.tmp rfl .nil)) rfl SU
 ·
  refine Con.body (vs := [.pointer (some ⟨b, o, none⟩)]) (n := 22) Tryz.func195 rfl rfl [(0, .pointer (some ⟨b, o, none⟩))] (env_ok 1 rfl) <| J_pick hp <| J_lsO fun v ob ps hw => ?_
  have hnd := hw.1
  refine J_row (.there .here) fun hwf a cap hv h1 h2 h3 => ?_
  obtain ⟨bi, oi, rfl⟩ := h3 (by simp)
  subst hv
  refine sr <| L_op <| x_alloc ty39 rfl fun b2 => ag rfl rfl <| nxx <| mv rfl rfl <| nc rfl rfl <| fa rfl rfl fa211_0 ?_
  refine L_val rfl (v_loadL rfl ty208 HS rfl (by exact rfl)) ?_
  refine L_pur rfl (p_len rfl Tryz.underlying208) <| L_pur rfl (p_eql rfl rfl) <| nq <| J_bool (t := 10) (c := false) rfl (by simp; omega) <| C_false rfl <| J_skip <| qx <| mv rfl rfl ?_
  refine nc rfl rfl <| fa rfl rfl fa211_0 <| L_val rfl (v_loadL rfl ty208 HS rfl (by exact rfl)) ?_
  refine L_pur rfl (p_indexAddr rfl rfl Tryz.underlying208 ty39 (by omega) (by simp)) <| L_val rfl (v_loadE rfl ty39 HS (by rfl)) ?_
  refine L_op <| x_alloc ty39 rfl fun b4 => L_op <| x_store rfl rfl ty39 rfl SM SM RO PT ?_
  refine nx <| J_lsS (b := b) (o := o) (xs := x :: r) _ _ _ PX (hw) ?_
  refine mv rfl rfl <| L_val rfl (v_loadA rfl ty39 HS CT) ?_
  refine L_op <| xc fc193 (.cons rfl (.cons rfl .nil)) rfl (lDrop (i := x) PC (by omega)) fun _ => ?_
  refine J_asTo (B := lsA b o r) (by rw [ldrop_head hnd]) <| nx <| L_val rfl (v_loadA rfl ty39 HS CT) ?_
  refine L_op <| x_store rfl rfl ty39 rfl SM SM RO PT ?_
  refine ag rfl rfl <| nq <| J_ret ?_
  exact J_return (()) Tryz.results195 (.cellA rfl ty39 HS CT (.tmp rfl .nil)) rfl SU
abbrev orb (w x : Int) : Int := bits .or .u32 w x
def woke (w : Int) (xs : List ID) (x : Int) : Bool := !decide (orb w x = 0) && !xs.isEmpty
def sigI (w : Int) (xs : List ID) (x : Int) : ID := if woke w xs x then xs.headD (0, 0) else (0, 0)
def sigV (w : Int) (xs : List ID) (x : Int) : Int := if woke w xs x then orb w x else 0
def sigW (w : Int) (xs : List ID) (x : Int) : Int := if woke w xs x then 0 else orb w x
def sigL (w : Int) (xs : List ID) (x : Int) : List ID := if woke w xs x then xs.tail else xs
def waitL (w : Int) (xs : List ID) (i : ID) : List ID := if w = 0 then lpush xs i else xs
theorem sigL_len (w : Int) (xs : List ID) (x : Int) : (sigL w xs x).length ≤ xs.length := by unfold sigL; split <;> simp
theorem waitL_len (w : Int) (xs : List ID) (i : ID) : (waitL w xs i).length ≤ xs.length + 1 := by
  unfold waitL; split
  · exact lpush_len xs i
  · omega
theorem ntWaits {E : World} {l m : List As} {b o : Nat} {w : Int} {xs : List ID} (hp : Pick (ntA b o w xs) l m) (hb : xs.length ≤ 100000) :
    Con Tryz.prog 301 #[.pointer (some ⟨b, o, none⟩)] E l (fun v : Value => v) (fun v => row 39 2 v (xs.map encI) :: ntA b o w xs :: m) := by
  refine Con.body (vs := [.pointer (some ⟨b, o, none⟩)]) (n := 7) Tryz.func301 rfl rfl [(0, .pointer (some ⟨b, o, none⟩))] (env_ok 1 rfl) <| J_pick hp <| J_ntO fun _ _ => sr <| ag rfl rfl <| nx <| mv rfl rfl <| nc rfl rfl ?_
  refine fa rfl rfl fa213_1 <| L_op <| xc fc309 (.cons rfl .nil) rfl (lAll (xs := xs) PC (by omega)) <| JR fun a6 c6 hw6 hl6 hm6 hz6 => ag rfl rfl <| nq <| J_ret <| J_ntS (b := b) (o := o) (w := w) (xs := xs) PX trivial ?_
  exact J_return (_) Tryz.results301 (.tmp rfl .nil) rfl SU
theorem ntDropC {E : World} {l m : List As} {b o : Nat} {w : Int} {xs : List ID} (hp : Pick (ntA b o w xs) l m) (hb : xs.length ≤ 100000) {i : ID} :
    Con Tryz.prog 132 #[.pointer (some ⟨b, o, none⟩), .agg (encI i).toArray] E l (fun _ : Unit => .bool (decide (i ∈ xs))) (fun _ => ntA b o w (ldrop xs i) :: m) := by
  refine Con.body (vs := [.pointer (some ⟨b, o, none⟩), .agg (encI i).toArray]) (n := 10) Tryz.func132 rfl rfl [(0, .pointer (some ⟨b, o, none⟩)), (1, .agg (encI i).toArray)] (env_ok 2 rfl) <| J_pick hp <| J_ntO fun _ _ => sr <| L_op <| x_box rfl rfl rfl fun b3 => ag rfl rfl <| nq ?_
  refine J_seq <| J_drawT 4 mixed (by kernel_rfl) <| sm rfl rfl <| sp rfl (p_nilCheck rfl) <| sp rfl (p_fieldAddr rfl fa213_1) <| S_val rfl (v_loadA rfl ty39 HS CT) ?_
  refine S_nil <| L_op <| xc fc193 (.cons rfl (.cons rfl .nil)) rfl (lDrop (xs := xs) (i := i) PC (by omega)) fun _ => ?_
  refine ag rfl rfl <| nq <| J_ret <| J_ntS (b := b) (o := o) (w := w) (xs := ldrop xs i) PX trivial ?_
  exact J_return (()) Tryz.results132 (.tmp rfl .nil) rfl SU
theorem ntSignal {E : World} {l m : List As} {b o : Nat} {w : Int} {xs : List ID} (hp : Pick (ntA b o w xs) l m) (hb : xs.length ≤ 100000) {x : Int} :
    Con Tryz.prog 139 #[.pointer (some ⟨b, o, none⟩), .int .u32 x] E l (fun _ : Unit => .tuple #[.agg (encI (sigI w xs x)).toArray, .int .u32 (sigV w xs x), .bool (woke w xs x)]) (fun _ => ntA b o (sigW w xs x) (sigL w xs x) :: m) := by
  refine Con.body (vs := [.pointer (some ⟨b, o, none⟩), .int .u32 x]) (n := 43) Tryz.func139 rfl rfl [(0, .pointer (some ⟨b, o, none⟩)), (1, .int .u32 x)] (env_ok 2 rfl) <| J_pick hp <| J_ntO fun _ _ => sr <| L_op <| x_alloc ty39 rfl fun b4 => ag rfl rfl <| ag rfl rfl ?_
  refine nx <| mv rfl rfl <| nc rfl rfl <| fa rfl rfl fa213_0 <| L_val rfl (v_loadL rfl ty22 HS rfl (by exact rfl)) ?_
  refine mv rfl rfl <| L_pur rfl (p_or rfl rfl) <| nc rfl rfl <| fa rfl rfl fa213_0 <| L_op <| x_storeL rfl rfl ty22 rfl SM SM rfl RO rfl PT ?_
  refine nxx <| mv rfl rfl <| nc rfl rfl <| fa rfl rfl fa213_0 <| L_val rfl (v_loadL rfl ty22 HS rfl (by exact rfl)) ?_
  refine L_pur rfl (p_eql rfl rfl) <| nq ?_
  refine C_dec rfl (fun h22 => ?_) (fun h22 => ?_)
  have h22' : orb w x = 0 := h22
  have hwk : woke w xs x = false := by simp [woke, h22']
  have e1 : sigI w xs x = (0, 0) := by simp [sigI, hwk]
  have e2 : sigV w xs x = 0 := by simp [sigV, hwk]
  have e3 : sigW w xs x = orb w x := by simp [sigW, hwk]
  have e4 : sigL w xs x = xs := by simp [sigL, hwk]
  refine sr <| L_pur rfl (bld39 .nil (by repeat constructor)) <| L_op <| x_store rfl rfl ty39 rfl SM SM RO PT ?_
  refine ag rfl rfl <| ag rfl rfl <| nq <| J_ret <| Q_then_ret <| J_ntS (b := b) (o := o) (w := orb w x) (xs := xs) PX trivial ?_
  refine J_asTo (B := ntA b o (sigW w xs x) (sigL w xs x)) (by first | (rw [e3, e4]; done) | (rw [e3, e4]; rfl)) ?_
  refine J_return (()) Tryz.results139 (.cellA rfl ty39 HS CT (.tmp rfl (.tmp rfl .nil))) ?_ ?_
  · rw [e1, e2, hwk]; rfl
  · exact SU
  have h22' : ¬ orb w x = 0 := h22
  refine J_skip <| qx <| mv rfl rfl <| nc rfl rfl <| fa rfl rfl fa213_1 <| L_op <| xc fc195 (.cons rfl .nil) rfl (lPop (xs := xs) PC (by omega)) fun _ => ?_
  refine mv rfl rfl <| L_pur rfl (p_extract rfl rfl) <| L_pur rfl (p_extract rfl rfl) <| L_op <| x_alloc ty39 rfl fun b7 => L_op <| x_store rfl rfl ty39 rfl SM SM RO PT ?_
  refine ag rfl rfl <| nxx <| mv rfl rfl <| L_pur rfl (p_not rfl) <| nq ?_
  refine C_split rfl (fun h32 => ?_) (fun h32 => ?_)
  have hnil : xs = [] := by simpa using h32
  subst hnil
  have hwk : woke w [] x = false := by simp [woke, h22']
  have e1 : sigI w [] x = (0, 0) := by simp [sigI, hwk]
  have e2 : sigV w [] x = 0 := by simp [sigV, hwk]
  have e3 : sigW w [] x = orb w x := by simp [sigW, hwk]
  have e4 : sigL w [] x = [] := by simp [sigL, hwk]
  refine sr <| L_pur rfl (bld39 .nil (by repeat constructor)) <| L_op <| x_store rfl rfl ty39 rfl SM SM RO PT ?_
  refine ag rfl rfl <| ag rfl rfl <| nq <| J_ret <| Q_then_ret <| J_ntS (b := b) (o := o) (w := orb w x) (xs := List.tail []) PX trivial ?_
  refine J_asTo (B := ntA b o (sigW w [] x) (sigL w [] x)) (by first | (rw [e3, e4]; done) | (rw [e3, e4]; rfl)) ?_
  refine J_return (()) Tryz.results139 (.cellA rfl ty39 HS CT (.tmp rfl (.tmp rfl .nil))) ?_ ?_
  · rw [e1, e2, hwk]; rfl
  · exact SU
  have hne : xs.isEmpty = false := by simpa using h32
  have hwk : woke w xs x = true := by simp [woke, h22', hne]
  have e1 : sigI w xs x = xs.headD (0, 0) := by simp [sigI, hwk]
  have e2 : sigV w xs x = orb w x := by simp [sigV, hwk]
  have e3 : sigW w xs x = 0 := by simp [sigW, hwk]
  have e4 : sigL w xs x = xs.tail := by simp [sigL, hwk]
  refine J_skip <| qx <| mv rfl rfl <| nc rfl rfl <| fa rfl rfl fa213_0 <| L_val rfl (v_loadL rfl ty22 HS rfl (by exact rfl)) ?_
  refine ag rfl rfl <| nx <| mv rfl rfl <| nc rfl rfl <| fa rfl rfl fa213_0 <| L_op <| x_storeL rfl rfl ty22 rfl SM SM rfl RO rfl PT ?_
  refine nx <| L_val rfl (v_loadA rfl ty39 HS CT) ?_
  refine mv rfl rfl <| L_op <| x_store rfl rfl ty39 rfl SM SM RO PT ?_
  refine ag rfl rfl <| ag rfl rfl <| nq <| J_ret <| J_ntS (b := b) (o := o) (w := 0) (xs := xs.tail) PX trivial ?_
  refine J_asTo (B := ntA b o (sigW w xs x) (sigL w xs x)) (by first | (rw [e3, e4]; done) | (rw [e3, e4]; rfl)) ?_
  refine J_return (()) Tryz.results139 (.cellA rfl ty39 HS CT (.tmp rfl (.tmp rfl .nil))) ?_ ?_
  · rw [e1, e2, hwk]; rfl
  · exact SU
def isM (i : ID) (m : Msg) : Bool := decide (m.1.1 = i.1 ∧ m.1.2 = i.2)
def isR (i : ID) (r : Rcv) : Bool := decide (r.1.1 = i.1 ∧ r.1.2 = i.2)
abbrev mdrop (xs : List Msg) (i : ID) : List Msg := xs.filter fun c => !isM i c
abbrev rdrop (xs : List Rcv) (i : ID) : List Rcv := xs.filter fun c => !isR i c
theorem encM_one (c : Msg) : ones (encM c) = true := rfl
theorem encM_len (c : Msg) : (encM c).length = 5 := rfl
theorem encR_one (c : Rcv) : ones (encR c) = true := rfl
theorem encR_len (c : Rcv) : (encR c).length = 3 := rfl
theorem encT_one (c : Tm) : ones (encT c) = true := rfl
theorem encT_len (c : Tm) : (encT c).length = 3 := rfl
def isTm (i : ID) (c : Tm) : Bool := decide (c.2.1 = i.1 ∧ c.2.2 = i.2)
abbrev tdrop (xs : List Tm) (i : ID) : List Tm := xs.filter fun c => !isTm i c
theorem indexfunc248 {E : World} {l : List As} {v : Value} {α : Type} {enc : α → List Value} {xs : List α} {g : FuncId} {caps : Array Value} {fn : Func} (hf : Tryz.prog.funcs[g]? = some fn) (hn : (fn.name == "runtime.NumGoroutine") = false) (hb : fn.body.isNone = false) {q : α → Bool} {C : As} (hg : ∀ (l' : List As) (c : α), Has C l' → Con Tryz.prog g (#[.agg (enc c).toArray] ++ caps) E l' (fun _ : Unit => .bool (q c)) (fun _ => l')) (hv : Has (row 340 5 v (xs.map enc)) l) (hc : Has C l) :
    Con Tryz.prog 248 #[v, .func (.func g) #[] caps] E l (fun _ : Unit => .int .i64 (idx q xs)) (fun _ => l) := by
  refine Con.body (vs := [v, .func (.func g) #[] caps]) (n := 19) Tryz.func248 rfl rfl [(0, v), (1, .func (.func g) #[] caps)] (env_ok 2 rfl) <| J_row hv fun hw a cap hv h1 h2 h3 => ?_
  subst hv
  have hm : cap ≤ 9223372036854775807 := h2
  have hml : (xs.map enc).length = xs.length := List.length_map _
  refine sr <| ag rfl rfl <| nxx <| mv rfl rfl <| L_pur rfl (p_len rfl Tryz.underlying177) <| mv rfl rfl <| nq <| J_block ?_
  refine J_loop (α := Nat) (fun i => i ≤ xs.length ∧ ∀ c ∈ xs.take i, q c = false) (fun _ => l) (fun i => [(8, .int .i64 (i : Int)), (7, .int .i64 (xs.map enc).length), (0, .slice a (xs.map enc).length cap), (1, .func (.func g) #[] caps)]) (fun i => xs.length - i) 0 ⟨by omega, by simp⟩ SU KE ?_
  intro i ⟨hi, hq⟩
  refine sr <| L_pur rfl (p_lss rfl rfl) <| nq <| J_seq ?_
  refine C_dec rfl (fun h9 => ?_) (fun h9 => ?_)
  have hlt : i < xs.length := by omega
  obtain ⟨b, o, rfl⟩ := h3 (by intro h; rw [h] at hml; simp at hml; omega)
  obtain ⟨c, hcc⟩ : ∃ c, xs[i]? = some c := ⟨_, List.getElem?_eq_getElem hlt⟩
  refine J_skip <| Q_then <| J_seq <| J_block <| sr <| mv rfl rfl <| ag rfl rfl <| nx ?_
  refine mv rfl rfl <| mv rfl rfl <| mv rfl rfl <| L_pur rfl (p_indexAddr rfl rfl Tryz.underlying177 ty340 (by omega) (by omega)) ?_
  refine L_val rfl (v_loadE rfl ty340 HS (by simp only [Int.toNat_natCast, List.getElem?_map, hcc]; rfl)) ?_
  refine L_op <| x_callc rfl hf hn hb (.cons rfl .nil) rfl (hg _ c hc) fun _ => nq ?_
  refine C_split rfl (fun h16 => ?_) (fun h16 => ?_)
  have hidx := idx_here hq hcc h16
  refine sr <| mv rfl rfl <| ag rfl rfl <| nq <| J_ret <| Q_blk_ret <| Q_then_ret <| Q_then_ret ?_
  refine Q_blk_ret <| Q_then_ret ?_
  refine J_return (()) Tryz.results248 (.tmp rfl .nil) ?_ ?_
  · simp [one, hidx]
  · exact SU
  refine J_skip <| Q_blk_normal <| qr <| L_pur rfl (p_add64 rfl rfl (by omega)) <| mv rfl rfl <| nq ?_
  exact J_again (i + 1) (by omega) (⟨by omega, take_false_succ hq hcc h16⟩) SU KE
  have hix : i = xs.length := by omega
  rw [hix, List.take_length] at hq
  have hidx := idx_none hq
  refine J_exit <| Q_then_exit <| Q_then_exit <| Q_blk_this <| qx <| ag rfl rfl <| nq <| J_ret ?_
  refine J_return (()) Tryz.results248 (.tmp rfl .nil) ?_ ?_
  · simp [one, hidx]
  · exact SU
theorem indexfunc249 {E : World} {l : List As} {v : Value} {α : Type} {enc : α → List Value} {xs : List α} {g : FuncId} {caps : Array Value} {fn : Func} (hf : Tryz.prog.funcs[g]? = some fn) (hn : (fn.name == "runtime.NumGoroutine") = false) (hb : fn.body.isNone = false) {q : α → Bool} {C : As} (hg : ∀ (l' : List As) (c : α), Has C l' → Con Tryz.prog g (#[.agg (enc c).toArray] ++ caps) E l' (fun _ : Unit => .bool (q c)) (fun _ => l')) (hv : Has (row 176 3 v (xs.map enc)) l) (hc : Has C l) :
    Con Tryz.prog 249 #[v, .func (.func g) #[] caps] E l (fun _ : Unit => .int .i64 (idx q xs)) (fun _ => l) := by
  refine Con.body (vs := [v, .func (.func g) #[] caps]) (n := 19) Tryz.func249 rfl rfl [(0, v), (1, .func (.func g) #[] caps)] (env_ok 2 rfl) <| J_row hv fun hw a cap hv h1 h2 h3 => ?_
  subst hv
  have hm : cap ≤ 9223372036854775807 := h2
  have hml : (xs.map enc).length = xs.length := List.length_map _
  refine sr <| ag rfl rfl <| nxx <| mv rfl rfl <| L_pur rfl (p_len rfl Tryz.underlying59) <| mv rfl rfl <| nq <| J_block ?_
  refine J_loop (α := Nat) (fun i => i ≤ xs.length ∧ ∀ c ∈ xs.take i, q c = false) (fun _ => l) (fun i => [(8, .int .i64 (i : Int)), (7, .int .i64 (xs.map enc).length), (0, .slice a (xs.map enc).length cap), (1, .func (.func g) #[] caps)]) (fun i => xs.length - i) 0 ⟨by omega, by simp⟩ SU KE ?_
  intro i ⟨hi, hq⟩
  refine sr <| L_pur rfl (p_lss rfl rfl) <| nq <| J_seq ?_
  refine C_dec rfl (fun h9 => ?_) (fun h9 => ?_)
  have hlt : i < xs.length := by omega
  obtain ⟨b, o, rfl⟩ := h3 (by intro h; rw [h] at hml; simp at hml; omega)
  obtain ⟨c, hcc⟩ : ∃ c, xs[i]? = some c := ⟨_, List.getElem?_eq_getElem hlt⟩
  refine J_skip <| Q_then <| J_seq <| J_block <| sr <| mv rfl rfl <| ag rfl rfl <| nx ?_
  refine mv rfl rfl <| mv rfl rfl <| mv rfl rfl <| L_pur rfl (p_indexAddr rfl rfl Tryz.underlying59 ty176 (by omega) (by omega)) ?_
  refine L_val rfl (v_loadE rfl ty176 HS (by simp only [Int.toNat_natCast, List.getElem?_map, hcc]; rfl)) ?_
  refine L_op <| x_callc rfl hf hn hb (.cons rfl .nil) rfl (hg _ c hc) fun _ => nq ?_
  refine C_split rfl (fun h16 => ?_) (fun h16 => ?_)
  have hidx := idx_here hq hcc h16
  refine sr <| mv rfl rfl <| ag rfl rfl <| nq <| J_ret <| Q_blk_ret <| Q_then_ret <| Q_then_ret ?_
  refine Q_blk_ret <| Q_then_ret ?_
  refine J_return (()) Tryz.results249 (.tmp rfl .nil) ?_ ?_
  · simp [one, hidx]
  · exact SU
  refine J_skip <| Q_blk_normal <| qr <| L_pur rfl (p_add64 rfl rfl (by omega)) <| mv rfl rfl <| nq ?_
  exact J_again (i + 1) (by omega) (⟨by omega, take_false_succ hq hcc h16⟩) SU KE
  have hix : i = xs.length := by omega
  rw [hix, List.take_length] at hq
  have hidx := idx_none hq
  refine J_exit <| Q_then_exit <| Q_then_exit <| Q_blk_this <| qx <| ag rfl rfl <| nq <| J_ret ?_
  refine J_return (()) Tryz.results249 (.tmp rfl .nil) ?_ ?_
  · simp [one, hidx]
  · exact SU
theorem deletefunc189 {E : World} {l m : List As} {v : Value} {α : Type} {enc : α → List Value} {xs : List α} {g : FuncId} {caps : Array Value} {fn : Func} (hf : Tryz.prog.funcs[g]? = some fn) (hn : (fn.name == "runtime.NumGoroutine") = false) (hb : fn.body.isNone = false) {q : α → Bool} {C : As} (hg : ∀ (l' : List As) (c : α), Has C l' → Con Tryz.prog g (#[.agg (enc c).toArray] ++ caps) E l' (fun _ : Unit => .bool (q c)) (fun _ => l')) (hv : Pick (row 340 5 v (xs.map enc)) l m) (hc : Has C m) (hone : ∀ c, ones (enc c) = true) (hlen : ∀ c, (enc c).length = 5) :
  Con Tryz.prog 189 #[v, .func (.func g) #[] caps] E l (fun v' : Value => v') (fun v' => row 340 5 v' ((xs.filter fun c => !q c).map enc) :: m) := by
 rcases idx_cases q xs with ⟨hi0, hall⟩ | ⟨i0, hi0, hlt0, hpre, c0, hc0, hq0⟩
 ·
  refine Con.body (vs := [v, .func (.func g) #[] caps]) (n := 42) Tryz.func189 rfl rfl [(0, v), (1, .func (.func g) #[] caps)] (env_ok 2 rfl) <| J_pick hv <| sr <| ag rfl rfl <| nx <| mv rfl rfl <| mv rfl rfl <| L_op <| xc fc248 (.cons rfl (.cons rfl .nil)) rfl (indexfunc248 hf hn hb hg .here (.there hc)) fun _ => ?_
  refine ag rfl rfl <| nxx <| mv rfl rfl <| L_pur rfl (p_eql rfl rfl) <| nq <| J_bool (t := 12) (c := true) rfl (by simp [hi0]) <| C_true rfl <| sr ?_
  refine J_rowEq (ys := (xs.filter fun c => !q c).map enc) (by rw [List.filter_eq_self.2 (fun c hc => by simp [hall c hc])]) <| mv rfl rfl <| ag rfl rfl <| nq <| J_ret <| Q_then_ret ?_
  exact J_return (_) Tryz.results189 (.tmp rfl .nil) rfl SU
 ·
  refine Con.body (vs := [v, .func (.func g) #[] caps]) (n := 42) Tryz.func189 rfl rfl [(0, v), (1, .func (.func g) #[] caps)] (env_ok 2 rfl) <| J_pick hv <| J_row .here fun hw a cap hv h1 h2 h3 => ?_
  obtain ⟨b, o, rfl⟩ := h3 (by intro h; have := congrArg List.length h; simp at this; subst this; simp at hlt0)
  subst hv
  have hm : cap ≤ 9223372036854775807 := h2
  have hml : (xs.map enc).length = xs.length := List.length_map _
  have hk0 : kept q xs (i0 + 1) = xs.take i0 := kept_first hpre hc0 hq0
  have hl0 : (xs.take i0).length = i0 := by simp; omega
  refine sr <| ag rfl rfl <| nx <| mv rfl rfl <| mv rfl rfl <| L_op <| xc fc248 (.cons rfl (.cons rfl .nil)) rfl (indexfunc248 hf hn hb hg .here (.there hc)) fun _ => J_slot (t := 10) (v := .int .i64 (i0 : Int)) rfl (by rw [hi0]) ?_
  refine ag rfl rfl <| nxx <| mv rfl rfl <| L_pur rfl (p_eql rfl rfl) <| nq <| J_bool (t := 12) (c := false) rfl (by simp) <| C_false rfl <| J_skip ?_
  refine Q_then <| J_seq <| sr <| mv rfl rfl <| L_pur rfl (p_add64 rfl rfl (by omega)) <| ag rfl rfl <| nq <| J_block ?_
  refine J_rowEq (ys := (kept q xs (i0 + 1) ++ xs.drop (kept q xs (i0 + 1)).length).map enc) (by rw [hk0, hl0, List.take_append_drop]) <| J_slot (t := 5) (v := .int .i64 ((kept q xs (i0 + 1)).length : Int)) rfl (by rw [hk0, hl0]) <| J_loop (α := Nat) (fun j => j ≤ xs.length) (fun j => row 340 5 (.slice (some ⟨b, o, none⟩) (xs.map enc).length cap) ((kept q xs j ++ xs.drop (kept q xs j).length).map enc) :: m) (fun j => [(6, .int .i64 (j : Int)), (5, .int .i64 ((kept q xs j).length : Int)), (0, .slice (some ⟨b, o, none⟩) (xs.map enc).length cap), (1, .func (.func g) #[] caps)]) (fun j => xs.length - j) (i0 + 1) (by omega) SU KE ?_
  intro j hj
  have hkl := kept_le q xs j
  refine J_seq <| sr <| mv rfl rfl <| mv rfl rfl <| L_pur rfl (p_len rfl Tryz.underlying177) <| L_pur rfl (p_lss rfl rfl) <| nq ?_
  refine C_dec rfl (fun h19 => ?_) (fun h19 => ?_)
  have hlt : j < xs.length := by omega
  obtain ⟨c, hcc⟩ : ∃ c, xs[j]? = some c := ⟨_, List.getElem?_eq_getElem hlt⟩
  refine J_skip <| Q_then <| J_seq <| J_block <| sr <| mv rfl rfl <| mv rfl rfl <| L_pur rfl (p_indexAddr rfl rfl Tryz.underlying177 ty340 (by omega) (by omega)) ?_
  refine L_val rfl (v_loadE rfl ty340 HS (by simp only [Int.toNat_natCast, List.getElem?_map, kept_get, hcc]; rfl)) ?_
  refine L_op <| x_alloc ty340 rfl fun b7 => L_op <| x_store rfl rfl ty340 rfl SM SM RO PT ?_
  refine nx <| mv rfl rfl <| L_val rfl (v_loadA rfl ty340 HS CT) ?_
  refine L_op <| x_callc rfl hf hn hb (.cons rfl .nil) rfl (hg _ c (.there (.there hc))) fun _ => L_pur rfl (p_not rfl) <| nq ?_
  refine C_split rfl (fun h29 => ?_) (fun h29 => ?_)
  have hqc : q c = false := by simpa using h29
  have hks := kept_set hcc hqc
  have hkl1 : (kept q xs (j + 1)).length = (kept q xs j).length + 1 := by rw [kept_succ hcc, hqc]; simp
  refine sr <| mv rfl rfl <| mv rfl rfl <| L_val rfl (v_loadA rfl ty340 HS CT) ?_
  refine L_pur rfl (p_indexAddr rfl rfl Tryz.underlying177 ty340 (by omega) (by omega)) <| L_op <| x_storeE (vs := enc c) rfl rfl ty340 rfl (hlen c) (hone c) PC (OM) ?_
  refine J_rowEq (ys := (kept q xs (j + 1) ++ xs.drop (kept q xs (j + 1)).length).map enc) (by rw [← hks, List.map_set]; simp) <| ny <| mv rfl rfl <| L_pur rfl (p_add64 rfl rfl (by omega)) <| ag rfl rfl <| L_nil <| Q_blk_normal <| qr ?_
  refine mv rfl rfl <| L_pur rfl (p_add64 rfl rfl (by omega)) <| ag rfl rfl <| nq <| J_slot (t := 5) (v := .int .i64 ((kept q xs (j + 1)).length : Int)) rfl (by rw [hkl1]; rfl) ?_
  exact J_again (j + 1) (by omega) (by omega) SU KE
  have hqc : q c = true := by simpa using h29
  have hks : kept q xs (j + 1) = kept q xs j := by rw [kept_succ hcc, hqc]; simp
  refine J_skip <| Q_blk_normal <| qr <| mv rfl rfl <| L_pur rfl (p_add64 rfl rfl (by omega)) <| ag rfl rfl <| nq <| J_slot (t := 5) (v := .int .i64 ((kept q xs (j + 1)).length : Int)) rfl (by rw [hks]) ?_
  refine J_pick (A := row 340 5 (.slice (some ⟨b, o, none⟩) (xs.map enc).length cap) ((kept q xs j ++ xs.drop (kept q xs j).length).map enc)) PC ?_
  refine J_rowEq (ys := (kept q xs (j + 1) ++ xs.drop (kept q xs (j + 1)).length).map enc) (by rw [hks]) ?_
  exact J_again (j + 1) (by omega) (by omega) SU KE
  have hjx : j = xs.length := by omega
  have hka : kept q xs j = xs.filter fun c => !q c := kept_all (by omega)
  refine J_exit <| Q_then_exit <| Q_then_exit <| Q_blk_this <| qx <| mv rfl rfl <| mv rfl rfl <| L_pur rfl (p_slice rfl Tryz.underlying177 ty340 rfl rfl (by omega) (by omega) (by omega)) ?_
  refine L_op <| x_clear (len := (xs.map enc).length) rfl Tryz.underlying177 ty340 rfl rfl PC (OM) ?_
  refine nx <| mv rfl rfl <| mv rfl rfl <| L_pur rfl (p_slice rfl Tryz.underlying177 ty340 rfl rfl (by omega) (by omega) (by omega)) <| J_take (k := (kept q xs j).length) (OM) <| J_rowTo (v' := .slice (some ⟨b, o, none⟩) (kept q xs j).length cap) (ys := (xs.filter fun c => !q c).map enc) (by simp [hka]) rfl <| J_slot (t := 41) (v := .slice (some ⟨b, o, none⟩) (kept q xs j).length cap) rfl (by simp [Addr.add]) <| ag rfl rfl ?_
  refine nq <| J_ret ?_
  exact J_return (_) Tryz.results189 (.tmp rfl .nil) rfl SU
theorem deletefunc191 {E : World} {l m : List As} {v : Value} {α : Type} {enc : α → List Value} {xs : List α} {g : FuncId} {caps : Array Value} {fn : Func} (hf : Tryz.prog.funcs[g]? = some fn) (hn : (fn.name == "runtime.NumGoroutine") = false) (hb : fn.body.isNone = false) {q : α → Bool} {C : As} (hg : ∀ (l' : List As) (c : α), Has C l' → Con Tryz.prog g (#[.agg (enc c).toArray] ++ caps) E l' (fun _ : Unit => .bool (q c)) (fun _ => l')) (hv : Pick (row 176 3 v (xs.map enc)) l m) (hc : Has C m) (hone : ∀ c, ones (enc c) = true) (hlen : ∀ c, (enc c).length = 3) :
  Con Tryz.prog 191 #[v, .func (.func g) #[] caps] E l (fun v' : Value => v') (fun v' => row 176 3 v' ((xs.filter fun c => !q c).map enc) :: m) := by
 rcases idx_cases q xs with ⟨hi0, hall⟩ | ⟨i0, hi0, hlt0, hpre, c0, hc0, hq0⟩
 ·
  refine Con.body (vs := [v, .func (.func g) #[] caps]) (n := 42) Tryz.func191 rfl rfl [(0, v), (1, .func (.func g) #[] caps)] (env_ok 2 rfl) <| J_pick hv <| sr <| ag rfl rfl <| nx <| mv rfl rfl <| mv rfl rfl <| L_op <| xc fc249 (.cons rfl (.cons rfl .nil)) rfl (indexfunc249 hf hn hb hg .here (.there hc)) fun _ => ?_
  refine ag rfl rfl <| nxx <| mv rfl rfl <| L_pur rfl (p_eql rfl rfl) <| nq <| J_bool (t := 12) (c := true) rfl (by simp [hi0]) <| C_true rfl <| sr ?_
  refine J_rowEq (ys := (xs.filter fun c => !q c).map enc) (by rw [List.filter_eq_self.2 (fun c hc => by simp [hall c hc])]) <| mv rfl rfl <| ag rfl rfl <| nq <| J_ret <| Q_then_ret ?_
  exact J_return (_) Tryz.results191 (.tmp rfl .nil) rfl SU
 ·
  refine Con.body (vs := [v, .func (.func g) #[] caps]) (n := 42) Tryz.func191 rfl rfl [(0, v), (1, .func (.func g) #[] caps)] (env_ok 2 rfl) <| J_pick hv <| J_row .here fun hw a cap hv h1 h2 h3 => ?_
  obtain ⟨b, o, rfl⟩ := h3 (by intro h; have := congrArg List.length h; simp at this; subst this; simp at hlt0)
  subst hv
  have hm : cap ≤ 9223372036854775807 := h2
  have hml : (xs.map enc).length = xs.length := List.length_map _
  have hk0 : kept q xs (i0 + 1) = xs.take i0 := kept_first hpre hc0 hq0
  have hl0 : (xs.take i0).length = i0 := by simp; omega
  refine sr <| ag rfl rfl <| nx <| mv rfl rfl <| mv rfl rfl <| L_op <| xc fc249 (.cons rfl (.cons rfl .nil)) rfl (indexfunc249 hf hn hb hg .here (.there hc)) fun _ => J_slot (t := 10) (v := .int .i64 (i0 : Int)) rfl (by rw [hi0]) ?_
  refine ag rfl rfl <| nxx <| mv rfl rfl <| L_pur rfl (p_eql rfl rfl) <| nq <| J_bool (t := 12) (c := false) rfl (by simp) <| C_false rfl <| J_skip ?_
  refine Q_then <| J_seq <| sr <| mv rfl rfl <| L_pur rfl (p_add64 rfl rfl (by omega)) <| ag rfl rfl <| nq <| J_block ?_
  refine J_rowEq (ys := (kept q xs (i0 + 1) ++ xs.drop (kept q xs (i0 + 1)).length).map enc) (by rw [hk0, hl0, List.take_append_drop]) <| J_slot (t := 5) (v := .int .i64 ((kept q xs (i0 + 1)).length : Int)) rfl (by rw [hk0, hl0]) <| J_loop (α := Nat) (fun j => j ≤ xs.length) (fun j => row 176 3 (.slice (some ⟨b, o, none⟩) (xs.map enc).length cap) ((kept q xs j ++ xs.drop (kept q xs j).length).map enc) :: m) (fun j => [(6, .int .i64 (j : Int)), (5, .int .i64 ((kept q xs j).length : Int)), (0, .slice (some ⟨b, o, none⟩) (xs.map enc).length cap), (1, .func (.func g) #[] caps)]) (fun j => xs.length - j) (i0 + 1) (by omega) SU KE ?_
  intro j hj
  have hkl := kept_le q xs j
  refine J_seq <| sr <| mv rfl rfl <| mv rfl rfl <| L_pur rfl (p_len rfl Tryz.underlying59) <| L_pur rfl (p_lss rfl rfl) <| nq ?_
  refine C_dec rfl (fun h19 => ?_) (fun h19 => ?_)
  have hlt : j < xs.length := by omega
  obtain ⟨c, hcc⟩ : ∃ c, xs[j]? = some c := ⟨_, List.getElem?_eq_getElem hlt⟩
  refine J_skip <| Q_then <| J_seq <| J_block <| sr <| mv rfl rfl <| mv rfl rfl <| L_pur rfl (p_indexAddr rfl rfl Tryz.underlying59 ty176 (by omega) (by omega)) ?_
  refine L_val rfl (v_loadE rfl ty176 HS (by simp only [Int.toNat_natCast, List.getElem?_map, kept_get, hcc]; rfl)) ?_
  refine L_op <| x_alloc ty176 rfl fun b7 => L_op <| x_store rfl rfl ty176 rfl SM SM RO PT ?_
  refine nx <| mv rfl rfl <| L_val rfl (v_loadA rfl ty176 HS CT) ?_
  refine L_op <| x_callc rfl hf hn hb (.cons rfl .nil) rfl (hg _ c (.there (.there hc))) fun _ => L_pur rfl (p_not rfl) <| nq ?_
  refine C_split rfl (fun h29 => ?_) (fun h29 => ?_)
  have hqc : q c = false := by simpa using h29
  have hks := kept_set hcc hqc
  have hkl1 : (kept q xs (j + 1)).length = (kept q xs j).length + 1 := by rw [kept_succ hcc, hqc]; simp
  refine sr <| mv rfl rfl <| mv rfl rfl <| L_val rfl (v_loadA rfl ty176 HS CT) ?_
  refine L_pur rfl (p_indexAddr rfl rfl Tryz.underlying59 ty176 (by omega) (by omega)) <| L_op <| x_storeE (vs := enc c) rfl rfl ty176 rfl (hlen c) (hone c) PC (OM) ?_
  refine J_rowEq (ys := (kept q xs (j + 1) ++ xs.drop (kept q xs (j + 1)).length).map enc) (by rw [← hks, List.map_set]; simp) <| ny <| mv rfl rfl <| L_pur rfl (p_add64 rfl rfl (by omega)) <| ag rfl rfl <| L_nil <| Q_blk_normal <| qr ?_
  refine mv rfl rfl <| L_pur rfl (p_add64 rfl rfl (by omega)) <| ag rfl rfl <| nq <| J_slot (t := 5) (v := .int .i64 ((kept q xs (j + 1)).length : Int)) rfl (by rw [hkl1]; rfl) ?_
  exact J_again (j + 1) (by omega) (by omega) SU KE
  have hqc : q c = true := by simpa using h29
  have hks : kept q xs (j + 1) = kept q xs j := by rw [kept_succ hcc, hqc]; simp
  refine J_skip <| Q_blk_normal <| qr <| mv rfl rfl <| L_pur rfl (p_add64 rfl rfl (by omega)) <| ag rfl rfl <| nq <| J_slot (t := 5) (v := .int .i64 ((kept q xs (j + 1)).length : Int)) rfl (by rw [hks]) ?_
  refine J_pick (A := row 176 3 (.slice (some ⟨b, o, none⟩) (xs.map enc).length cap) ((kept q xs j ++ xs.drop (kept q xs j).length).map enc)) PC ?_
  refine J_rowEq (ys := (kept q xs (j + 1) ++ xs.drop (kept q xs (j + 1)).length).map enc) (by rw [hks]) ?_
  exact J_again (j + 1) (by omega) (by omega) SU KE
  have hjx : j = xs.length := by omega
  have hka : kept q xs j = xs.filter fun c => !q c := kept_all (by omega)
  refine J_exit <| Q_then_exit <| Q_then_exit <| Q_blk_this <| qx <| mv rfl rfl <| mv rfl rfl <| L_pur rfl (p_slice rfl Tryz.underlying59 ty176 rfl rfl (by omega) (by omega) (by omega)) ?_
  refine L_op <| x_clear (len := (xs.map enc).length) rfl Tryz.underlying59 ty176 rfl rfl PC (OM) ?_
  refine nx <| mv rfl rfl <| mv rfl rfl <| L_pur rfl (p_slice rfl Tryz.underlying59 ty176 rfl rfl (by omega) (by omega) (by omega)) <| J_take (k := (kept q xs j).length) (OM) <| J_rowTo (v' := .slice (some ⟨b, o, none⟩) (kept q xs j).length cap) (ys := (xs.filter fun c => !q c).map enc) (by simp [hka]) rfl <| J_slot (t := 41) (v := .slice (some ⟨b, o, none⟩) (kept q xs j).length cap) rfl (by simp [Addr.add]) <| ag rfl rfl ?_
  refine nq <| J_ret ?_
  exact J_return (_) Tryz.results191 (.tmp rfl .nil) rfl SU
theorem clone308 {E : World} {l : List As} {v : Value} {xs : List (List Value)} (hr : ∀ w, Sep E w l → Reads w 5 v xs) (hb : xs.length ≤ 1000000) :
    Con Tryz.prog 308 #[v] E l (fun v' : Value => v') (fun v' => row 340 5 v' xs :: l) := by
  refine Con.body (vs := [v]) (n := 8) Tryz.func308 rfl rfl [(0, v)] (env_ok 1 rfl) <| J_reads hr fun hw a cap hv h1 h2 h3 => ?_
  subst hv
  refine sr <| ag rfl rfl <| nxx <| mv rfl rfl <| L_pur rfl (p_eqnil Tryz.underlying177 rfl) <| nq ?_
  refine C_split rfl (fun h4 => ?_) (fun h4 => ?_)
  obtain rfl : a = none := by simpa using h4
  obtain ⟨rfl, rfl⟩ := h3 rfl
  refine J_nil (el := 340) (sz := 5) <| sr <| ag rfl rfl <| nq <| J_ret <| Q_then_ret ?_
  exact J_return (_) Tryz.results308 (.tmp rfl .nil) rfl SU
  refine J_skip <| qx <| L_op <| x_lit (vals := []) Tryz.underlying177 ty340 rfl .nil .nil Wf.nil rfl (by decide) rfl rfl <| JR fun a5 c5 hw5 hl5 hm5 hz5 => mv rfl rfl <| L_op <| x_app rfl rfl Tryz.underlying177 ty340 rfl rfl PC (fun w H => hr w H.tail) (OM) (OM) rfl ?_
  refine JR fun a7 c7 hw7 hl7 hm7 hz7 => ag rfl rfl <| nq <| J_ret ?_
  exact J_return (_) Tryz.results308 (.tmp rfl .nil) rfl SU
theorem clone58 {E : World} {l : List As} {v : Value} {xs : List (List Value)} (hr : ∀ w, Sep E w l → Reads w 3 v xs) (hb : xs.length ≤ 1000000) :
    Con Tryz.prog 58 #[v] E l (fun v' : Value => v') (fun v' => row 176 3 v' xs :: l) := by
  refine Con.body (vs := [v]) (n := 8) Tryz.func58 rfl rfl [(0, v)] (env_ok 1 rfl) <| J_reads hr fun hw a cap hv h1 h2 h3 => ?_
  subst hv
  refine sr <| ag rfl rfl <| nxx <| mv rfl rfl <| L_pur rfl (p_eqnil Tryz.underlying59 rfl) <| nq ?_
  refine C_split rfl (fun h4 => ?_) (fun h4 => ?_)
  obtain rfl : a = none := by simpa using h4
  obtain ⟨rfl, rfl⟩ := h3 rfl
  refine J_nil (el := 176) (sz := 3) <| sr <| ag rfl rfl <| nq <| J_ret <| Q_then_ret ?_
  exact J_return (_) Tryz.results58 (.tmp rfl .nil) rfl SU
  refine J_skip <| qx <| L_op <| x_lit (vals := []) Tryz.underlying59 ty176 rfl .nil .nil Wf.nil rfl (by decide) rfl rfl <| JR fun a5 c5 hw5 hl5 hm5 hz5 => mv rfl rfl <| L_op <| x_app rfl rfl Tryz.underlying59 ty176 rfl rfl PC (fun w H => hr w H.tail) (OM) (OM) rfl ?_
  refine JR fun a7 c7 hw7 hl7 hm7 hz7 => ag rfl rfl <| nq <| J_ret ?_
  exact J_return (_) Tryz.results58 (.tmp rfl .nil) rfl SU
theorem clo190 {E : World} {l : List As} {bc : Nat} {i : ID} {c : Msg} (hc : Has (blk bc 39 (encI i)) l) :
    Con Tryz.prog 190 #[.agg (encM c).toArray, .pointer (some ⟨bc, 0, none⟩)] E l (fun _ : Unit => .bool (isM i c)) (fun _ => l) := by
  refine Con.body (vs := [.agg (encM c).toArray, .pointer (some ⟨bc, 0, none⟩)]) (n := 8) Tryz.func190 rfl rfl [(0, .agg (encM c).toArray), (1, .pointer (some ⟨bc, 0, none⟩))] (env_ok 2 rfl) <| sr <| L_op <| x_box rfl rfl rfl fun b2 => ag rfl rfl <| nx <| fa rfl rfl fa340_0 <| L_val rfl (v_loadA rfl ty39 HS CT) ?_
  refine L_val rfl (v_loadA rfl ty39 HS CT) ?_
  refine L_pur rfl (p_eqv rfl rfl (fun w => eg39 _ _ _ _ _ w) (fun w => eqv39 _ _ _ _ w)) <| ag rfl rfl <| nq <| J_ret ?_
  exact J_return (()) Tryz.results190 (.tmp rfl .nil) rfl SU
theorem clo192 {E : World} {l : List As} {bc : Nat} {i : ID} {c : Rcv} (hc : Has (blk bc 39 (encI i)) l) :
    Con Tryz.prog 192 #[.agg (encR c).toArray, .pointer (some ⟨bc, 0, none⟩)] E l (fun _ : Unit => .bool (isR i c)) (fun _ => l) := by
  refine Con.body (vs := [.agg (encR c).toArray, .pointer (some ⟨bc, 0, none⟩)]) (n := 8) Tryz.func192 rfl rfl [(0, .agg (encR c).toArray), (1, .pointer (some ⟨bc, 0, none⟩))] (env_ok 2 rfl) <| sr <| L_op <| x_box rfl rfl rfl fun b2 => ag rfl rfl <| nx <| fa rfl rfl fa176_0 <| L_val rfl (v_loadA rfl ty39 HS CT) ?_
  refine L_val rfl (v_loadA rfl ty39 HS CT) ?_
  refine L_pur rfl (p_eqv rfl rfl (fun w => eg39 _ _ _ _ _ w) (fun w => eqv39 _ _ _ _ w)) <| ag rfl rfl <| nq <| J_ret ?_
  exact J_return (()) Tryz.results192 (.tmp rfl .nil) rfl SU
theorem epDropC {E : World} {l m : List As} {b : Nat} {out : List Msg} {inn : List Rcv} (hp : Pick (epA b out inn) l m) (hbo : out.length ≤ 100000) (hbi : inn.length ≤ 100000) {i : ID} :
    Con Tryz.prog 131 #[.pointer (some ⟨b, 0, none⟩), .agg (encI i).toArray] E l (fun _ : Unit => .bool (decide ((mdrop out i).length + (rdrop inn i).length < out.length + inn.length))) (fun _ => epA b (mdrop out i) (rdrop inn i) :: m) := by
  refine Con.body (vs := [.pointer (some ⟨b, 0, none⟩), .agg (encI i).toArray]) (n := 48) Tryz.func131 rfl rfl [(0, .pointer (some ⟨b, 0, none⟩)), (1, .agg (encI i).toArray)] (env_ok 2 rfl) <| J_pick hp <| J_epO fun vo vi _ => J_row (.there .here) fun hw a cap hv h1 h2 h3 => ?_
  subst hv
  refine J_row (.there (.there .here)) fun hw' a' cap' hv h1' h2' h3' => ?_
  subst hv
  refine sr <| L_op <| x_box rfl rfl rfl fun b3 => ag rfl rfl <| nq <| J_seq <| J_drawS mixed (by kernel_rfl) <| sm rfl rfl ?_
  refine sp rfl (p_nilCheck rfl) <| sp rfl (p_fieldAddr rfl fa179_0) <| S_val rfl (v_load rfl ty177 HS (by exact rfl)) ?_
  refine sp rfl (p_len rfl Tryz.underlying177) <| sm rfl rfl <| sp rfl (p_nilCheck rfl) <| sp rfl (p_fieldAddr rfl fa179_1) <| S_val rfl (v_load rfl ty59 HS (by exact rfl)) ?_
  refine sp rfl (p_len rfl Tryz.underlying59) <| sp rfl (p_add64 rfl rfl (by simp; omega)) <| sp rfl (p_assign rfl) <| sq <| sr <| mv rfl rfl <| mv rfl rfl <| nc rfl rfl ?_
  refine fa rfl rfl fa179_0 <| L_val rfl (v_load rfl ty177 HS (by exact rfl)) ?_
  refine L_pur rfl (p_makeFunc (.cons rfl .nil)) <| L_op <| xc fc189 (.cons rfl (.cons rfl .nil)) rfl (deletefunc189 (xs := out) (enc := encM) (q := isM i) (C := blk b3 39 (encI i)) Tryz.func190 nm190 bd190 (fun l' c hc => clo190 hc) PC HS encM_one encM_len) <| JR fun a23 c23 hw23 hl23 hm23 hz23 => nc rfl rfl <| fa rfl rfl fa179_0 <| L_op <| x_store rfl rfl ty177 rfl SM SM RO PT ?_
  refine nx <| mv rfl rfl <| mv rfl rfl <| nc rfl rfl <| fa rfl rfl fa179_1 <| L_val rfl (v_load rfl ty59 HS (by exact rfl)) ?_
  refine L_pur rfl (p_makeFunc (.cons rfl .nil)) <| L_op <| xc fc191 (.cons rfl (.cons rfl .nil)) rfl (deletefunc191 (xs := inn) (enc := encR) (q := isR i) (C := blk b3 39 (encI i)) Tryz.func192 nm192 bd192 (fun l' c hc => clo192 hc) PC HS encR_one encR_len) <| JR fun a32 c32 hw32 hl32 hm32 hz32 => nc rfl rfl <| fa rfl rfl fa179_1 <| L_op <| x_store rfl rfl ty59 rfl SM SM RO PT ?_
  refine nq <| J_seq <| J_drawS mixed (by kernel_rfl) <| sm rfl rfl <| sp rfl (p_nilCheck rfl) <| sp rfl (p_fieldAddr rfl fa179_0) <| S_val rfl (v_load rfl ty177 HS (by exact rfl)) ?_
  refine sp rfl (p_len rfl Tryz.underlying177) <| sm rfl rfl <| sp rfl (p_nilCheck rfl) <| sp rfl (p_fieldAddr rfl fa179_1) <| S_val rfl (v_load rfl ty59 HS (by exact rfl)) ?_
  refine sp rfl (p_len rfl Tryz.underlying59) <| sp rfl (p_add64 rfl rfl (by have := List.length_filter_le (fun c => !isM i c) out; have := List.length_filter_le (fun c => !isR i c) inn; simp; omega)) <| sm rfl rfl <| sp rfl (p_lss rfl rfl) <| sp rfl (p_assign rfl) <| sq <| J_ret <| J_epS (b := b) (out := (mdrop out i)) (inn := (rdrop inn i)) _ _ PX trivial ?_
  refine J_return (()) Tryz.results131 (.tmp rfl .nil) ?_ ?_
  · simp only [one, List.length_map, mdrop, rdrop]; congr 1; rw [decide_eq_decide]; omega
  · exact SU
theorem epSenders {E : World} {l m : List As} {b : Nat} {out : List Msg} {inn : List Rcv} (hp : Pick (epA b out inn) l m) (hbo : out.length ≤ 100000) (hbi : inn.length ≤ 100000) :
    Con Tryz.prog 300 #[.pointer (some ⟨b, 0, none⟩)] E l (fun v : Value => v) (fun v => row 340 5 v (out.map encM) :: epA b out inn :: m) := by
  refine Con.body (vs := [.pointer (some ⟨b, 0, none⟩)]) (n := 8) Tryz.func300 rfl rfl [(0, .pointer (some ⟨b, 0, none⟩))] (env_ok 1 rfl) <| J_pick hp <| J_epO fun vo vi _ => J_row (.there .here) fun hw a cap hv h1 h2 h3 => ?_
  subst hv
  refine J_row (.there (.there .here)) fun hw' a' cap' hv h1' h2' h3' => ?_
  subst hv
  refine sr <| ag rfl rfl <| nx <| mv rfl rfl <| nc rfl rfl <| fa rfl rfl fa179_0 <| L_val rfl (v_load rfl ty177 HS (by exact rfl)) ?_
  refine L_op <| xc fc308 (.cons rfl .nil) rfl (clone308 (xs := out.map encM) (fun w H => sep_reads (xs := out.map encM) HS H) (by simp; omega)) <| JR fun a7 c7 hw7 hl7 hm7 hz7 => ag rfl rfl <| nq <| J_ret <| J_epS (b := b) (out := out) (inn := inn) _ _ PX trivial ?_
  exact J_return (_) Tryz.results300 (.tmp rfl .nil) rfl SU
theorem epReceivers {E : World} {l m : List As} {b : Nat} {out : List Msg} {inn : List Rcv} (hp : Pick (epA b out inn) l m) (hbo : out.length ≤ 100000) (hbi : inn.length ≤ 100000) :
    Con Tryz.prog 28 #[.pointer (some ⟨b, 0, none⟩)] E l (fun v : Value => v) (fun v => row 176 3 v (inn.map encR) :: epA b out inn :: m) := by
  refine Con.body (vs := [.pointer (some ⟨b, 0, none⟩)]) (n := 8) Tryz.func28 rfl rfl [(0, .pointer (some ⟨b, 0, none⟩))] (env_ok 1 rfl) <| J_pick hp <| J_epO fun vo vi _ => J_row (.there .here) fun hw a cap hv h1 h2 h3 => ?_
  subst hv
  refine J_row (.there (.there .here)) fun hw' a' cap' hv h1' h2' h3' => ?_
  subst hv
  refine sr <| ag rfl rfl <| nx <| mv rfl rfl <| nc rfl rfl <| fa rfl rfl fa179_1 <| L_val rfl (v_load rfl ty59 HS (by exact rfl)) ?_
  refine L_op <| xc fc58 (.cons rfl .nil) rfl (clone58 (xs := inn.map encR) (fun w H => sep_reads (xs := inn.map encR) HS H) (by simp; omega)) <| JR fun a7 c7 hw7 hl7 hm7 hz7 => ag rfl rfl <| nq <| J_ret <| J_epS (b := b) (out := out) (inn := inn) _ _ PX trivial ?_
  exact J_return (_) Tryz.results28 (.tmp rfl .nil) rfl SU
theorem indexfunc247 {E : World} {l : List As} {v : Value} {α : Type} {enc : α → List Value} {xs : List α} {g : FuncId} {caps : Array Value} {fn : Func} (hf : Tryz.prog.funcs[g]? = some fn) (hn : (fn.name == "runtime.NumGoroutine") = false) (hb : fn.body.isNone = false) {q : α → Bool} {C : As} (hg : ∀ (l' : List As) (c : α), Has C l' → Con Tryz.prog g (#[.agg (enc c).toArray] ++ caps) E l' (fun _ : Unit => .bool (q c)) (fun _ => l')) (hv : Has (row 350 3 v (xs.map enc)) l) (hc : Has C l) :
    Con Tryz.prog 247 #[v, .func (.func g) #[] caps] E l (fun _ : Unit => .int .i64 (idx q xs)) (fun _ => l) := by
  refine Con.body (vs := [v, .func (.func g) #[] caps]) (n := 19) Tryz.func247 rfl rfl [(0, v), (1, .func (.func g) #[] caps)] (env_ok 2 rfl) <| J_row hv fun hw a cap hv h1 h2 h3 => ?_
  subst hv
  have hm : cap ≤ 9223372036854775807 := h2
  have hml : (xs.map enc).length = xs.length := List.length_map _
  refine sr <| ag rfl rfl <| nxx <| mv rfl rfl <| L_pur rfl (p_len rfl Tryz.underlying121) <| mv rfl rfl <| nq <| J_block ?_
  refine J_loop (α := Nat) (fun i => i ≤ xs.length ∧ ∀ c ∈ xs.take i, q c = false) (fun _ => l) (fun i => [(8, .int .i64 (i : Int)), (7, .int .i64 (xs.map enc).length), (0, .slice a (xs.map enc).length cap), (1, .func (.func g) #[] caps)]) (fun i => xs.length - i) 0 ⟨by omega, by simp⟩ SU KE ?_
  intro i ⟨hi, hq⟩
  refine sr <| L_pur rfl (p_lss rfl rfl) <| nq <| J_seq ?_
  refine C_dec rfl (fun h9 => ?_) (fun h9 => ?_)
  have hlt : i < xs.length := by omega
  obtain ⟨b, o, rfl⟩ := h3 (by intro h; rw [h] at hml; simp at hml; omega)
  obtain ⟨c, hcc⟩ : ∃ c, xs[i]? = some c := ⟨_, List.getElem?_eq_getElem hlt⟩
  refine J_skip <| Q_then <| J_seq <| J_block <| sr <| mv rfl rfl <| ag rfl rfl <| nx ?_
  refine mv rfl rfl <| mv rfl rfl <| mv rfl rfl <| L_pur rfl (p_indexAddr rfl rfl Tryz.underlying121 ty350 (by omega) (by omega)) ?_
  refine L_val rfl (v_loadE rfl ty350 HS (by simp only [Int.toNat_natCast, List.getElem?_map, hcc]; rfl)) ?_
  refine L_op <| x_callc rfl hf hn hb (.cons rfl .nil) rfl (hg _ c hc) fun _ => nq ?_
  refine C_split rfl (fun h16 => ?_) (fun h16 => ?_)
  have hidx := idx_here hq hcc h16
  refine sr <| mv rfl rfl <| ag rfl rfl <| nq <| J_ret <| Q_blk_ret <| Q_then_ret <| Q_then_ret ?_
  refine Q_blk_ret <| Q_then_ret ?_
  refine J_return (()) Tryz.results247 (.tmp rfl .nil) ?_ ?_
  · simp [one, hidx]
  · exact SU
  refine J_skip <| Q_blk_normal <| qr <| L_pur rfl (p_add64 rfl rfl (by omega)) <| mv rfl rfl <| nq ?_
  exact J_again (i + 1) (by omega) (⟨by omega, take_false_succ hq hcc h16⟩) SU KE
  have hix : i = xs.length := by omega
  rw [hix, List.take_length] at hq
  have hidx := idx_none hq
  refine J_exit <| Q_then_exit <| Q_then_exit <| Q_blk_this <| qx <| ag rfl rfl <| nq <| J_ret ?_
  refine J_return (()) Tryz.results247 (.tmp rfl .nil) ?_ ?_
  · simp [one, hidx]
  · exact SU
theorem deletefunc187 {E : World} {l m : List As} {v : Value} {α : Type} {enc : α → List Value} {xs : List α} {g : FuncId} {caps : Array Value} {fn : Func} (hf : Tryz.prog.funcs[g]? = some fn) (hn : (fn.name == "runtime.NumGoroutine") = false) (hb : fn.body.isNone = false) {q : α → Bool} {C : As} (hg : ∀ (l' : List As) (c : α), Has C l' → Con Tryz.prog g (#[.agg (enc c).toArray] ++ caps) E l' (fun _ : Unit => .bool (q c)) (fun _ => l')) (hv : Pick (row 350 3 v (xs.map enc)) l m) (hc : Has C m) (hone : ∀ c, ones (enc c) = true) (hlen : ∀ c, (enc c).length = 3) :
  Con Tryz.prog 187 #[v, .func (.func g) #[] caps] E l (fun v' : Value => v') (fun v' => row 350 3 v' ((xs.filter fun c => !q c).map enc) :: m) := by
 rcases idx_cases q xs with ⟨hi0, hall⟩ | ⟨i0, hi0, hlt0, hpre, c0, hc0, hq0⟩
 ·
  refine Con.body (vs := [v, .func (.func g) #[] caps]) (n := 42) Tryz.func187 rfl rfl [(0, v), (1, .func (.func g) #[] caps)] (env_ok 2 rfl) <| J_pick hv <| sr <| ag rfl rfl <| nx <| mv rfl rfl <| mv rfl rfl <| L_op <| xc fc247 (.cons rfl (.cons rfl .nil)) rfl (indexfunc247 hf hn hb hg .here (.there hc)) fun _ => ?_
  refine ag rfl rfl <| nxx <| mv rfl rfl <| L_pur rfl (p_eql rfl rfl) <| nq <| J_bool (t := 12) (c := true) rfl (by simp [hi0]) <| C_true rfl <| sr ?_
  refine J_rowEq (ys := (xs.filter fun c => !q c).map enc) (by rw [List.filter_eq_self.2 (fun c hc => by simp [hall c hc])]) <| mv rfl rfl <| ag rfl rfl <| nq <| J_ret <| Q_then_ret ?_
  exact J_return (_) Tryz.results187 (.tmp rfl .nil) rfl SU
 ·
  refine Con.body (vs := [v, .func (.func g) #[] caps]) (n := 42) Tryz.func187 rfl rfl [(0, v), (1, .func (.func g) #[] caps)] (env_ok 2 rfl) <| J_pick hv <| J_row .here fun hw a cap hv h1 h2 h3 => ?_
  obtain ⟨b, o, rfl⟩ := h3 (by intro h; have := congrArg List.length h; simp at this; subst this; simp at hlt0)
  subst hv
  have hm : cap ≤ 9223372036854775807 := h2
  have hml : (xs.map enc).length = xs.length := List.length_map _
  have hk0 : kept q xs (i0 + 1) = xs.take i0 := kept_first hpre hc0 hq0
  have hl0 : (xs.take i0).length = i0 := by simp; omega
  refine sr <| ag rfl rfl <| nx <| mv rfl rfl <| mv rfl rfl <| L_op <| xc fc247 (.cons rfl (.cons rfl .nil)) rfl (indexfunc247 hf hn hb hg .here (.there hc)) fun _ => J_slot (t := 10) (v := .int .i64 (i0 : Int)) rfl (by rw [hi0]) ?_
  refine ag rfl rfl <| nxx <| mv rfl rfl <| L_pur rfl (p_eql rfl rfl) <| nq <| J_bool (t := 12) (c := false) rfl (by simp) <| C_false rfl <| J_skip ?_
  refine Q_then <| J_seq <| sr <| mv rfl rfl <| L_pur rfl (p_add64 rfl rfl (by omega)) <| ag rfl rfl <| nq <| J_block ?_
  refine J_rowEq (ys := (kept q xs (i0 + 1) ++ xs.drop (kept q xs (i0 + 1)).length).map enc) (by rw [hk0, hl0, List.take_append_drop]) <| J_slot (t := 5) (v := .int .i64 ((kept q xs (i0 + 1)).length : Int)) rfl (by rw [hk0, hl0]) <| J_loop (α := Nat) (fun j => j ≤ xs.length) (fun j => row 350 3 (.slice (some ⟨b, o, none⟩) (xs.map enc).length cap) ((kept q xs j ++ xs.drop (kept q xs j).length).map enc) :: m) (fun j => [(6, .int .i64 (j : Int)), (5, .int .i64 ((kept q xs j).length : Int)), (0, .slice (some ⟨b, o, none⟩) (xs.map enc).length cap), (1, .func (.func g) #[] caps)]) (fun j => xs.length - j) (i0 + 1) (by omega) SU KE ?_
  intro j hj
  have hkl := kept_le q xs j
  refine J_seq <| sr <| mv rfl rfl <| mv rfl rfl <| L_pur rfl (p_len rfl Tryz.underlying121) <| L_pur rfl (p_lss rfl rfl) <| nq ?_
  refine C_dec rfl (fun h19 => ?_) (fun h19 => ?_)
  have hlt : j < xs.length := by omega
  obtain ⟨c, hcc⟩ : ∃ c, xs[j]? = some c := ⟨_, List.getElem?_eq_getElem hlt⟩
  refine J_skip <| Q_then <| J_seq <| J_block <| sr <| mv rfl rfl <| mv rfl rfl <| L_pur rfl (p_indexAddr rfl rfl Tryz.underlying121 ty350 (by omega) (by omega)) ?_
  refine L_val rfl (v_loadE rfl ty350 HS (by simp only [Int.toNat_natCast, List.getElem?_map, kept_get, hcc]; rfl)) ?_
  refine L_op <| x_alloc ty350 rfl fun b7 => L_op <| x_store rfl rfl ty350 rfl SM SM RO PT ?_
  refine nx <| mv rfl rfl <| L_val rfl (v_loadA rfl ty350 HS CT) ?_
  refine L_op <| x_callc rfl hf hn hb (.cons rfl .nil) rfl (hg _ c (.there (.there hc))) fun _ => L_pur rfl (p_not rfl) <| nq ?_
  refine C_split rfl (fun h29 => ?_) (fun h29 => ?_)
  have hqc : q c = false := by simpa using h29
  have hks := kept_set hcc hqc
  have hkl1 : (kept q xs (j + 1)).length = (kept q xs j).length + 1 := by rw [kept_succ hcc, hqc]; simp
  refine sr <| mv rfl rfl <| mv rfl rfl <| L_val rfl (v_loadA rfl ty350 HS CT) ?_
  refine L_pur rfl (p_indexAddr rfl rfl Tryz.underlying121 ty350 (by omega) (by omega)) <| L_op <| x_storeE (vs := enc c) rfl rfl ty350 rfl (hlen c) (hone c) PC (OM) ?_
  refine J_rowEq (ys := (kept q xs (j + 1) ++ xs.drop (kept q xs (j + 1)).length).map enc) (by rw [← hks, List.map_set]; simp) <| ny <| mv rfl rfl <| L_pur rfl (p_add64 rfl rfl (by omega)) <| ag rfl rfl <| L_nil <| Q_blk_normal <| qr ?_
  refine mv rfl rfl <| L_pur rfl (p_add64 rfl rfl (by omega)) <| ag rfl rfl <| nq <| J_slot (t := 5) (v := .int .i64 ((kept q xs (j + 1)).length : Int)) rfl (by rw [hkl1]; rfl) ?_
  exact J_again (j + 1) (by omega) (by omega) SU KE
  have hqc : q c = true := by simpa using h29
  have hks : kept q xs (j + 1) = kept q xs j := by rw [kept_succ hcc, hqc]; simp
  refine J_skip <| Q_blk_normal <| qr <| mv rfl rfl <| L_pur rfl (p_add64 rfl rfl (by omega)) <| ag rfl rfl <| nq <| J_slot (t := 5) (v := .int .i64 ((kept q xs (j + 1)).length : Int)) rfl (by rw [hks]) ?_
  refine J_pick (A := row 350 3 (.slice (some ⟨b, o, none⟩) (xs.map enc).length cap) ((kept q xs j ++ xs.drop (kept q xs j).length).map enc)) PC ?_
  refine J_rowEq (ys := (kept q xs (j + 1) ++ xs.drop (kept q xs (j + 1)).length).map enc) (by rw [hks]) ?_
  exact J_again (j + 1) (by omega) (by omega) SU KE
  have hjx : j = xs.length := by omega
  have hka : kept q xs j = xs.filter fun c => !q c := kept_all (by omega)
  refine J_exit <| Q_then_exit <| Q_then_exit <| Q_blk_this <| qx <| mv rfl rfl <| mv rfl rfl <| L_pur rfl (p_slice rfl Tryz.underlying121 ty350 rfl rfl (by omega) (by omega) (by omega)) ?_
  refine L_op <| x_clear (len := (xs.map enc).length) rfl Tryz.underlying121 ty350 rfl rfl PC (OM) ?_
  refine nx <| mv rfl rfl <| mv rfl rfl <| L_pur rfl (p_slice rfl Tryz.underlying121 ty350 rfl rfl (by omega) (by omega) (by omega)) <| J_take (k := (kept q xs j).length) (OM) <| J_rowTo (v' := .slice (some ⟨b, o, none⟩) (kept q xs j).length cap) (ys := (xs.filter fun c => !q c).map enc) (by simp [hka]) rfl <| J_slot (t := 41) (v := .slice (some ⟨b, o, none⟩) (kept q xs j).length cap) rfl (by simp [Addr.add]) <| ag rfl rfl ?_
  refine nq <| J_ret ?_
  exact J_return (_) Tryz.results187 (.tmp rfl .nil) rfl SU
theorem clo188 {E : World} {l : List As} {bc : Nat} {i : ID} {c : Tm} (hc : Has (blk bc 39 (encI i)) l) :
    Con Tryz.prog 188 #[.agg (encT c).toArray, .pointer (some ⟨bc, 0, none⟩)] E l (fun _ : Unit => .bool (isTm i c)) (fun _ => l) := by
  refine Con.body (vs := [.agg (encT c).toArray, .pointer (some ⟨bc, 0, none⟩)]) (n := 8) Tryz.func188 rfl rfl [(0, .agg (encT c).toArray), (1, .pointer (some ⟨bc, 0, none⟩))] (env_ok 2 rfl) <| sr <| L_op <| x_box rfl rfl rfl fun b2 => ag rfl rfl <| nx <| fa rfl rfl fa350_1 <| L_val rfl (v_loadA rfl ty39 HS CT) ?_
  refine L_val rfl (v_loadA rfl ty39 HS CT) ?_
  refine L_pur rfl (p_eqv rfl rfl (fun w => eg39 _ _ _ _ _ w) (fun w => eqv39 _ _ _ _ w)) <| ag rfl rfl <| nq <| J_ret ?_
  exact J_return (()) Tryz.results188 (.tmp rfl .nil) rfl SU
theorem tmrDropC {E : World} {l m : List As} {b o : Nat} {xs : List Tm} (hp : Pick (tmrA b o xs) l m) (hb : xs.length ≤ 100000) {i : ID} :
    Con Tryz.prog 130 #[.pointer (some ⟨b, o, none⟩), .agg (encI i).toArray] E l (fun _ : Unit => .bool (decide ((tdrop xs i).length < xs.length))) (fun _ => tmrA b o (tdrop xs i) :: m) := by
  refine Con.body (vs := [.pointer (some ⟨b, o, none⟩), .agg (encI i).toArray]) (n := 27) Tryz.func130 rfl rfl [(0, .pointer (some ⟨b, o, none⟩)), (1, .agg (encI i).toArray)] (env_ok 2 rfl) <| J_pick hp <| J_tmrO fun v _ => J_row (.there .here) fun hw a cap hv h1 h2 h3 => ?_
  subst hv
  have hm : cap ≤ 9223372036854775807 := h2
  have hml : (xs.map encT).length = xs.length := List.length_map _
  refine sr <| L_op <| x_box rfl rfl rfl fun b3 => ag rfl rfl <| nx <| mv rfl rfl <| nc rfl rfl <| fa rfl rfl fa123_0 ?_
  refine L_val rfl (v_loadL rfl ty121 HS rfl (by exact rfl)) ?_
  refine L_pur rfl (p_len rfl Tryz.underlying121) <| ag rfl rfl <| nx <| mv rfl rfl <| mv rfl rfl <| nc rfl rfl <| fa rfl rfl fa123_0 <| L_val rfl (v_loadL rfl ty121 HS rfl (by exact rfl)) ?_
  refine L_pur rfl (p_makeFunc (.cons rfl .nil)) <| L_op <| xc fc187 (.cons rfl (.cons rfl .nil)) rfl (deletefunc187 (xs := xs) (enc := encT) (q := isTm i) (C := blk b3 39 (encI i)) Tryz.func188 nm188 bd188 (fun l' c hc => clo188 hc) PC HS encT_one encT_len) <| JR fun a17 c17 hw17 hl17 hm17 hz17 => nc rfl rfl <| fa rfl rfl fa123_0 <| L_op <| x_storeL rfl rfl ty121 rfl SM SM rfl RO rfl PT ?_
  refine nx <| mv rfl rfl <| nc rfl rfl <| fa rfl rfl fa123_0 <| L_val rfl (v_loadL rfl ty121 HS rfl (by exact rfl)) ?_
  refine L_pur rfl (p_len rfl Tryz.underlying121) <| mv rfl rfl <| L_pur rfl (p_lss rfl rfl) <| ag rfl rfl <| nq <| J_ret <| J_tmrS (b := b) (o := o) (xs := tdrop xs i) _ PX trivial ?_
  refine J_return (()) Tryz.results130 (.tmp rfl .nil) ?_ ?_
  · simp [one]
  · exact SU
def cDrop (c : ID × Bool) (i : ID) : ID × Bool := if c.2 = true ∧ c.1 = i then ((0, 0), false) else c
theorem rpDropC {E : World} {l m : List As} {b : Nat} {c : ID × Bool} (hp : Pick (rpA b c) l m) {i : ID} :
    Con Tryz.prog 133 #[.pointer (some ⟨b, 0, none⟩), .agg (encI i).toArray] E l (fun _ : Unit => .bool (decide (c.2 = true ∧ c.1 = i))) (fun _ => rpA b (cDrop c i) :: m) := by
  refine Con.body (vs := [.pointer (some ⟨b, 0, none⟩), .agg (encI i).toArray]) (n := 21) Tryz.func133 rfl rfl [(0, .pointer (some ⟨b, 0, none⟩)), (1, .agg (encI i).toArray)] (env_ok 2 rfl) <| J_pick hp <| J_asTo (B := blk b 273 [.int .i64 c.1.1, .int .i64 c.1.2, .bool c.2]) (by rfl) <| sr <| L_op <| x_box rfl rfl rfl fun b3 => ag rfl rfl <| nq ?_
  refine J_seq <| J_seq <| J_drawS mixed (by kernel_rfl) <| sm rfl rfl <| sp rfl (p_nilCheck rfl) <| sp rfl (p_fieldAddr rfl fa273_1) <| S_val rfl (v_load rfl ty4 HS (by exact rfl)) ?_
  refine sp rfl (p_not rfl) <| sm rfl rfl ?_
  refine J_gsplit (t := 10) rfl (fun h10 => ?_) (fun h10 => ?_)
  have hno : ¬ (c.2 = true ∧ c.1 = i) := fun e => by rw [e.1] at h10; simp at h10
  refine S_off rfl rfl rfl rfl rfl <| S_off rfl rfl rfl rfl rfl <| S_off rfl rfl rfl rfl rfl <| S_off rfl rfl rfl rfl rfl <| S_off rfl rfl rfl rfl rfl <| S_off rfl rfl rfl rfl rfl <| sp rfl (p_pick_t rfl rfl) <| sq ?_
  refine C_true rfl <| sr <| ag rfl rfl <| nq <| J_ret <| Q_then_ret <| J_pick (A := blk b _ _) PC ?_
  refine J_asTo (B := rpA b (cDrop c i)) (by rw [cDrop, if_neg hno]; rfl) ?_
  refine J_return (()) Tryz.results133 (.tmp rfl .nil) ?_ ?_
  · simp [one, hno]
  · exact SU
  refine S_on rfl rfl rfl rfl (Pur.vl (p_move rfl)) <| S_on rfl rfl rfl rfl (Pur.vl (p_nilCheck rfl)) <| S_on rfl rfl rfl rfl (Pur.vl (p_fieldAddr rfl fa273_0)) <| S_on rfl rfl rfl rfl (v_loadA rfl ty39 HS CT) ?_
  refine S_on rfl rfl rfl rfl (v_loadA rfl ty39 HS CT) ?_
  refine S_on rfl rfl rfl rfl (Pur.vl (p_nev rfl rfl (fun w => eg39 _ _ _ _ _ w) (fun w => nev39 _ _ _ _ w))) <| sp rfl (p_pick_f rfl rfl) <| sq ?_
  refine C_split rfl (fun h17 => ?_) (fun h17 => ?_)
  have hno : ¬ (c.2 = true ∧ c.1 = i) := fun e => by rw [← e.2] at h17; simp at h17
  refine sr <| ag rfl rfl <| nq <| J_ret <| Q_then_ret <| J_pick (A := blk b _ _) PC ?_
  refine J_asTo (B := rpA b (cDrop c i)) (by rw [cDrop, if_neg hno]; rfl) ?_
  refine J_return (()) Tryz.results133 (.tmp rfl .nil) ?_ ?_
  · simp [one, hno]
  · exact SU
  have hyes : c.2 = true ∧ c.1 = i := ⟨by simpa using h10, by simp at h17; exact Prod.ext h17.1 h17.2⟩
  refine J_skip <| qx <| mv rfl rfl <| L_pur rfl (bld273 .nil (by repeat constructor)) <| nc rfl rfl <| L_op <| x_store rfl rfl ty273 rfl SM SM RO PT ?_
  refine nx <| ag rfl rfl <| nq <| J_ret <| J_pick (A := blk b _ _) PC ?_
  refine J_asTo (B := rpA b (cDrop c i)) (by rw [cDrop, if_pos hyes]; rfl) ?_
  refine J_return (()) Tryz.results133 (.tmp rfl .nil) ?_ ?_
  · simp [one, hyes]
  · exact SU
theorem rpCaller {E : World} {l m : List As} {b : Nat} {c : ID × Bool} (hp : Pick (rpA b c) l m) :
    Con Tryz.prog 244 #[.pointer (some ⟨b, 0, none⟩)] E l (fun _ : Unit => .tuple #[.agg (encI c.1).toArray, .bool c.2]) (fun _ => rpA b c :: m) := by
  refine Con.body (vs := [.pointer (some ⟨b, 0, none⟩)]) (n := 12) Tryz.func244 rfl rfl [(0, .pointer (some ⟨b, 0, none⟩))] (env_ok 1 rfl) <| J_pick hp <| J_asTo (B := blk b 273 [.int .i64 c.1.1, .int .i64 c.1.2, .bool c.2]) (by rfl) <| sr <| L_op <| x_alloc ty39 rfl fun b2 => ag rfl rfl <| nq ?_
  refine J_seq <| J_drawL (some 8) mixed <| ip 0 rfl rfl rfl rfl (p_move rfl) <| ip 1 rfl rfl rfl rfl (p_nilCheck rfl) <| ip 2 rfl rfl rfl rfl (p_fieldAddr rfl fa273_0) <| iv 3 rfl rfl rfl rfl (fun _ => v_loadA rfl ty39 HS CT) ?_
  refine ip 4 rfl rfl rfl rfl (p_move rfl) <| ip 5 rfl rfl rfl rfl (p_nilCheck rfl) <| ip 6 rfl rfl rfl rfl (p_fieldAddr rfl fa273_1) <| I_ready (rs := [7, 8]) SI (by kernel_rfl) (by simp) ?_
  refine (I_cons rfl ?_ (I_cons rfl ?_ I_nil))
  refine J_val (v_load rfl ty4 HS (by exact rfl)) rfl rfl rfl ?_
  refine i1 8 rfl <| x_store rfl rfl ty39 rfl SM SM RO PT ?_
  refine ip 9 rfl rfl rfl rfl (p_assign rfl) <| i0 <| Q_then <| J_ret <| J_pick (A := blk b _ _) PC ?_
  refine J_asTo (B := rpA b c) (by rfl) ?_
  refine J_return (()) Tryz.results244 (.cellA rfl ty39 HS CT (.tmp rfl .nil)) ?_ ?_
  · rfl
  · exact SU
  refine x_store rfl rfl ty39 rfl SM SM RO PT ?_
  refine i1 7 rfl <| J_val (v_load rfl ty4 HS (by exact rfl)) rfl rfl rfl ?_
  refine ip 9 rfl rfl rfl rfl (p_assign rfl) <| i0 <| Q_then <| J_ret <| J_pick (A := blk b _ _) PC ?_
  refine J_asTo (B := rpA b c) (by rfl) ?_
  refine J_return (()) Tryz.results244 (.cellA rfl ty39 HS CT (.tmp rfl .nil)) ?_ ?_
  · rfl
  · exact SU
end Go.Pse
