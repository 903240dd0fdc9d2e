/-
  Own layer, part 8: drawn orders beside an invariant: what it alone decides may be taken first.
-/
import Derived.Test.YthjgdlhkdjgjpaaGreatMap
namespace Go.Pse
open Go.RowKit

section
variable {P : Program} {ops : Array Oper} {Q : Exit → Act → World → Prop} {md : Region.Mode} {I : World → Prop}
/-- Does the order i come before the order g, by the edges. -/
def anc (md : Region.Mode) (ops : Array Oper) : Nat → Nat → Nat → Bool
  | 0, _, _ => false
  | fuel + 1, g, i => match ops[g]? with
    | none => false
    | some o => o.after.toList.any fun e => Region.binds md e && (e.on == i || anc md ops fuel e.on i)
def closedB (md : Region.Mode) (ops : Array Oper) (listed : Array Bool) : Bool :=
  (List.range ops.size).all fun j => !listed.getD j false || match ops[j]? with
    | none => true
    | some o => o.after.toList.all fun e => !Region.binds md e || listed.getD e.on false
def Closed (md : Region.Mode) (ops : Array Oper) (listed : Array Bool) : Prop :=
  ∀ j o, ops[j]? = some o → listed.getD j false = true → ∀ e ∈ o.after, Region.binds md e = true → listed.getD e.on false = true
theorem Closed.ofB {md : Region.Mode} {ops : Array Oper} {listed : Array Bool} (h : closedB md ops listed = true) : Closed md ops listed := by
  intro j o ho hj e he hb
  unfold closedB at h
  rw [List.all_eq_true] at h
  have h1 := h j (List.mem_range.2 (Array.getElem?_eq_some_iff.1 ho).1)
  rw [hj, ho] at h1
  simp only [Bool.not_true, Bool.false_or, List.all_eq_true] at h1
  have h2 := h1 e (by simpa using he)
  rw [hb] at h2
  simpa using h2
theorem anc_listed {md : Region.Mode} {ops : Array Oper} {listed : Array Bool} (hc : Closed md ops listed) {i : Nat} : ∀ (fuel g : Nat), listed.getD g false = true → anc md ops fuel g i = true → listed.getD i false = true
  | 0, _, _, h => by simp [anc] at h
  | fuel + 1, g, hg, h => by
    unfold anc at h
    cases ho : ops[g]? with
    | none => rw [ho] at h; cases h
    | some o =>
      rw [ho] at h
      simp only [List.any_eq_true, Bool.and_eq_true, Bool.or_eq_true] at h
      obtain ⟨e, he, hb, h⟩ := h
      have h1 := hc g o ho hg e (by simpa using he) hb
      rcases h with h | h
      · rw [← eq_of_beq h]; exact h1
      · exact anc_listed hc fuel e.on h1 h
/-- The gate g: from it on, nothing that was hoisted is to come. -/
def gateOpen (g : Option Nat) (listed : Array Bool) : Bool := match g with | none => false | some j => listed.getD j false
def gated (md : Region.Mode) (ops : Array Oper) (g : Option Nat) (i : Nat) : Bool := match g with | none => true | some j => anc md ops ops.size j i
def wpI (P : Program) (md : Region.Mode) (ops : Array Oper) (Q : Exit → Act → World → Prop) (I : World → Prop) (g : Option Nat) : Nat → Array Bool → Act → World → Prop
  | 0, listed, a, w => (I w ∨ gateOpen g listed = true) ∧ Region.ready md ops listed = [] ∧ Q .normal a w
  | fuel + 1, listed, a, w => (I w ∨ gateOpen g listed = true) ∧ (Region.ready md ops listed = [] → Q .normal a w) ∧
    ∀ i ∈ Region.ready md ops listed, wpOp P ops Q i (wpI P md ops Q I g fuel (listed.setIfInBounds i true)) a w
theorem wpI_any {g : Option Nat} : ∀ (fuel : Nat) (listed : Array Bool) (a : Act) (w : World), wpI P md ops Q I g fuel listed a w → wpAny P md ops Q fuel listed a w
  | 0, _, _, _, h => h.2
  | fuel + 1, _, _, _, h => ⟨h.2.1, fun i hi => wpOp_mono (fun a' w' h' => wpI_any fuel _ a' w' h') (h.2.2 i hi)⟩
theorem getD_set {listed : Array Bool} {i j : Nat} : (listed.setIfInBounds i true).getD j false = true ↔ listed.getD j false = true ∨ (j = i ∧ i < listed.size) := by
  by_cases h : j = i
  · subst h
    rcases Nat.lt_or_ge j listed.size with h' | h' <;> simp [Array.getD, h']
    intro h2; omega
  · by_cases h' : j < listed.size <;> simp [Array.getD, h', h, Array.getElem_setIfInBounds, Ne.symm h]
theorem Closed.set {listed : Array Bool} {i : Nat} (hc : Closed md ops listed) (hr : i ∈ Region.ready md ops listed) : Closed md ops (listed.setIfInBounds i true) := by
  intro j o ho hj e he hb
  rw [getD_set] at hj ⊢
  rcases hj with hj | ⟨rfl, hi⟩
  · exact .inl (hc j o ho hj e he hb)
  · obtain ⟨_, o', ho', hall⟩ := mem_ready.1 hr
    rw [ho] at ho'
    cases ho'
    exact .inl (hall e he hb)
/-- Before i, nothing is past the gate. -/
theorem gate_shut {g : Option Nat} {listed : Array Bool} {i : Nat} (hc : Closed md ops listed) (hr : i ∈ Region.ready md ops listed) (hg : gated md ops g i = true) : gateOpen g (listed.setIfInBounds i true) = true → False := by
  cases g with
  | none => intro h; cases h
  | some j =>
    intro h
    have hun : listed.getD i false = true → False := by
      have h0 := (mem_ready.1 hr).1
      intro h1
      rcases Nat.lt_or_ge i listed.size with h' | h'
      · simp [Array.getD, h'] at h0 h1; rw [h0] at h1; cases h1
      · simp [Array.getD, Nat.not_lt.2 h'] at h1
    change (listed.setIfInBounds i true).getD j false = true at h
    change anc md ops ops.size j i = true at hg
    rw [getD_set] at h
    rcases h with h | ⟨rfl, _⟩
    · exact hun (anc_listed hc _ _ h hg)
    · obtain ⟨_, o, ho, hall⟩ := mem_ready.1 hr
      cases hs : ops.size with
      | zero => rw [hs] at hg; cases hg
      | succ m =>
        rw [hs] at hg
        unfold anc at hg
        rw [ho] at hg
        simp only [List.any_eq_true, Bool.and_eq_true, Bool.or_eq_true] at hg
        obtain ⟨e, he, hb, h⟩ := hg
        have h1 := hall e (by simpa using he) hb
        rcases h with h | h
        · rw [eq_of_beq h] at h1; exact hun h1
        · exact hun (anc_listed hc _ _ h1 h)
/-- An operation that yields v wherever I holds. -/
def YI (P : Program) (ops : Array Oper) (I : World → Prop) (o : Oper) (v : Value) (a : Act) : Prop :=
  (Region.wanted o (yielded ops a.tmps) = true ∧ ∀ w, I w → (execOp a.eval o).run P w = .ok (.value v) w) ∨ (Region.wanted o (yielded ops a.tmps) = false ∧ v = undef)
theorem YI.wpOp {i : Nat} {o : Oper} {v : Value} {a : Act} {w : World} {K : Act → World → Prop} (hi : ops[i]? = some o) (hy : YI P ops I o v a) (hw : I w) (h : K (a.put o.dst v) w) : wpOp P ops Q i K a w := by
  unfold Go.wpOp
  simp only [hi]
  rcases hy with ⟨hwn, hv⟩ | ⟨hwn, rfl⟩
  · simp only [hwn, if_true, Oper.wp, hv w hw, Oper.upon]; exact .inl h
  · simp only [hwn, Bool.false_eq_true, if_false]; exact h
theorem YI.of_same {o : Oper} {v : Value} {a a' : Act} (hy : YI P ops I o v a) (he : execOp a'.eval o = execOp a.eval o)
    (hw : Region.wanted o (yielded ops a'.tmps) = Region.wanted o (yielded ops a.tmps)) : YI P ops I o v a' := by
  unfold YI at *
  rw [he, hw]
  exact hy
theorem wpOp_putI {j : Nat} {oi oj : Oper} {v : Value} (hj : ops[j]? = some oj) (hap : oi.apart ops oj = true)
    (hsi : ∀ cs b, oi.op ≠ .select cs b) (hsj : ∀ cs b, oj.op ≠ .select cs b)
    (hQ : ∀ c a w, Q (.panic c) (a.put oi.dst v) w → Q (.panic c) a w) {K : Act → World → Prop} {a : Act} {w : World}
    (hy : YI P ops I oi v a) (h : wpOp P ops Q j K (a.put oi.dst v) w) :
    wpOp P ops Q j (fun a' w' => YI P ops I oi v a' ∧ K (a'.put oi.dst v) w') a w := by
  obtain ⟨h1, h2, h3⟩ := Oper.apart_spec hap
  have keep : ∀ (a : Act), YI P ops I oi v a → ∀ u, YI P ops I oi v (a.put oj.dst u) := fun a hy u =>
    hy.of_same (execOp_put oi hsi a oj.dst u h3) (wanted_put oi a oj.dst u h3)
  have keepD : ∀ d, YI P ops I oi v { a with defers := d :: a.defers } := fun d => hy.of_same rfl rfl
  unfold wpOp at *
  simp only [hj] at *
  rw [wanted_put oj a oi.dst v h1] at h
  split
  · rename_i hw
    simp only [hw, if_true] at h
    rcases h with h | ⟨hasks, hlets⟩
    case inr => exact .inr ⟨by unfold Oper.asks at *; rw [execOp_put oj hsj a oi.dst v h1] at hasks; exact hasks, hlets⟩
    refine .inl ?_
    unfold Oper.wp at *
    rw [execOp_put oj hsj a oi.dst v h1] at h
    generalize (execOp a.eval oj).run P w = r at *
    cases r with
    | ok n w' =>
      cases n <;> simp only [Oper.upon] at h ⊢
      case value u => exact ⟨keep a hy u, by rw [← Act.put_comm a v u h2]; exact h⟩
      case skip => exact ⟨keep a hy _, by rw [← Act.put_comm a v undef h2]; exact h⟩
      case defer d =>
        refine ⟨keep _ (keepD d) _, ?_⟩
        rw [← Act.put_comm _ v undef h2, ← Act.put_defers]
        exact h
      case enter f args =>
        refine Calls.mono h fun e w'' he => ?_
        cases e with
        | returned u => exact ⟨keep a hy u, by rw [← Act.put_comm a v u h2]; exact he⟩
        | panicked c => exact hQ _ _ _ he
        | outgrown => exact he
      case row row args => exact Rows.mono h fun u w'' he => ⟨keep a hy u, by rw [← Act.put_comm a v u h2]; exact he⟩
    | halt x w' =>
      cases x <;> simp only [Oper.upon] at h ⊢
      case panic u => exact hQ _ _ _ h
  · rename_i hw
    simp only [hw] at h
    exact ⟨keep a hy _, by rw [← Act.put_comm a v undef h2]; exact h⟩
theorem wpI_first {g : Option Nat} {i : Nat} {oi : Oper} {v : Value} (hi : ops[i]? = some oi) (hsel : ∀ (j : Nat) (o : Oper) cs b, ops[j]? = some o → o.op ≠ .select cs b)
    (hQ : ∀ c a w, Q (.panic c) (a.put oi.dst v) w → Q (.panic c) a w) (hg : gated md ops g i = true) :
    ∀ (fuel : Nat) (listed : Array Bool) (a : Act) (w : World),
      (∀ j oj, ops[j]? = some oj → j ≠ i → listed.getD j true = false → (∀ e ∈ oj.after, Region.binds md e = true → e.on ≠ i) → oi.apart ops oj = true) →
      i ∈ Region.ready md ops listed → Closed md ops listed → YI P ops I oi v a →
      wpI P md ops Q I g fuel (listed.setIfInBounds i true) (a.put oi.dst v) w → wpI P md ops Q I g (fuel + 1) listed a w := by
  intro fuel
  induction fuel with
  | zero =>
    intro listed a w _ hr hc hy H
    have hIw : I w := H.1.elim id fun h => (gate_shut hc hr hg h).elim
    refine ⟨.inl hIw, fun h => (by rw [h] at hr; cases hr), fun j hj => ?_⟩
    by_cases hji : j = i
    · subst hji; exact hy.wpOp hi hIw H
    · have := ready_mono hj hji
      rw [H.2.1] at this
      cases this
  | succ fuel ih =>
    intro listed a w hfree hr hc hy H
    have hIw : I w := H.1.elim id fun h => (gate_shut hc hr hg h).elim
    refine ⟨.inl hIw, fun h => (by rw [h] at hr; cases hr), fun j hj => ?_⟩
    by_cases hji : j = i
    · subst hji; exact hy.wpOp hi hIw H
    · have h1 := H.2.2 j (ready_mono hj hji)
      obtain ⟨hjun, oj, hoj, hall⟩ := mem_ready.1 hj
      have hnot : ∀ e ∈ oj.after, Region.binds md e = true → e.on ≠ i := fun e he hb heq => by
        have h1 := hall e he hb
        have h0 := (mem_ready.1 hr).1
        rw [heq] at h1
        rcases Nat.lt_or_ge i listed.size with h' | h'
        · simp [h'] at h0 h1; rw [h0] at h1; cases h1
        · simp [Array.getElem?_eq_none h'] at h1
      have h2 := wpOp_putI hoj (hfree j oj hoj hji hjun hnot) (fun cs b => hsel i oi cs b hi) (fun cs b => hsel j oj cs b hoj) hQ hy h1
      have hfree' : ∀ k ok, ops[k]? = some ok → k ≠ i → (listed.setIfInBounds j true).getD k true = false →
          (∀ e ∈ ok.after, Region.binds md e = true → e.on ≠ i) → oi.apart ops ok = true := fun k ok hk hki hun hno => by
        refine hfree k ok hk hki ?_ hno
        by_cases hjk : j = k
        · subst hjk; exact hjun
        · rw [getD_set_ne true hjk] at hun; exact hun
      refine wpOp_mono (fun a' w' h3 => ih (listed.setIfInBounds j true) a' w' hfree' (ready_mono hr (Ne.symm hji)) (hc.set hj) h3.1 ?_) h2
      rw [Array.setIfInBounds_comm _ _ hji]
      exact h3.2
/-- What hangs on no world at all may be taken first, wherever the gate stands. -/
theorem wpI_firstP {g : Option Nat} {i : Nat} {oi : Oper} {v : Value} (hi : ops[i]? = some oi) (hsel : ∀ (j : Nat) (o : Oper) cs b, ops[j]? = some o → o.op ≠ .select cs b)
    (hQ : ∀ c a w, Q (.panic c) (a.put oi.dst v) w → Q (.panic c) a w) (hg : g ≠ some i) :
    ∀ (fuel : Nat) (listed : Array Bool) (a : Act) (w : World),
      (∀ j oj, ops[j]? = some oj → j ≠ i → listed.getD j true = false → (∀ e ∈ oj.after, Region.binds md e = true → e.on ≠ i) → oi.apart ops oj = true) →
      i ∈ Region.ready md ops listed → YI P ops (fun _ => True) oi v a →
      wpI P md ops Q I g fuel (listed.setIfInBounds i true) (a.put oi.dst v) w → wpI P md ops Q I g (fuel + 1) listed a w := by
  have hgate : ∀ listed : Array Bool, gateOpen g (listed.setIfInBounds i true) = true → gateOpen g listed = true := fun listed h => by
    cases g with
    | none => exact h
    | some j =>
      have hji : j ≠ i := fun e => hg (by rw [e])
      change (listed.setIfInBounds i true).getD j false = true at h
      rw [getD_set_ne false (Ne.symm hji)] at h
      exact h
  intro fuel
  induction fuel with
  | zero =>
    intro listed a w _ hr hy H
    refine ⟨H.1.imp_right (hgate listed), fun h => (by rw [h] at hr; cases hr), fun j hj => ?_⟩
    by_cases hji : j = i
    · subst hji; exact hy.wpOp hi trivial H
    · have := ready_mono hj hji
      rw [H.2.1] at this
      cases this
  | succ fuel ih =>
    intro listed a w hfree hr hy H
    refine ⟨H.1.imp_right (hgate listed), fun h => (by rw [h] at hr; cases hr), fun j hj => ?_⟩
    by_cases hji : j = i
    · subst hji; exact hy.wpOp hi trivial H
    · have h1 := H.2.2 j (ready_mono hj hji)
      obtain ⟨hjun, oj, hoj, hall⟩ := mem_ready.1 hj
      have hnot : ∀ e ∈ oj.after, Region.binds md e = true → e.on ≠ i := fun e he hb heq => by
        have h1 := hall e he hb
        have h0 := (mem_ready.1 hr).1
        rw [heq] at h1
        rcases Nat.lt_or_ge i listed.size with h' | h'
        · simp [h'] at h0 h1; rw [h0] at h1; cases h1
        · simp [Array.getElem?_eq_none h'] at h1
      have h2 := wpOp_putI hoj (hfree j oj hoj hji hjun hnot) (fun cs b => hsel i oi cs b hi) (fun cs b => hsel j oj cs b hoj) hQ hy h1
      have hfree' : ∀ k ok, ops[k]? = some ok → k ≠ i → (listed.setIfInBounds j true).getD k true = false →
          (∀ e ∈ ok.after, Region.binds md e = true → e.on ≠ i) → oi.apart ops ok = true := fun k ok hk hki hun hno => by
        refine hfree k ok hk hki ?_ hno
        by_cases hjk : j = k
        · subst hjk; exact hjun
        · rw [getD_set_ne true hjk] at hun; exact hun
      refine wpOp_mono (fun a' w' h3 => ih (listed.setIfInBounds j true) a' w' hfree' (ready_mono hr (Ne.symm hji)) h3.1 ?_) h2
      rw [Array.setIfInBounds_comm _ _ hji]
      exact h3.2
end

section
variable {P : Program} {ops : Array Oper} {Q : Exit → Act → World → Prop} {E : World} {l l' L : List As} {n : Nat} {F : Env} {K : Act → World → Prop}
/-- The row from lo on, and the slot that leads to it. -/
theorem J_dropS {t : Nat} {el : TypeId} {sz : Nat} {a0 : Option Addr} {len cap lo : Nat} {xs : List (List Value)} (ht : get F t = some (.slice (if cap = lo then a0 else a0.map (·.add (lo * sz))) (len - lo) (cap - lo))) (hlo : lo ≤ xs.length)
    (k : ∀ a', Jk E (row el sz (.slice a' (len - lo) (cap - lo)) (xs.drop lo) :: l) n ((t, .slice a' (len - lo) (cap - lo)) :: F) K) : Jk E (row el sz (.slice a0 len cap) xs :: l) n F K :=
  J_drop hlo (J_slot ht rfl (k _))
/-- These assertions hold, apart from each other. -/
def Inv (L : List As) (w : World) : Prop := Sep w w L
theorem Sub.inv {w : World} (h : Sub l L) (H : Sep E w l) : Inv L w := ⟨rfl, rfl, ⟨rfl, Nat.le_refl _⟩, (h.sep H).own⟩
/-- What may be put first. -/
def takeOk (g : Option Nat) (ops : Array Oper) (listed : Array Bool) (i : Nat) : Bool :=
  Region.noSelect ops && Region.free .any ops listed i && (Region.ready .any ops listed).contains i && closedB .any ops listed && gated .any ops g i
section
variable {ops : Array Oper} {g : Option Nat} {listed : Array Bool} {i : Nat}
theorem takeOk.a (h : takeOk g ops listed i = true) : Region.noSelect ops = true := by simp only [takeOk, Bool.and_eq_true] at h; exact h.1.1.1.1
theorem takeOk.b (h : takeOk g ops listed i = true) : Region.free .any ops listed i = true := by simp only [takeOk, Bool.and_eq_true] at h; exact h.1.1.1.2
theorem takeOk.c (h : takeOk g ops listed i = true) : (Region.ready .any ops listed).contains i = true := by simp only [takeOk, Bool.and_eq_true] at h; exact h.1.1.2
theorem takeOk.d (h : takeOk g ops listed i = true) : closedB .any ops listed = true := by simp only [takeOk, Bool.and_eq_true] at h; exact h.1.2
theorem takeOk.e (h : takeOk g ops listed i = true) : gated .any ops g i = true := by simp only [takeOk, Bool.and_eq_true] at h; exact h.2
end
theorem J_drawI (g : Option Nat) (L : List As) {id : Nat} {os : List Oper} (hm : P.follows .mixedOrders = true)
    (k : Jk E l n F (wpI P .any os.toArray Q (Inv L) g os.toArray.size (Array.replicate os.toArray.size false))) : Jk E l n F ((Code.region id os.toArray true).wp P Q) :=
  fun _ a H hF => wp_region_any hm (wpI_any _ _ _ _ (k _ a H.drew hF))
/-- All that is held, as the invariant. -/
theorem J_drawL (g : Option Nat) {id : Nat} {os : List Oper} (hm : P.follows .mixedOrders = true)
    (k : Jk E l n F (wpI P .any os.toArray Q (Inv l) g os.toArray.size (Array.replicate os.toArray.size false))) : Jk E l n F ((Code.region id os.toArray true).wp P Q) := J_drawI g l hm k
theorem I_take {i : Nat} {o : Oper} {v : Value} {d : Nat} {g : Option Nat} {fuel : Nat} {listed : Array Bool} (ho : ops[i]? = some o) (hd : o.dst = some d) (hdn : Nat.blt d n = true) (hg : o.guard = none)
    (hok : takeOk g ops listed i = true)
    (hQ : ∀ c a v w, Q (.panic c) (a.put (some d) v) w → Q (.panic c) a w) (hv : ∀ E, Vl P o E L F n v)
    (k : Jk E l n ((d, v) :: F) (wpI P .any ops Q (Inv L) g fuel (listed.setIfInBounds i true))) : Jk E l n F (wpI P .any ops Q (Inv L) g (fuel + 1) listed) := fun w a H hF =>
  wpI_first ho (Region.noSelect_spec (takeOk.a hok)) (by rw [hd]; exact fun c a w => hQ c a v w) (takeOk.e hok) fuel listed a w (Region.free_spec ho (takeOk.b hok)) (by simpa using takeOk.c hok) (Closed.ofB (takeOk.d hok)) (Or.inl ⟨by simp [Region.wanted, hg], fun w hw => hv w w a hw hF⟩) (by rw [hd]; exact k w _ H (hF.put hdn))
def takeOkP (g : Option Nat) (ops : Array Oper) (listed : Array Bool) (i : Nat) : Bool :=
  Region.noSelect ops && Region.free .any ops listed i && (Region.ready .any ops listed).contains i && match g with | none => true | some j => !Nat.beq j i
theorem I_takeP {i : Nat} {o : Oper} {v : Value} {d : Nat} {g : Option Nat} {fuel : Nat} {listed : Array Bool} (ho : ops[i]? = some o) (hd : o.dst = some d) (hdn : Nat.blt d n = true) (hg : o.guard = none)
    (hok : takeOkP g ops listed i = true)
    (hQ : ∀ c a v w, Q (.panic c) (a.put (some d) v) w → Q (.panic c) a w) (hv : Pur P o F n v)
    (k : Jk E l n ((d, v) :: F) (wpI P .any ops Q (Inv L) g fuel (listed.setIfInBounds i true))) : Jk E l n F (wpI P .any ops Q (Inv L) g (fuel + 1) listed) := fun w a H hF => by
  simp only [takeOkP, Bool.and_eq_true] at hok
  obtain ⟨⟨⟨h1, h2⟩, h3⟩, h4⟩ := hok
  exact wpI_firstP ho (Region.noSelect_spec h1) (by rw [hd]; exact fun c a w => hQ c a v w) (fun e => by subst e; simp at h4) fuel listed a w (Region.free_spec ho h2) (by simpa using h3) (Or.inl ⟨by simp [Region.wanted, hg], fun w _ => hv a hF w⟩) (by rw [hd]; exact k w _ H (hF.put hdn))
theorem I_takeOn {i : Nat} {o : Oper} {v : Value} {d : Nat} {g : Option Nat} {fuel : Nat} {listed : Array Bool} (ho : ops[i]? = some o) (hd : o.dst = some d) (hdn : Nat.blt d n = true) {j t : Nat} {c : Bool} {og : Oper} (hg : o.guard = some (j, c)) (hj : ops[j]? = some og) (ht : og.dst = some t) (hb : get F t = some (.bool c))
    (hok : takeOk g ops listed i = true)
    (hQ : ∀ c a v w, Q (.panic c) (a.put (some d) v) w → Q (.panic c) a w) (hv : ∀ E, Vl P o E L F n v)
    (k : Jk E l n ((d, v) :: F) (wpI P .any ops Q (Inv L) g fuel (listed.setIfInBounds i true))) : Jk E l n F (wpI P .any ops Q (Inv L) g (fuel + 1) listed) := fun w a H hF => by
  have h0 : yielded ops a.tmps j = some c := by simp [yielded, hj, ht, hF.get t _ hb]
  exact wpI_first ho (Region.noSelect_spec (takeOk.a hok)) (by rw [hd]; exact fun c a w => hQ c a v w) (takeOk.e hok) fuel listed a w (Region.free_spec ho (takeOk.b hok)) (by simpa using takeOk.c hok) (Closed.ofB (takeOk.d hok)) (Or.inl ⟨by simp [Region.wanted, hg, h0], fun w hw => hv w w a hw hF⟩) (by rw [hd]; exact k w _ H (hF.put hdn))
theorem I_takeOff {i : Nat} {o : Oper} {d : Nat} {g : Option Nat} {fuel : Nat} {listed : Array Bool} (ho : ops[i]? = some o) (hd : o.dst = some d) (hdn : Nat.blt d n = true) {j t : Nat} {b c : Bool} {og : Oper} (hg : o.guard = some (j, c)) (hj : ops[j]? = some og) (ht : og.dst = some t) (hb : get F t = some (.bool b)) (hc : (b == c) = false)
    (hok : takeOk g ops listed i = true)
    (hQ : ∀ c a v w, Q (.panic c) (a.put (some d) v) w → Q (.panic c) a w)
    (k : Jk E l n ((d, undef) :: F) (wpI P .any ops Q (Inv L) g fuel (listed.setIfInBounds i true))) : Jk E l n F (wpI P .any ops Q (Inv L) g (fuel + 1) listed) := fun w a H hF => by
  have h0 : yielded ops a.tmps j = some b := by simp [yielded, hj, ht, hF.get t _ hb]
  have h1 : Region.wanted o (yielded ops a.tmps) = false := by simp only [Region.wanted, hg, h0]; cases b <;> cases c <;> first | rfl | (simp at hc)
  exact wpI_first ho (Region.noSelect_spec (takeOk.a hok)) (by rw [hd]; exact fun c a w => hQ c a undef w) (takeOk.e hok) fuel listed a w (Region.free_spec ho (takeOk.b hok)) (by simpa using takeOk.c hok) (Closed.ofB (takeOk.d hok)) (Or.inr ⟨h1, rfl⟩) (by rw [hd]; exact k w _ H (hF.put hdn))
theorem I_takeU {i : Nat} {o : Oper} {d : Nat} {g : Option Nat} {fuel : Nat} {listed : Array Bool} (ho : ops[i]? = some o) (hd : o.dst = some d) (hdn : Nat.blt d n = true) {j t : Nat} {c : Bool} {og : Oper} (hg : o.guard = some (j, c)) (hj : ops[j]? = some og) (ht : og.dst = some t) (hb : get F t = some (undef))
    (hok : takeOk g ops listed i = true)
    (hQ : ∀ c a v w, Q (.panic c) (a.put (some d) v) w → Q (.panic c) a w)
    (k : Jk E l n ((d, undef) :: F) (wpI P .any ops Q (Inv L) g fuel (listed.setIfInBounds i true))) : Jk E l n F (wpI P .any ops Q (Inv L) g (fuel + 1) listed) := fun w a H hF => by
  have h0 : yielded ops a.tmps j = none := by simp [yielded, hj, ht, hF.get t _ hb, undef]
  have h1 : Region.wanted o (yielded ops a.tmps) = false := by simp only [Region.wanted, hg, h0]; cases c <;> rfl
  exact wpI_first ho (Region.noSelect_spec (takeOk.a hok)) (by rw [hd]; exact fun c a w => hQ c a undef w) (takeOk.e hok) fuel listed a w (Region.free_spec ho (takeOk.b hok)) (by simpa using takeOk.c hok) (Closed.ofB (takeOk.d hok)) (Or.inr ⟨h1, rfl⟩) (by rw [hd]; exact k w _ H (hF.put hdn))
theorem I_ready {rs : List Nat} {g : Option Nat} {fuel : Nat} {listed : Array Bool} (hI : Sub l L ∨ gateOpen g listed = true) (hr : Region.ready .any ops listed = rs) (hne : rs ≠ [])
    (h : ∀ i ∈ rs, ∃ o, ops[i]? = some o ∧ Jop P ops Q o E l n F (wpI P .any ops Q (Inv L) g fuel (listed.setIfInBounds i true))) :
    Jk E l n F (wpI P .any ops Q (Inv L) g (fuel + 1) listed) := fun w a H hF => by
  refine ⟨hI.imp_left (·.inv H), fun h0 => absurd (hr ▸ h0) hne, fun i hi => ?_⟩
  obtain ⟨o, ho, k⟩ := h i (hr ▸ hi)
  have := k w a H hF
  unfold wpOp
  rw [ho]
  dsimp only
  split
  · rename_i hw; rw [if_pos hw] at this; exact .inl this
  · rename_i hw; rw [if_neg hw] at this; exact this
theorem I_done {g : Option Nat} {fuel : Nat} {listed : Array Bool} (hI : Sub l L ∨ gateOpen g listed = true) (hr : Region.ready .any ops listed = []) (k : Jk E l n F (Q .normal)) : Jk E l n F (wpI P .any ops Q (Inv L) g fuel listed) :=
  fun w a H hF => by
    cases fuel with
    | zero => exact ⟨hI.imp_left (·.inv H), hr, k w a H hF⟩
    | succ _ => exact ⟨hI.imp_left (·.inv H), fun _ => k w a H hF, by rw [hr]; simp⟩
theorem I_one {i : Nat} {o : Oper} {g : Option Nat} {fuel : Nat} {listed : Array Bool} (hI : Sub l L ∨ gateOpen g listed = true) (hr : Region.ready .any ops listed = [i]) (ho : ops[i]? = some o)
    (k : Jop P ops Q o E l n F (wpI P .any ops Q (Inv L) g fuel (listed.setIfInBounds i true))) : Jk E l n F (wpI P .any ops Q (Inv L) g (fuel + 1) listed) :=
  I_ready hI hr (by simp) fun j hj => by
    obtain rfl := List.mem_singleton.1 hj
    exact ⟨o, ho, k⟩
theorem I_nil {g : Option Nat} {fuel : Nat} {listed : Array Bool} : ∀ i ∈ ([] : List Nat), ∃ o, ops[i]? = some o ∧ Jop P ops Q o E l n F (wpI P .any ops Q (Inv L) g fuel (listed.setIfInBounds i true)) := fun _ h => by cases h
theorem I_cons {i : Nat} {rs : List Nat} {o : Oper} {g : Option Nat} {fuel : Nat} {listed : Array Bool} (ho : ops[i]? = some o) (k : Jop P ops Q o E l n F (wpI P .any ops Q (Inv L) g fuel (listed.setIfInBounds i true)))
    (h : ∀ i ∈ rs, ∃ o, ops[i]? = some o ∧ Jop P ops Q o E l n F (wpI P .any ops Q (Inv L) g fuel (listed.setIfInBounds i true))) : ∀ j ∈ i :: rs, ∃ o, ops[j]? = some o ∧ Jop P ops Q o E l n F (wpI P .any ops Q (Inv L) g fuel (listed.setIfInBounds j true)) := fun j hj => by
  rcases List.mem_cons.1 hj with rfl | hj
  · exact ⟨o, ho, k⟩
  · exact h j hj
end
theorem SI {l L : List As} {g : Option Nat} {listed : Array Bool} (h : Sub l L ∨ gateOpen g listed = true := by first | (apply Or.inr; decide +kernel) | (apply Or.inl; repeat (first | exact Sub.nil | exact Sub.refl | refine Sub.cons (by repeat (first | exact Pick.here | apply Pick.there)) ?_ | refine Sub.drop ?_))) : Sub l L ∨ gateOpen g listed = true := h
section
variable {P : Program} {ops : Array Oper} {Q : Exit → Act → World → Prop} {E : World} {l L : List As} {n : Nat} {F : Env} {o : Oper} {v : Value} {d : Nat} {g : Option Nat} {fuel : Nat} {listed : Array Bool}
theorem ip (i : Nat) (ho : ops[i]? = some o) (hd : o.dst = some d) (hdn : Nat.blt d n = true) (hg : o.guard = none) (hv : Pur P o F n v)
    (k : Jk E l n ((d, v) :: F) (wpI P .any ops Q (Inv L) g fuel (listed.setIfInBounds i true)))
    (hok : takeOkP g ops listed i = true := by kernel_rfl) (hQ : ∀ c a v w, Q (.panic c) (a.put (some d) v) w → Q (.panic c) a w := by exact fun _ _ _ _ h => h) : Jk E l n F (wpI P .any ops Q (Inv L) g (fuel + 1) listed) := I_takeP ho hd hdn hg hok hQ hv k
theorem iv (i : Nat) (ho : ops[i]? = some o) (hd : o.dst = some d) (hdn : Nat.blt d n = true) (hg : o.guard = none) (hv : ∀ E, Vl P o E L F n v)
    (k : Jk E l n ((d, v) :: F) (wpI P .any ops Q (Inv L) g fuel (listed.setIfInBounds i true)))
    (hok : takeOk g ops listed i = true := by kernel_rfl) (hQ : ∀ c a v w, Q (.panic c) (a.put (some d) v) w → Q (.panic c) a w := by exact fun _ _ _ _ h => h) : Jk E l n F (wpI P .any ops Q (Inv L) g (fuel + 1) listed) := I_take ho hd hdn hg hok hQ hv k
theorem i1 (i : Nat) (ho : ops[i]? = some o) (k : Jop P ops Q o E l n F (wpI P .any ops Q (Inv L) g fuel (listed.setIfInBounds i true)))
    (hI : Sub l L ∨ gateOpen g listed = true := by exact SI) (hr : Region.ready .any ops listed = [i] := by kernel_rfl) : Jk E l n F (wpI P .any ops Q (Inv L) g (fuel + 1) listed) := I_one hI hr ho k
theorem i0 (k : Jk E l n F (Q .normal)) (hI : Sub l L ∨ gateOpen g listed = true := by exact SI) (hr : Region.ready .any ops listed = [] := by kernel_rfl) : Jk E l n F (wpI P .any ops Q (Inv L) g fuel listed) := I_done hI hr k
end
end Go.Pse
