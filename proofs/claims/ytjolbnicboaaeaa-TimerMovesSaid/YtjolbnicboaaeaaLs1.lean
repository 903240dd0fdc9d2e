/-
  The list of those that wait: contracts of its methods.
-/
import Derived.Test.YtjolbnicboaaeaaTy
import Derived.Test.YtjolbnicboaaeaaMore
import Derived.Test.YtjolbnicboaaeaaNum
import Derived.Test.YtjolbnicboaaeaaMap
namespace Go.Pse
open Go.RowKit Go.Proofs

/-! ### plain: who waits, in order -/
abbrev kI : Int × Int → Value := fun a => Value.agg #[.int .i64 a.1, .int .i64 a.2]
abbrev evB : Bool → Value := fun b => .bool b
theorem encI_one (c : ID) : ones (encI c) = true := rfl
theorem encI_len (c : ID) : (encI c).length = 2 := rfl
def isI (i c : ID) : Bool := decide (c.1 = i.1 ∧ c.2 = i.2)
theorem isI_iff {i c : ID} : isI i c = true ↔ c = i := by unfold isI; rw [decide_eq_true_eq, Prod.ext_iff]
theorem isI_eq (i c : ID) : isI i c = decide (c = i) := by rw [Bool.eq_iff_iff, isI_iff, decide_eq_true_eq]
def lpush (xs : List ID) (i : ID) : List ID := if i ∈ xs then xs else xs ++ [i]
def ldrop (xs : List ID) (i : ID) : List ID := xs.filter fun c => !isI i c
theorem ldrop_len (xs : List ID) (i : ID) : (ldrop xs i).length ≤ xs.length := List.length_filter_le _ _
theorem lpush_len (xs : List ID) (i : ID) : (lpush xs i).length ≤ xs.length + 1 := by unfold lpush; split <;> simp
theorem ldrop_mem {xs : List ID} {i c : ID} : c ∈ ldrop xs i ↔ c ∈ xs ∧ ¬ c = i := by
  unfold ldrop; rw [List.mem_filter]; simp [isI_eq]
theorem ldrop_no {xs : List ID} {i : ID} (h : i ∉ xs) : ldrop xs i = xs := by
  unfold ldrop; rw [List.filter_eq_self]; intro c hc; have : ¬ c = i := fun e => h (e ▸ hc); simp [isI_eq, this]
theorem ldrop_nodup {xs : List ID} (h : xs.Nodup) (i : ID) : (ldrop xs i).Nodup := List.Nodup.sublist List.filter_sublist h
theorem lpush_nodup {xs : List ID} (h : xs.Nodup) (i : ID) : (lpush xs i).Nodup := by
  unfold lpush; split
  · exact h
  · rename_i hi
    rw [List.nodup_append]
    refine ⟨h, by simp, fun x hx y hy => ?_⟩
    simp at hy; subst hy; exact fun e => hi (e ▸ hx)
theorem ldrop_head {x : ID} {xs : List ID} (h : (x :: xs).Nodup) : ldrop (x :: xs) x = xs := by
  have h1 := List.nodup_cons.1 h
  unfold ldrop
  rw [List.filter_cons, if_neg (by simp [isI_eq])]
  exact ldrop_no h1.1
def Who (xs : List ID) (ps : List (ID × Bool)) : Prop := xs.Nodup ∧ ∀ i, look ps i = if i ∈ xs then some true else none
theorem Who.nil : Who [] [] := ⟨List.nodup_nil, fun i => by simp [look_nil]⟩
theorem Who.push {xs : List ID} {ps : List (ID × Bool)} (h : Who xs ps) {i : ID} (hi : i ∉ xs) : Who (xs ++ [i]) (ins ps i true) := by
  refine ⟨by have := lpush_nodup h.1 i; unfold lpush at this; rwa [if_neg hi] at this, fun c => ?_⟩
  rw [look_ins, h.2]
  by_cases hc : i = c
  · subst hc; simp
  · have hc' : ¬ c = i := fun e => hc e.symm
    simp [hc, hc']
theorem Who.drop {xs : List ID} {ps : List (ID × Bool)} (h : Who xs ps) (i : ID) : Who (ldrop xs i) (del ps i) := by
  refine ⟨ldrop_nodup h.1 i, fun c => ?_⟩
  rw [look_del, h.2]
  by_cases hc : i = c
  · subst hc; simp [ldrop_mem]
  · have hc' : ¬ c = i := fun e => hc e.symm
    simp [hc, hc', ldrop_mem]
theorem Who.says {xs : List ID} {ps : List (ID × Bool)} (h : Who xs ps) (i : ID) : zof evB (.bool false) (look ps i) = .bool (decide (i ∈ xs)) := by
  rw [h.2]; by_cases hi : i ∈ xs <;> simp [zof, hi]

def lsP (b o : Nat) (xs : List ID) (v : Value) (ob : Option Nat) (ps : List (ID × Bool)) : Prop := Who xs ps
def lsL (b o : Nat) (xs : List ID) (v : Value) (ob : Option Nat) (ps : List (ID × Bool)) : List As := [fld b o [v, .map ob], row 36 2 v (xs.map encI), mapV kI evB (.map ob) ps]
def lsA (b o : Nat) (xs : List ID) : As := As.ex fun g : (Value) × (Option Nat) × (List (ID × Bool)) => As.all (As.pure (lsP b o xs g.1 g.2.1 g.2.2) :: lsL b o xs g.1 g.2.1 g.2.2)
theorem J_lsO {E : World} {l : List As} {n : Nat} {F : Env} {K : Act → World → Prop} {b o : Nat} {xs : List ID} (k : ∀ v ob ps, lsP b o xs v ob ps → Jk E (fld b o [v, .map ob] :: row 36 2 v (xs.map encI) :: mapV kI evB (.map ob) ps :: l) n F K) : Jk E (lsA b o xs :: l) n F K := J_unfold (f := fun g : (Value) × (Option Nat) × (List (ID × Bool)) => As.all (As.pure (lsP b o xs g.1 g.2.1 g.2.2) :: lsL b o xs g.1 g.2.1 g.2.2)) (fun _ => rfl) (fun g h => k g.1 g.2.1 g.2.2 h)
theorem J_lsS {E : World} {l m : List As} {n : Nat} {F : Env} {K : Act → World → Prop} {b o : Nat} {xs : List ID} (v : Value) (ob : Option Nat) (ps : List (ID × Bool)) (hs : Picks [fld b o [v, .map ob], row 36 2 v (xs.map encI), mapV kI evB (.map ob) ps] l m) (h : lsP b o xs v ob ps) (k : Jk E (lsA b o xs :: m) n F K) : Jk E l n F K := J_fold (f := fun g : (Value) × (Option Nat) × (List (ID × Bool)) => As.all (As.pure (lsP b o xs g.1 g.2.1 g.2.2) :: lsL b o xs g.1 g.2.1 g.2.2)) (v, ob, ps) rfl hs h k

set_option maxRecDepth 100000 in
set_option maxHeartbeats 4000000 in
theorem clone98 {E : World} {l : List As} {v : Value} {xs : List (List Value)} (hr : ∀ w, Sep E w l → Reads w 2 v xs) (hb : xs.length ≤ 1000000) :
  Con Try.prog 98 #[v] E l (fun v' : Value => v') (fun v' => row 36 2 v' xs :: l) := by
 refine Con.body (vs := [v]) (n := 8) Try.func98 rfl rfl [(0, v)] (env_ok 1 rfl) ?_
 refine J_reads hr fun hw a cap hv h1 h2 h3 => ?_
 subst hv
 refine J_seq ?_
 refine J_region ?_
 refine L_pur rfl (p_assign rfl) ?_
 refine L_nil ?_
 refine Q_then ?_
 refine J_seq ?_
 refine J_seq ?_
 refine J_region ?_
 refine L_pur rfl (p_move rfl) ?_
 refine L_pur rfl (p_eqnil Try.underlying80 rfl) ?_
 refine L_nil ?_
 refine Q_then ?_
 refine C_split rfl (fun h4 => ?_) (fun h4 => ?_)
 ·
  obtain rfl : a = none := by simpa using h4
  obtain ⟨rfl, rfl⟩ := h3 rfl
  refine J_nil (el := 36) (sz := 2) ?_
  refine J_seq ?_
  refine J_region ?_
  refine L_pur rfl (p_assign rfl) ?_
  refine L_nil ?_
  refine Q_then ?_
  refine J_ret ?_
  refine Q_then_ret ?_
  exact J_return (_) Try.results98 (.tmp rfl .nil) rfl SU
 ·
  refine J_skip ?_
  refine Q_then ?_
  refine J_seq ?_
  refine J_region ?_
  refine L_op (x_lit (vals := []) Try.underlying80 ty36 rfl .nil .nil Wf.nil rfl (by decide) rfl rfl fun v5 => ?_)
  refine J_row .here fun hw5 a5 c5 hv5 hl5 hm5 hz5 => ?_
  subst hv5
  refine L_pur rfl (p_move rfl) ?_
  refine L_op (x_app rfl rfl Try.underlying80 ty36 rfl rfl PC (fun w H => hr w H.tail) (by first | omega | (simp <;> omega)) (by first | omega | (simp <;> omega)) rfl fun v7 => ?_)
  refine J_row .here fun hw7 a7 c7 hv7 hl7 hm7 hz7 => ?_
  subst hv7
  refine L_pur rfl (p_assign rfl) ?_
  refine L_nil ?_
  refine Q_then ?_
  refine J_ret ?_
  exact J_return (_) Try.results98 (.tmp rfl .nil) rfl SU

set_option maxRecDepth 100000 in
set_option maxHeartbeats 4000000 in
theorem indexfunc112 {E : World} {l : List As} {v : Value} {α : Type} {enc : α → List Value} {xs : List α} {g : FuncId} {caps : Array Value} {fn : Func} (hf : Try.prog.funcs[g]? = some fn) (hn : (fn.name == "runtime.NumGoroutine") = false) (hb : fn.body.isNone = false) {q : α → Bool} {C : As} (hg : ∀ (l' : List As) (c : α), Has C l' → Con Try.prog g (#[.agg (enc c).toArray] ++ caps) E l' (fun _ : Unit => .bool (q c)) (fun _ => l')) (hv : Has (row 36 2 v (xs.map enc)) l) (hc : Has C l) :
    Con Try.prog 112 #[v, .func (.func g) #[] caps] E l (fun _ : Unit => .int .i64 (idx q xs)) (fun _ => l) := by
  refine Con.body (vs := [v, .func (.func g) #[] caps]) (n := 19) Try.func112 rfl rfl [(0, v), (1, .func (.func g) #[] caps)] (env_ok 2 rfl) ?_
  refine J_row hv fun hw a cap hv h1 h2 h3 => ?_
  subst hv
  have hm : cap ≤ 9223372036854775807 := h2
  have hml : (xs.map enc).length = xs.length := List.length_map _
  refine J_seq ?_
  refine J_region ?_
  refine L_pur rfl (p_assign rfl) ?_
  refine L_nil ?_
  refine Q_then ?_
  refine J_seq ?_
  refine J_seq ?_
  refine J_region ?_
  refine L_pur rfl (p_move rfl) ?_
  refine L_pur rfl (p_len rfl Try.underlying80) ?_
  refine L_pur rfl (p_move rfl) ?_
  refine L_nil ?_
  refine Q_then ?_
  refine J_block ?_
  refine J_loop (α := Nat) (fun i => i ≤ xs.length ∧ ∀ c ∈ xs.take i, q c = false) (fun _ => l) (fun i => [(8, .int .i64 (i : Int)), (7, .int .i64 (xs.map enc).length), (0, .slice a (xs.map enc).length cap), (1, .func (.func g) #[] caps)]) (fun i => xs.length - i) 0 ⟨by omega, by simp⟩ SU KE ?_
  intro i ⟨hi, hq⟩
  refine J_seq ?_
  refine J_region ?_
  refine L_pur rfl (p_lss rfl rfl) ?_
  refine L_nil ?_
  refine Q_then ?_
  refine J_seq ?_
  refine C_dec rfl (fun h9 => ?_) (fun h9 => ?_)
  ·
    have hlt : i < xs.length := by omega
    obtain ⟨b, o, rfl⟩ := h3 (by intro h; rw [h] at hml; simp at hml; omega)
    obtain ⟨c, hcc⟩ : ∃ c, xs[i]? = some c := ⟨_, List.getElem?_eq_getElem hlt⟩
    refine J_skip ?_
    refine Q_then ?_
    refine J_seq ?_
    refine J_block ?_
    refine J_seq ?_
    refine J_region ?_
    refine L_pur rfl (p_move rfl) ?_
    refine L_pur rfl (p_assign rfl) ?_
    refine L_nil ?_
    refine Q_then ?_
    refine J_seq ?_
    refine J_region ?_
    refine L_pur rfl (p_move rfl) ?_
    refine L_pur rfl (p_move rfl) ?_
    refine L_pur rfl (p_move rfl) ?_
    refine L_pur rfl (p_indexAddr rfl rfl Try.underlying80 ty36 (by omega) (by omega)) ?_
    refine L_val rfl (v_loadE rfl ty36 HS (by simp only [Int.toNat_natCast, List.getElem?_map, hcc]; rfl)) ?_
    refine L_op (x_callc rfl hf hn hb (.cons rfl .nil) rfl (hg _ c hc) fun _ => ?_)
    refine L_nil ?_
    refine Q_then ?_
    refine C_split rfl (fun h16 => ?_) (fun h16 => ?_)
    ·
      have hidx := idx_here hq hcc h16
      refine J_seq ?_
      refine J_region ?_
      refine L_pur rfl (p_move rfl) ?_
      refine L_pur rfl (p_assign rfl) ?_
      refine L_nil ?_
      refine Q_then ?_
      refine J_ret ?_
      refine Q_blk_ret ?_
      refine Q_then_ret ?_
      refine Q_then_ret ?_
      refine Q_blk_ret ?_
      refine Q_then_ret ?_
      refine J_return (()) Try.results112 (.tmp rfl .nil) ?_ ?_
      · simp [one, hidx]
      · exact SU
    ·
      refine J_skip ?_
      refine Q_blk_normal ?_
      refine Q_then ?_
      refine J_region ?_
      refine L_pur rfl (p_add64 rfl rfl (by omega)) ?_
      refine L_pur rfl (p_move rfl) ?_
      refine L_nil ?_
      refine Q_then ?_
      exact J_again (i + 1) (by omega) (⟨by omega, take_false_succ hq hcc h16⟩) SU KE
  ·
    have hix : i = xs.length := by omega
    rw [hix, List.take_length] at hq
    have hidx := idx_none hq
    refine J_exit ?_
    refine Q_then_exit ?_
    refine Q_then_exit ?_
    refine Q_blk_this ?_
    refine Q_then ?_
    refine J_seq ?_
    refine J_region ?_
    refine L_pur rfl (p_assign rfl) ?_
    refine L_nil ?_
    refine Q_then ?_
    refine J_ret ?_
    refine J_return (()) Try.results112 (.tmp rfl .nil) ?_ ?_
    · simp [one, hidx]
    · exact SU

set_option maxRecDepth 100000 in
set_option maxHeartbeats 4000000 in
theorem deletefunc94 {E : World} {l m : List As} {v : Value} {α : Type} {enc : α → List Value} {xs : List α} {g : FuncId} {caps : Array Value} {fn : Func} (hf : Try.prog.funcs[g]? = some fn) (hn : (fn.name == "runtime.NumGoroutine") = false) (hb : fn.body.isNone = false) {q : α → Bool} {C : As} (hg : ∀ (l' : List As) (c : α), Has C l' → Con Try.prog g (#[.agg (enc c).toArray] ++ caps) E l' (fun _ : Unit => .bool (q c)) (fun _ => l')) (hv : Pick (row 36 2 v (xs.map enc)) l m) (hc : Has C m) (hone : ∀ c, ones (enc c) = true) (hlen : ∀ c, (enc c).length = 2) :
  Con Try.prog 94 #[v, .func (.func g) #[] caps] E l (fun v' : Value => v') (fun v' => row 36 2 v' ((xs.filter fun c => !q c).map enc) :: m) := by
 rcases idx_cases q xs with ⟨hi0, hall⟩ | ⟨i0, hi0, hlt0, hpre, c0, hc0, hq0⟩
 ·
  refine Con.body (vs := [v, .func (.func g) #[] caps]) (n := 42) Try.func94 rfl rfl [(0, v), (1, .func (.func g) #[] caps)] (env_ok 2 rfl) ?_
  refine J_pick hv ?_
  refine J_seq ?_
  refine J_region ?_
  refine L_pur rfl (p_assign rfl) ?_
  refine L_nil ?_
  refine Q_then ?_
  refine J_seq ?_
  refine J_region ?_
  refine L_pur rfl (p_move rfl) ?_
  refine L_pur rfl (p_move rfl) ?_
  refine L_op (x_call Try.func112 nm112 bd112 (.cons rfl (.cons rfl .nil)) rfl (indexfunc112 hf hn hb hg .here (.there hc)) fun _ => ?_)
  refine L_pur rfl (p_assign rfl) ?_
  refine L_nil ?_
  refine Q_then ?_
  refine J_seq ?_
  refine J_seq ?_
  refine J_region ?_
  refine L_pur rfl (p_move rfl) ?_
  refine L_pur rfl (p_eql rfl rfl) ?_
  refine L_nil ?_
  refine Q_then ?_
  refine J_bool (t := 12) (c := true) rfl (by simp [hi0]) ?_
  refine C_true rfl ?_
  refine J_seq ?_
  refine J_region ?_
  refine J_rowEq (ys := (xs.filter fun c => !q c).map enc) (by rw [List.filter_eq_self.2 (fun c hc => by simp [hall c hc])]) ?_
  refine L_pur rfl (p_move rfl) ?_
  refine L_pur rfl (p_assign rfl) ?_
  refine L_nil ?_
  refine Q_then ?_
  refine J_ret ?_
  refine Q_then_ret ?_
  exact J_return (_) Try.results94 (.tmp rfl .nil) rfl SU
 ·
  refine Con.body (vs := [v, .func (.func g) #[] caps]) (n := 42) Try.func94 rfl rfl [(0, v), (1, .func (.func g) #[] caps)] (env_ok 2 rfl) ?_
  refine J_pick hv ?_
  refine J_row .here fun hw a cap hv h1 h2 h3 => ?_
  obtain ⟨b, o, rfl⟩ := h3 (by intro h; have := congrArg List.length h; simp at this; subst this; simp at hlt0)
  subst hv
  have hm : cap ≤ 9223372036854775807 := h2
  have hml : (xs.map enc).length = xs.length := List.length_map _
  have hk0 : kept q xs (i0 + 1) = xs.take i0 := kept_first hpre hc0 hq0
  have hl0 : (xs.take i0).length = i0 := by simp; omega
  refine J_seq ?_
  refine J_region ?_
  refine L_pur rfl (p_assign rfl) ?_
  refine L_nil ?_
  refine Q_then ?_
  refine J_seq ?_
  refine J_region ?_
  refine L_pur rfl (p_move rfl) ?_
  refine L_pur rfl (p_move rfl) ?_
  refine L_op (x_call Try.func112 nm112 bd112 (.cons rfl (.cons rfl .nil)) rfl (indexfunc112 hf hn hb hg .here (.there hc)) fun _ => ?_)
  refine J_slot (t := 10) (v := .int .i64 (i0 : Int)) rfl (by rw [hi0]) ?_
  refine L_pur rfl (p_assign rfl) ?_
  refine L_nil ?_
  refine Q_then ?_
  refine J_seq ?_
  refine J_seq ?_
  refine J_region ?_
  refine L_pur rfl (p_move rfl) ?_
  refine L_pur rfl (p_eql rfl rfl) ?_
  refine L_nil ?_
  refine Q_then ?_
  refine J_bool (t := 12) (c := false) rfl (by simp) ?_
  refine C_false rfl ?_
  refine J_skip ?_
  refine Q_then ?_
  refine J_seq ?_
  refine J_seq ?_
  refine J_region ?_
  refine L_pur rfl (p_move rfl) ?_
  refine L_pur rfl (p_add64 rfl rfl (by omega)) ?_
  refine L_pur rfl (p_assign rfl) ?_
  refine L_nil ?_
  refine Q_then ?_
  refine J_block ?_
  refine J_rowEq (ys := (kept q xs (i0 + 1) ++ xs.drop (kept q xs (i0 + 1)).length).map enc) (by rw [hk0, hl0, List.take_append_drop]) ?_
  refine J_slot (t := 5) (v := .int .i64 ((kept q xs (i0 + 1)).length : Int)) rfl (by rw [hk0, hl0]) ?_
  refine J_loop (α := Nat) (fun j => j ≤ xs.length) (fun j => row 36 2 (.slice (some ⟨b, o, none⟩) (xs.map enc).length cap) ((kept q xs j ++ xs.drop (kept q xs j).length).map enc) :: m) (fun j => [(6, .int .i64 (j : Int)), (5, .int .i64 ((kept q xs j).length : Int)), (0, .slice (some ⟨b, o, none⟩) (xs.map enc).length cap), (1, .func (.func g) #[] caps)]) (fun j => xs.length - j) (i0 + 1) (by omega) SU KE ?_
  intro j hj
  have hkl := kept_le q xs j
  refine J_seq ?_
  refine J_seq ?_
  refine J_region ?_
  refine L_pur rfl (p_move rfl) ?_
  refine L_pur rfl (p_move rfl) ?_
  refine L_pur rfl (p_len rfl Try.underlying80) ?_
  refine L_pur rfl (p_lss rfl rfl) ?_
  refine L_nil ?_
  refine Q_then ?_
  refine C_dec rfl (fun h19 => ?_) (fun h19 => ?_)
  ·
   have hlt : j < xs.length := by omega
   obtain ⟨c, hcc⟩ : ∃ c, xs[j]? = some c := ⟨_, List.getElem?_eq_getElem hlt⟩
   refine J_skip ?_
   refine Q_then ?_
   refine J_seq ?_
   refine J_block ?_
   refine J_seq ?_
   refine J_region ?_
   refine L_pur rfl (p_move rfl) ?_
   refine L_pur rfl (p_move rfl) ?_
   refine L_pur rfl (p_indexAddr rfl rfl Try.underlying80 ty36 (by omega) (by omega)) ?_
   refine L_val rfl (v_loadE rfl ty36 HS (by simp only [Int.toNat_natCast, List.getElem?_map, kept_get, hcc]; rfl)) ?_
   refine L_op (x_alloc ty36 rfl fun b7 => ?_)
   refine L_op (x_store rfl rfl ty36 rfl (by first | rfl | (simp [*]; done)) (by first | rfl | (simp [*]; done)) RO PT ?_)
   refine L_nil ?_
   refine Q_then ?_
   refine J_seq ?_
   refine J_region ?_
   refine L_pur rfl (p_move rfl) ?_
   refine L_val rfl (v_loadA rfl ty36 HS CT) ?_
   refine L_op (x_callc rfl hf hn hb (.cons rfl .nil) rfl (hg _ c (.there (.there hc))) fun _ => ?_)
   refine L_pur rfl (p_not rfl) ?_
   refine L_nil ?_
   refine Q_then ?_
   refine C_split rfl (fun h29 => ?_) (fun h29 => ?_)
   ·
    have hqc : q c = false := by simpa using h29
    have hks := kept_set hcc hqc
    have hkl1 : (kept q xs (j + 1)).length = (kept q xs j).length + 1 := by rw [kept_succ hcc, hqc]; simp
    refine J_seq ?_
    refine J_region ?_
    refine L_pur rfl (p_move rfl) ?_
    refine L_pur rfl (p_move rfl) ?_
    refine L_val rfl (v_loadA rfl ty36 HS CT) ?_
    refine L_pur rfl (p_indexAddr rfl rfl Try.underlying80 ty36 (by omega) (by omega)) ?_
    refine L_op (x_storeE (vs := enc c) rfl rfl ty36 rfl (hlen c) (hone c) PC (by first | omega | (simp <;> omega)) ?_)
    refine J_rowEq (ys := (kept q xs (j + 1) ++ xs.drop (kept q xs (j + 1)).length).map enc) (by rw [← hks, List.map_set]; simp) ?_
    refine L_nil ?_
    refine Q_then ?_
    refine J_region ?_
    refine L_pur rfl (p_move rfl) ?_
    refine L_pur rfl (p_add64 rfl rfl (by omega)) ?_
    refine L_pur rfl (p_assign rfl) ?_
    refine L_nil ?_
    refine Q_blk_normal ?_
    refine Q_then ?_
    refine J_region ?_
    refine L_pur rfl (p_move rfl) ?_
    refine L_pur rfl (p_add64 rfl rfl (by omega)) ?_
    refine L_pur rfl (p_assign rfl) ?_
    refine L_nil ?_
    refine Q_then ?_
    refine J_slot (t := 5) (v := .int .i64 ((kept q xs (j + 1)).length : Int)) rfl (by rw [hkl1]; rfl) ?_
    exact J_again (j + 1) (by omega) (by omega) SU KE
   ·
    have hqc : q c = true := by simpa using h29
    have hks : kept q xs (j + 1) = kept q xs j := by rw [kept_succ hcc, hqc]; simp
    refine J_skip ?_
    refine Q_blk_normal ?_
    refine Q_then ?_
    refine J_region ?_
    refine L_pur rfl (p_move rfl) ?_
    refine L_pur rfl (p_add64 rfl rfl (by omega)) ?_
    refine L_pur rfl (p_assign rfl) ?_
    refine L_nil ?_
    refine Q_then ?_
    refine J_slot (t := 5) (v := .int .i64 ((kept q xs (j + 1)).length : Int)) rfl (by rw [hks]) ?_
    refine J_pick (A := row 36 2 (.slice (some ⟨b, o, none⟩) (xs.map enc).length cap) ((kept q xs j ++ xs.drop (kept q xs j).length).map enc)) PC ?_
    refine J_rowEq (ys := (kept q xs (j + 1) ++ xs.drop (kept q xs (j + 1)).length).map enc) (by rw [hks]) ?_
    exact J_again (j + 1) (by omega) (by omega) SU KE
  ·
   have hjx : j = xs.length := by omega
   have hka : kept q xs j = xs.filter fun c => !q c := kept_all (by omega)
   refine J_exit ?_
   refine Q_then_exit ?_
   refine Q_then_exit ?_
   refine Q_blk_this ?_
   refine Q_then ?_
   refine J_seq ?_
   refine J_region ?_
   refine L_pur rfl (p_move rfl) ?_
   refine L_pur rfl (p_move rfl) ?_
   refine L_pur rfl (p_slice rfl Try.underlying80 ty36 rfl rfl (by omega) (by omega) (by omega)) ?_
   refine L_op (x_clear (len := (xs.map enc).length) rfl Try.underlying80 ty36 rfl rfl PC (by first | omega | (simp <;> omega)) ?_)
   refine L_nil ?_
   refine Q_then ?_
   refine J_seq ?_
   refine J_region ?_
   refine L_pur rfl (p_move rfl) ?_
   refine L_pur rfl (p_move rfl) ?_
   refine L_pur rfl (p_slice rfl Try.underlying80 ty36 rfl rfl (by omega) (by omega) (by omega)) ?_
   refine J_take (k := (kept q xs j).length) (by first | omega | (simp <;> omega)) ?_
   refine J_rowTo (v' := .slice (some ⟨b, o, none⟩) (kept q xs j).length cap) (ys := (xs.filter fun c => !q c).map enc) (by simp [hka]) rfl ?_
   refine J_slot (t := 41) (v := .slice (some ⟨b, o, none⟩) (kept q xs j).length cap) rfl (by simp [Addr.add]) ?_
   refine L_pur rfl (p_assign rfl) ?_
   refine L_nil ?_
   refine Q_then ?_
   refine J_ret ?_
   exact J_return (_) Try.results94 (.tmp rfl .nil) rfl SU

set_option maxRecDepth 100000 in
set_option maxHeartbeats 4000000 in
theorem clo95 {E : World} {l : List As} {bc : Nat} {i c : ID} (hc : Has (blk bc 36 (encI i)) l) :
  Con Try.prog 95 #[.agg (encI c).toArray, .pointer (some ⟨bc, 0, none⟩)] E l (fun _ : Unit => .bool (isI i c)) (fun _ => l) := by
 refine Con.body (vs := [.agg (encI c).toArray, .pointer (some ⟨bc, 0, none⟩)]) (n := 7) Try.func95 rfl rfl [(0, .agg (encI c).toArray), (1, .pointer (some ⟨bc, 0, none⟩))] (env_ok 2 rfl) ?_
 refine J_seq ?_
 refine J_region ?_
 refine L_op (x_box rfl rfl rfl fun b2 => ?_)
 refine L_pur rfl (p_assign rfl) ?_
 refine L_nil ?_
 refine Q_then ?_
 refine J_seq ?_
 refine J_region ?_
 refine L_val rfl (v_loadA rfl ty36 HS CT) ?_
 refine L_val rfl (v_loadA rfl ty36 HS CT) ?_
 refine L_pur rfl (p_eqv rfl rfl (fun w => eg36 _ _ _ _ _ w) (fun w => eqv36 _ _ _ _ w)) ?_
 refine L_pur rfl (p_assign rfl) ?_
 refine L_nil ?_
 refine Q_then ?_
 refine J_ret ?_
 exact J_return (()) Try.results95 (.tmp rfl .nil) rfl SU

set_option maxRecDepth 100000 in
set_option maxHeartbeats 4000000 in
theorem lHas {E : World} {l m : List As}{b o : Nat} {xs : List ID} (hp : Pick (lsA b o xs) l m) (hb : xs.length ≤ 100000) (i : ID) :
  Con Try.prog 53 #[.pointer (some ⟨b, o, none⟩), .agg (encI i).toArray] E l (fun _ : Unit => .bool (decide (i ∈ xs))) (fun _ => lsA b o xs :: m) := by
 refine Con.body (vs := [.pointer (some ⟨b, o, none⟩), .agg (encI i).toArray]) (n := 11) Try.func53 rfl rfl [(0, .pointer (some ⟨b, o, none⟩)), (1, .agg (encI i).toArray)] (env_ok 2 rfl) ?_
 refine J_pick hp ?_
 refine J_lsO fun v ob ps hw => ?_
 refine J_seq ?_
 refine J_region ?_
 refine L_op (x_box rfl rfl rfl fun b3 => ?_)
 refine L_pur rfl (p_assign rfl) ?_
 refine L_nil ?_
 refine Q_then ?_
 refine J_seq ?_
 refine J_drawS mixed (by kernel_rfl) ?_
 refine S_val rfl (Pur.vl (p_move rfl)) ?_
 refine S_val rfl (Pur.vl (p_nilCheck rfl)) ?_
 refine S_val rfl (Pur.vl (p_fieldAddr rfl fa83_1)) ?_
 refine S_val rfl (v_loadL rfl ty81 HS rfl (by exact rfl)) ?_
 refine S_val rfl (v_loadA rfl ty36 HS CT) ?_
 refine S_val rfl (v_look (ek := kI) (ev := evB) (a := i) rfl rfl ky36 Try.underlying81 zv4 HS) ?_
 refine J_slot (t := 10) (v := .bool (decide (i ∈ xs))) rfl (hw.says i) ?_
 refine S_val rfl (Pur.vl (p_assign rfl)) ?_
 refine S_nil ?_
 refine Q_then ?_
 refine J_ret ?_
 refine J_lsS (b := b) (o := o) (xs := xs) _ _ _ PX (hw) ?_
 exact J_return (()) Try.results53 (.tmp rfl .nil) rfl SU

set_option maxRecDepth 100000 in
set_option maxHeartbeats 4000000 in
theorem lLen {E : World} {l m : List As}{b o : Nat} {xs : List ID} (hp : Pick (lsA b o xs) l m) (hb : xs.length ≤ 100000) :
    Con Try.prog 49 #[.pointer (some ⟨b, o, none⟩)] E l (fun _ : Unit => .int .i64 (xs.length : Int)) (fun _ => lsA b o xs :: m) := by
  refine Con.body (vs := [.pointer (some ⟨b, o, none⟩)]) (n := 8) Try.func49 rfl rfl [(0, .pointer (some ⟨b, o, none⟩))] (env_ok 1 rfl) ?_
  refine J_pick hp ?_
  refine J_lsO fun v ob ps hw => ?_
  refine J_row (.there .here) fun hwf a cap hv h1 h2 h3 => ?_
  subst hv
  refine J_seq ?_
  refine J_region ?_
  refine L_pur rfl (p_assign rfl) ?_
  refine L_nil ?_
  refine Q_then ?_
  refine J_seq ?_
  refine J_region ?_
  refine L_pur rfl (p_move rfl) ?_
  refine L_pur rfl (p_nilCheck rfl) ?_
  refine L_pur rfl (p_fieldAddr rfl fa83_0) ?_
  refine L_val rfl (v_loadL rfl ty80 HS rfl (by exact rfl)) ?_
  refine L_pur rfl (p_len rfl Try.underlying80) ?_
  refine L_pur rfl (p_assign rfl) ?_
  refine L_nil ?_
  refine Q_then ?_
  refine J_ret ?_
  refine J_lsS (b := b) (o := o) (xs := xs) _ _ _ PX (hw) ?_
  refine J_return (()) Try.results49 (.tmp rfl .nil) ?_ ?_
  · simp [one]
  · exact SU

set_option maxRecDepth 100000 in
set_option maxHeartbeats 4000000 in
theorem lAll {E : World} {l m : List As}{b o : Nat} {xs : List ID} (hp : Pick (lsA b o xs) l m) (hb : xs.length ≤ 100000) :
  Con Try.prog 56 #[.pointer (some ⟨b, o, none⟩)] E l (fun v : Value => v) (fun v => row 36 2 v (xs.map encI) :: lsA b o xs :: m) := by
 refine Con.body (vs := [.pointer (some ⟨b, o, none⟩)]) (n := 8) Try.func56 rfl rfl [(0, .pointer (some ⟨b, o, none⟩))] (env_ok 1 rfl) ?_
 refine J_pick hp ?_
 refine J_lsO fun v ob ps hw => ?_
 refine J_seq ?_
 refine J_region ?_
 refine L_pur rfl (p_assign rfl) ?_
 refine L_nil ?_
 refine Q_then ?_
 refine J_seq ?_
 refine J_region ?_
 refine L_pur rfl (p_move rfl) ?_
 refine L_pur rfl (p_nilCheck rfl) ?_
 refine L_pur rfl (p_fieldAddr rfl fa83_0) ?_
 refine L_val rfl (v_loadL rfl ty80 HS rfl (by exact rfl)) ?_
 refine L_op (x_call Try.func98 nm98 bd98 (.cons rfl .nil) rfl (clone98 (xs := xs.map encI) (fun w H => sep_reads (xs := xs.map encI) HS H) (by simp; omega)) fun v7 => ?_)
 refine J_row .here fun hw7 a7 c7 hv7 hl7 hm7 hz7 => ?_
 subst hv7
 refine L_pur rfl (p_assign rfl) ?_
 refine L_nil ?_
 refine Q_then ?_
 refine J_ret ?_
 refine J_lsS (b := b) (o := o) (xs := xs) _ _ _ PX (hw) ?_
 exact J_return (_) Try.results56 (.tmp rfl .nil) rfl SU

set_option maxRecDepth 100000 in
set_option maxHeartbeats 4000000 in
theorem lPush {E : World} {l m : List As}{b o : Nat} {xs : List ID} (hp : Pick (lsA b o xs) l m) (hb : xs.length ≤ 100000) (i : ID) :
    Con Try.prog 46 #[.pointer (some ⟨b, o, none⟩), .agg (encI i).toArray] E l (fun _ : Unit => .bool (!decide (i ∈ xs))) (fun _ => lsA b o (lpush xs i) :: m) := by
  refine Con.body (vs := [.pointer (some ⟨b, o, none⟩), .agg (encI i).toArray]) (n := 35) Try.func46 rfl rfl [(0, .pointer (some ⟨b, o, none⟩)), (1, .agg (encI i).toArray)] (env_ok 2 rfl) ?_
  refine J_pick hp ?_
  refine J_lsO fun v ob ps hw => ?_
  refine J_seq ?_
  refine J_region ?_
  refine L_op (x_box rfl rfl rfl fun b3 => ?_)
  refine L_pur rfl (p_assign rfl) ?_
  refine L_nil ?_
  refine Q_then ?_
  refine J_seq ?_
  refine J_seq ?_
  refine J_drawS mixed (by kernel_rfl) ?_
  refine S_val rfl (Pur.vl (p_move rfl)) ?_
  refine S_val rfl (Pur.vl (p_nilCheck rfl)) ?_
  refine S_val rfl (Pur.vl (p_fieldAddr rfl fa83_1)) ?_
  refine S_val rfl (v_loadL rfl ty81 HS rfl (by exact rfl)) ?_
  refine S_val rfl (v_loadA rfl ty36 HS CT) ?_
  refine S_val rfl (v_look (ek := kI) (ev := evB) (a := i) rfl rfl ky36 Try.underlying81 zv4 HS) ?_
  refine J_slot (t := 10) (v := .bool (decide (i ∈ xs))) rfl (hw.says i) ?_
  refine S_nil ?_
  refine Q_then ?_
  refine C_dec rfl (fun h10 => ?_) (fun h10 => ?_)
  ·
    have hlp : lpush xs i = xs := if_pos h10
    refine J_seq ?_
    refine J_region ?_
    refine L_pur rfl (p_assign rfl) ?_
    refine L_nil ?_
    refine Q_then ?_
    refine J_ret ?_
    refine Q_then_ret ?_
    refine J_lsS (b := b) (o := o) (xs := xs) _ _ _ PX (hw) ?_
    refine J_asTo (B := lsA b o (lpush xs i)) (by rw [hlp]) ?_
    refine J_return (()) Try.results46 (.tmp rfl .nil) ?_ ?_
    · first | rfl | simp [one, h10]
    · exact SU
  ·
    have hlp : lpush xs i = xs ++ [i] := if_neg h10
    refine J_skip ?_
    refine Q_then ?_
    refine J_seq ?_
    refine J_seq ?_
    refine J_region ?_
    refine L_pur rfl (p_move rfl) ?_
    refine L_pur rfl (p_nilCheck rfl) ?_
    refine L_pur rfl (p_fieldAddr rfl fa83_1) ?_
    refine L_val rfl (v_loadL rfl ty81 HS rfl (by exact rfl)) ?_
    refine L_pur rfl (p_eqNilMap Try.underlying81 rfl) ?_
    refine L_nil ?_
    refine Q_then ?_
    refine C_split rfl (fun h15 => ?_) (fun h15 => ?_)
    ·
      obtain rfl : ob = none := by simpa using h15
      refine J_mapNone (ps := ps) HS fun hps => ?_
      subst hps
      refine J_region ?_
      refine L_pur rfl (p_move rfl) ?_
      refine L_op (x_makeMap (ek := kI) (ev := evB) rfl fun b17 => ?_)
      refine L_pur rfl (p_nilCheck rfl) ?_
      refine L_pur rfl (p_fieldAddr rfl fa83_1) ?_
      refine L_op (x_storeL rfl rfl ty81 rfl (by first | rfl | (simp [*]; done)) (by first | rfl | (simp [*]; done)) rfl RO rfl PT ?_)
      refine L_nil ?_
      refine Q_then ?_
      refine J_seq ?_
      refine J_drawT 5 mixed (by kernel_rfl) ?_
      refine S_val rfl (Pur.vl (p_move rfl)) ?_
      refine S_val rfl (Pur.vl (p_nilCheck rfl)) ?_
      refine S_val rfl (Pur.vl (p_fieldAddr rfl fa83_1)) ?_
      refine S_val rfl (v_loadL rfl ty81 HS rfl (by exact rfl)) ?_
      refine S_val rfl (v_loadA rfl ty36 HS CT) ?_
      refine S_nil ?_
      refine L_op (x_mapUpdate (ek := kI) (ev := evB) rfl rfl rfl ky36 Try.underlying81 PC ?_)
      refine L_nil ?_
      refine Q_then ?_
      refine J_seq ?_
      refine J_draw mixed ?_
      refine A_take (i := 0) rfl rfl rfl rfl (by kernel_rfl) (by kernel_rfl) (by kernel_rfl) (fun _ _ _ _ h => h) (p_move rfl) ?_
      refine A_take (i := 1) rfl rfl rfl rfl (by kernel_rfl) (by kernel_rfl) (by kernel_rfl) (fun _ _ _ _ h => h) (p_move rfl) ?_
      refine A_take (i := 2) rfl rfl rfl rfl (by kernel_rfl) (by kernel_rfl) (by kernel_rfl) (fun _ _ _ _ h => h) (p_nilCheck rfl) ?_
      refine A_take (i := 3) rfl rfl rfl rfl (by kernel_rfl) (by kernel_rfl) (by kernel_rfl) (fun _ _ _ _ h => h) (p_fieldAddr rfl fa83_0) ?_
      refine A_ready (rs := [4, 5]) (by kernel_rfl) (by simp) ?_
      refine (A_cons rfl ?_ (A_cons rfl ?_ A_nil))
      ·
        refine J_val (v_loadL rfl ty80 HS rfl (by exact rfl)) rfl rfl rfl ?_
        refine A_one (i := 5) (by kernel_rfl) rfl ?_
        refine J_val (v_loadA rfl ty36 HS CT) rfl rfl rfl ?_
        refine A_one (i := 6) (by kernel_rfl) rfl ?_
        refine x_lit (vals := [_]) Try.underlying80 ty36 rfl (.cons rfl .nil) (.agg .nil) (Wf.cons rfl rfl Wf.nil) rfl (by decide) rfl rfl fun v31 => ?_
        refine J_row .here fun hw31 a31 c31 hv31 hl31 hm31 hz31 => ?_
        subst hv31
        refine A_one (i := 7) (by kernel_rfl) rfl ?_
        refine x_app rfl rfl Try.underlying80 ty36 rfl rfl PC (fun w H => sep_reads HS H) (by first | omega | (simp <;> omega)) (by first | omega | (simp <;> omega)) rfl fun v32 => ?_
        refine J_rowEq (ys := (xs ++ [i]).map encI) (by simp) ?_
        refine J_row .here fun hw32 a32 c32 hv32 hl32 hm32 hz32 => ?_
        subst hv32
        refine A_take (i := 8) rfl rfl rfl rfl (by kernel_rfl) (by kernel_rfl) (by kernel_rfl) (fun _ _ _ _ h => h) (p_nilCheck rfl) ?_
        refine A_take (i := 9) rfl rfl rfl rfl (by kernel_rfl) (by kernel_rfl) (by kernel_rfl) (fun _ _ _ _ h => h) (p_fieldAddr rfl fa83_0) ?_
        refine A_one (i := 10) (by kernel_rfl) rfl ?_
        refine x_storeL rfl rfl ty80 rfl (by first | rfl | (simp [*]; done)) (by first | rfl | (simp [*]; done)) rfl RO rfl PT ?_
        refine A_done (by kernel_rfl) ?_
        refine Q_then ?_
        refine J_seq ?_
        refine J_region ?_
        refine L_pur rfl (p_assign rfl) ?_
        refine L_nil ?_
        refine Q_then ?_
        refine J_ret ?_
        refine J_lsS (b := b) (o := o) (xs := xs ++ [i]) _ _ _ PX (hw.push h10) ?_
        refine J_asTo (B := lsA b o (lpush xs i)) (by rw [hlp]) ?_
        refine J_return (()) Try.results46 (.tmp rfl .nil) ?_ ?_
        · first | rfl | simp [one, h10]
        · exact SU
      ·
        refine J_val (v_loadA rfl ty36 HS CT) rfl rfl rfl ?_
        refine A_ready (rs := [4, 6]) (by kernel_rfl) (by simp) ?_
        refine (A_cons rfl ?_ (A_cons rfl ?_ A_nil))
        ·
          refine J_val (v_loadL rfl ty80 HS rfl (by exact rfl)) rfl rfl rfl ?_
          refine A_one (i := 6) (by kernel_rfl) rfl ?_
          refine x_lit (vals := [_]) Try.underlying80 ty36 rfl (.cons rfl .nil) (.agg .nil) (Wf.cons rfl rfl Wf.nil) rfl (by decide) rfl rfl fun v31 => ?_
          refine J_row .here fun hw31 a31 c31 hv31 hl31 hm31 hz31 => ?_
          subst hv31
          refine A_one (i := 7) (by kernel_rfl) rfl ?_
          refine x_app rfl rfl Try.underlying80 ty36 rfl rfl PC (fun w H => sep_reads HS H) (by first | omega | (simp <;> omega)) (by first | omega | (simp <;> omega)) rfl fun v32 => ?_
          refine J_rowEq (ys := (xs ++ [i]).map encI) (by simp) ?_
          refine J_row .here fun hw32 a32 c32 hv32 hl32 hm32 hz32 => ?_
          subst hv32
          refine A_take (i := 8) rfl rfl rfl rfl (by kernel_rfl) (by kernel_rfl) (by kernel_rfl) (fun _ _ _ _ h => h) (p_nilCheck rfl) ?_
          refine A_take (i := 9) rfl rfl rfl rfl (by kernel_rfl) (by kernel_rfl) (by kernel_rfl) (fun _ _ _ _ h => h) (p_fieldAddr rfl fa83_0) ?_
          refine A_one (i := 10) (by kernel_rfl) rfl ?_
          refine x_storeL rfl rfl ty80 rfl (by first | rfl | (simp [*]; done)) (by first | rfl | (simp [*]; done)) rfl RO rfl PT ?_
          refine A_done (by kernel_rfl) ?_
          refine Q_then ?_
          refine J_seq ?_
          refine J_region ?_
          refine L_pur rfl (p_assign rfl) ?_
          refine L_nil ?_
          refine Q_then ?_
          refine J_ret ?_
          refine J_lsS (b := b) (o := o) (xs := xs ++ [i]) _ _ _ PX (hw.push h10) ?_
          refine J_asTo (B := lsA b o (lpush xs i)) (by rw [hlp]) ?_
          refine J_return (()) Try.results46 (.tmp rfl .nil) ?_ ?_
          · first | rfl | simp [one, h10]
          · exact SU
        ·
          refine x_lit (vals := [_]) Try.underlying80 ty36 rfl (.cons rfl .nil) (.agg .nil) (Wf.cons rfl rfl Wf.nil) rfl (by decide) rfl rfl fun v31 => ?_
          refine J_row .here fun hw31 a31 c31 hv31 hl31 hm31 hz31 => ?_
          subst hv31
          refine A_one (i := 4) (by kernel_rfl) rfl ?_
          refine J_val (v_loadL rfl ty80 HS rfl (by exact rfl)) rfl rfl rfl ?_
          refine A_one (i := 7) (by kernel_rfl) rfl ?_
          refine x_app rfl rfl Try.underlying80 ty36 rfl rfl PC (fun w H => sep_reads HS H) (by first | omega | (simp <;> omega)) (by first | omega | (simp <;> omega)) rfl fun v32 => ?_
          refine J_rowEq (ys := (xs ++ [i]).map encI) (by simp) ?_
          refine J_row .here fun hw32 a32 c32 hv32 hl32 hm32 hz32 => ?_
          subst hv32
          refine A_take (i := 8) rfl rfl rfl rfl (by kernel_rfl) (by kernel_rfl) (by kernel_rfl) (fun _ _ _ _ h => h) (p_nilCheck rfl) ?_
          refine A_take (i := 9) rfl rfl rfl rfl (by kernel_rfl) (by kernel_rfl) (by kernel_rfl) (fun _ _ _ _ h => h) (p_fieldAddr rfl fa83_0) ?_
          refine A_one (i := 10) (by kernel_rfl) rfl ?_
          refine x_storeL rfl rfl ty80 rfl (by first | rfl | (simp [*]; done)) (by first | rfl | (simp [*]; done)) rfl RO rfl PT ?_
          refine A_done (by kernel_rfl) ?_
          refine Q_then ?_
          refine J_seq ?_
          refine J_region ?_
          refine L_pur rfl (p_assign rfl) ?_
          refine L_nil ?_
          refine Q_then ?_
          refine J_ret ?_
          refine J_lsS (b := b) (o := o) (xs := xs ++ [i]) _ _ _ PX (hw.push h10) ?_
          refine J_asTo (B := lsA b o (lpush xs i)) (by rw [hlp]) ?_
          refine J_return (()) Try.results46 (.tmp rfl .nil) ?_ ?_
          · first | rfl | simp [one, h10]
          · exact SU
    ·
      obtain ⟨bm, rfl⟩ : ∃ bm, ob = some bm := by cases ob with | none => simp at h15 | some x => exact ⟨x, rfl⟩
      refine J_skip ?_
      refine Q_then ?_
      refine J_seq ?_
      refine J_drawT 5 mixed (by kernel_rfl) ?_
      refine S_val rfl (Pur.vl (p_move rfl)) ?_
      refine S_val rfl (Pur.vl (p_nilCheck rfl)) ?_
      refine S_val rfl (Pur.vl (p_fieldAddr rfl fa83_1)) ?_
      refine S_val rfl (v_loadL rfl ty81 HS rfl (by exact rfl)) ?_
      refine S_val rfl (v_loadA rfl ty36 HS CT) ?_
      refine S_nil ?_
      refine L_op (x_mapUpdate (ek := kI) (ev := evB) rfl rfl rfl ky36 Try.underlying81 PC ?_)
      refine L_nil ?_
      refine Q_then ?_
      refine J_seq ?_
      refine J_draw mixed ?_
      refine A_take (i := 0) rfl rfl rfl rfl (by kernel_rfl) (by kernel_rfl) (by kernel_rfl) (fun _ _ _ _ h => h) (p_move rfl) ?_
      refine A_take (i := 1) rfl rfl rfl rfl (by kernel_rfl) (by kernel_rfl) (by kernel_rfl) (fun _ _ _ _ h => h) (p_move rfl) ?_
      refine A_take (i := 2) rfl rfl rfl rfl (by kernel_rfl) (by kernel_rfl) (by kernel_rfl) (fun _ _ _ _ h => h) (p_nilCheck rfl) ?_
      refine A_take (i := 3) rfl rfl rfl rfl (by kernel_rfl) (by kernel_rfl) (by kernel_rfl) (fun _ _ _ _ h => h) (p_fieldAddr rfl fa83_0) ?_
      refine A_ready (rs := [4, 5]) (by kernel_rfl) (by simp) ?_
      refine (A_cons rfl ?_ (A_cons rfl ?_ A_nil))
      ·
        refine J_val (v_loadL rfl ty80 HS rfl (by exact rfl)) rfl rfl rfl ?_
        refine A_one (i := 5) (by kernel_rfl) rfl ?_
        refine J_val (v_loadA rfl ty36 HS CT) rfl rfl rfl ?_
        refine A_one (i := 6) (by kernel_rfl) rfl ?_
        refine x_lit (vals := [_]) Try.underlying80 ty36 rfl (.cons rfl .nil) (.agg .nil) (Wf.cons rfl rfl Wf.nil) rfl (by decide) rfl rfl fun v31 => ?_
        refine J_row .here fun hw31 a31 c31 hv31 hl31 hm31 hz31 => ?_
        subst hv31
        refine A_one (i := 7) (by kernel_rfl) rfl ?_
        refine x_app rfl rfl Try.underlying80 ty36 rfl rfl PC (fun w H => sep_reads HS H) (by first | omega | (simp <;> omega)) (by first | omega | (simp <;> omega)) rfl fun v32 => ?_
        refine J_rowEq (ys := (xs ++ [i]).map encI) (by simp) ?_
        refine J_row .here fun hw32 a32 c32 hv32 hl32 hm32 hz32 => ?_
        subst hv32
        refine A_take (i := 8) rfl rfl rfl rfl (by kernel_rfl) (by kernel_rfl) (by kernel_rfl) (fun _ _ _ _ h => h) (p_nilCheck rfl) ?_
        refine A_take (i := 9) rfl rfl rfl rfl (by kernel_rfl) (by kernel_rfl) (by kernel_rfl) (fun _ _ _ _ h => h) (p_fieldAddr rfl fa83_0) ?_
        refine A_one (i := 10) (by kernel_rfl) rfl ?_
        refine x_storeL rfl rfl ty80 rfl (by first | rfl | (simp [*]; done)) (by first | rfl | (simp [*]; done)) rfl RO rfl PT ?_
        refine A_done (by kernel_rfl) ?_
        refine Q_then ?_
        refine J_seq ?_
        refine J_region ?_
        refine L_pur rfl (p_assign rfl) ?_
        refine L_nil ?_
        refine Q_then ?_
        refine J_ret ?_
        refine J_lsS (b := b) (o := o) (xs := xs ++ [i]) _ _ _ PX (hw.push h10) ?_
        refine J_asTo (B := lsA b o (lpush xs i)) (by rw [hlp]) ?_
        refine J_return (()) Try.results46 (.tmp rfl .nil) ?_ ?_
        · first | rfl | simp [one, h10]
        · exact SU
      ·
        refine J_val (v_loadA rfl ty36 HS CT) rfl rfl rfl ?_
        refine A_ready (rs := [4, 6]) (by kernel_rfl) (by simp) ?_
        refine (A_cons rfl ?_ (A_cons rfl ?_ A_nil))
        ·
          refine J_val (v_loadL rfl ty80 HS rfl (by exact rfl)) rfl rfl rfl ?_
          refine A_one (i := 6) (by kernel_rfl) rfl ?_
          refine x_lit (vals := [_]) Try.underlying80 ty36 rfl (.cons rfl .nil) (.agg .nil) (Wf.cons rfl rfl Wf.nil) rfl (by decide) rfl rfl fun v31 => ?_
          refine J_row .here fun hw31 a31 c31 hv31 hl31 hm31 hz31 => ?_
          subst hv31
          refine A_one (i := 7) (by kernel_rfl) rfl ?_
          refine x_app rfl rfl Try.underlying80 ty36 rfl rfl PC (fun w H => sep_reads HS H) (by first | omega | (simp <;> omega)) (by first | omega | (simp <;> omega)) rfl fun v32 => ?_
          refine J_rowEq (ys := (xs ++ [i]).map encI) (by simp) ?_
          refine J_row .here fun hw32 a32 c32 hv32 hl32 hm32 hz32 => ?_
          subst hv32
          refine A_take (i := 8) rfl rfl rfl rfl (by kernel_rfl) (by kernel_rfl) (by kernel_rfl) (fun _ _ _ _ h => h) (p_nilCheck rfl) ?_
          refine A_take (i := 9) rfl rfl rfl rfl (by kernel_rfl) (by kernel_rfl) (by kernel_rfl) (fun _ _ _ _ h => h) (p_fieldAddr rfl fa83_0) ?_
          refine A_one (i := 10) (by kernel_rfl) rfl ?_
          refine x_storeL rfl rfl ty80 rfl (by first | rfl | (simp [*]; done)) (by first | rfl | (simp [*]; done)) rfl RO rfl PT ?_
          refine A_done (by kernel_rfl) ?_
          refine Q_then ?_
          refine J_seq ?_
          refine J_region ?_
          refine L_pur rfl (p_assign rfl) ?_
          refine L_nil ?_
          refine Q_then ?_
          refine J_ret ?_
          refine J_lsS (b := b) (o := o) (xs := xs ++ [i]) _ _ _ PX (hw.push h10) ?_
          refine J_asTo (B := lsA b o (lpush xs i)) (by rw [hlp]) ?_
          refine J_return (()) Try.results46 (.tmp rfl .nil) ?_ ?_
          · first | rfl | simp [one, h10]
          · exact SU
        ·
          refine x_lit (vals := [_]) Try.underlying80 ty36 rfl (.cons rfl .nil) (.agg .nil) (Wf.cons rfl rfl Wf.nil) rfl (by decide) rfl rfl fun v31 => ?_
          refine J_row .here fun hw31 a31 c31 hv31 hl31 hm31 hz31 => ?_
          subst hv31
          refine A_one (i := 4) (by kernel_rfl) rfl ?_
          refine J_val (v_loadL rfl ty80 HS rfl (by exact rfl)) rfl rfl rfl ?_
          refine A_one (i := 7) (by kernel_rfl) rfl ?_
          refine x_app rfl rfl Try.underlying80 ty36 rfl rfl PC (fun w H => sep_reads HS H) (by first | omega | (simp <;> omega)) (by first | omega | (simp <;> omega)) rfl fun v32 => ?_
          refine J_rowEq (ys := (xs ++ [i]).map encI) (by simp) ?_
          refine J_row .here fun hw32 a32 c32 hv32 hl32 hm32 hz32 => ?_
          subst hv32
          refine A_take (i := 8) rfl rfl rfl rfl (by kernel_rfl) (by kernel_rfl) (by kernel_rfl) (fun _ _ _ _ h => h) (p_nilCheck rfl) ?_
          refine A_take (i := 9) rfl rfl rfl rfl (by kernel_rfl) (by kernel_rfl) (by kernel_rfl) (fun _ _ _ _ h => h) (p_fieldAddr rfl fa83_0) ?_
          refine A_one (i := 10) (by kernel_rfl) rfl ?_
          refine x_storeL rfl rfl ty80 rfl (by first | rfl | (simp [*]; done)) (by first | rfl | (simp [*]; done)) rfl RO rfl PT ?_
          refine A_done (by kernel_rfl) ?_
          refine Q_then ?_
          refine J_seq ?_
          refine J_region ?_
          refine L_pur rfl (p_assign rfl) ?_
          refine L_nil ?_
          refine Q_then ?_
          refine J_ret ?_
          refine J_lsS (b := b) (o := o) (xs := xs ++ [i]) _ _ _ PX (hw.push h10) ?_
          refine J_asTo (B := lsA b o (lpush xs i)) (by rw [hlp]) ?_
          refine J_return (()) Try.results46 (.tmp rfl .nil) ?_ ?_
          · first | rfl | simp [one, h10]
          · exact SU

set_option maxRecDepth 100000 in
set_option maxHeartbeats 4000000 in
theorem lDrop {E : World} {l m : List As}{b o : Nat} {xs : List ID} (hp : Pick (lsA b o xs) l m) (hb : xs.length ≤ 100000) (i : ID) :
    Con Try.prog 47 #[.pointer (some ⟨b, o, none⟩), .agg (encI i).toArray] E l (fun _ : Unit => .bool (decide (i ∈ xs))) (fun _ => lsA b o (ldrop xs i) :: m) := by
  refine Con.body (vs := [.pointer (some ⟨b, o, none⟩), .agg (encI i).toArray]) (n := 26) Try.func47 rfl rfl [(0, .pointer (some ⟨b, o, none⟩)), (1, .agg (encI i).toArray)] (env_ok 2 rfl) ?_
  refine J_pick hp ?_
  refine J_lsO fun v ob ps hw => ?_
  refine J_seq ?_
  refine J_region ?_
  refine L_op (x_box rfl rfl rfl fun b3 => ?_)
  refine L_pur rfl (p_assign rfl) ?_
  refine L_nil ?_
  refine Q_then ?_
  refine J_seq ?_
  refine J_seq ?_
  refine J_drawS mixed (by kernel_rfl) ?_
  refine S_val rfl (Pur.vl (p_move rfl)) ?_
  refine S_val rfl (Pur.vl (p_nilCheck rfl)) ?_
  refine S_val rfl (Pur.vl (p_fieldAddr rfl fa83_1)) ?_
  refine S_val rfl (v_loadL rfl ty81 HS rfl (by exact rfl)) ?_
  refine S_val rfl (v_loadA rfl ty36 HS CT) ?_
  refine S_val rfl (v_look (ek := kI) (ev := evB) (a := i) rfl rfl ky36 Try.underlying81 zv4 HS) ?_
  refine J_slot (t := 10) (v := .bool (decide (i ∈ xs))) rfl (hw.says i) ?_
  refine S_val rfl (Pur.vl (p_not rfl)) ?_
  refine S_nil ?_
  refine Q_then ?_
  refine C_split rfl (fun h11 => ?_) (fun h11 => ?_)
  ·
    have hi : i ∉ xs := by simpa using h11
    refine J_seq ?_
    refine J_region ?_
    refine L_pur rfl (p_assign rfl) ?_
    refine L_nil ?_
    refine Q_then ?_
    refine J_ret ?_
    refine Q_then_ret ?_
    refine J_lsS (b := b) (o := o) (xs := xs) _ _ _ PX (hw) ?_
    refine J_asTo (B := lsA b o (ldrop xs i)) (by rw [ldrop_no hi]) ?_
    refine J_return (()) Try.results47 (.tmp rfl .nil) ?_ ?_
    · simp [one, hi]
    · exact SU
  ·
    have hi : i ∈ xs := by simpa using h11
    refine J_skip ?_
    refine Q_then ?_
    refine J_seq ?_
    refine J_drawT 5 mixed (by kernel_rfl) ?_
    refine S_val rfl (Pur.vl (p_move rfl)) ?_
    refine S_val rfl (Pur.vl (p_nilCheck rfl)) ?_
    refine S_val rfl (Pur.vl (p_fieldAddr rfl fa83_1)) ?_
    refine S_val rfl (v_loadL rfl ty81 HS rfl (by exact rfl)) ?_
    refine S_val rfl (v_loadA rfl ty36 HS CT) ?_
    refine S_nil ?_
    refine L_op (x_delete (ek := kI) (ev := evB) (a := i) rfl rfl ky36 Try.underlying81 PC ?_)
    refine L_nil ?_
    refine Q_then ?_
    refine J_seq ?_
    refine J_region ?_
    refine L_pur rfl (p_move rfl) ?_
    refine L_pur rfl (p_move rfl) ?_
    refine L_pur rfl (p_nilCheck rfl) ?_
    refine L_pur rfl (p_fieldAddr rfl fa83_0) ?_
    refine L_val rfl (v_loadL rfl ty80 HS rfl (by exact rfl)) ?_
    refine L_pur rfl (p_makeFunc (.cons rfl .nil)) ?_
    refine L_op (x_call Try.func94 nm94 bd94 (.cons rfl (.cons rfl .nil)) rfl (deletefunc94 (xs := xs) (enc := encI) (q := isI i) (C := blk b3 36 (encI i)) Try.func95 nm95 bd95 (fun l' c hc => clo95 hc) PC HS encI_one encI_len) fun v23 => ?_)
    refine J_row .here fun hw23 a23 c23 hv23 hl23 hm23 hz23 => ?_
    subst hv23
    refine L_pur rfl (p_nilCheck rfl) ?_
    refine L_pur rfl (p_fieldAddr rfl fa83_0) ?_
    refine L_op (x_storeL rfl rfl ty80 rfl (by first | rfl | (simp [*]; done)) (by first | rfl | (simp [*]; done)) rfl RO rfl PT ?_)
    refine L_nil ?_
    refine Q_then ?_
    refine J_seq ?_
    refine J_region ?_
    refine L_pur rfl (p_assign rfl) ?_
    refine L_nil ?_
    refine Q_then ?_
    refine J_ret ?_
    refine J_lsS (b := b) (o := o) (xs := xs.filter fun c => !isI i c) _ _ _ PX (hw.drop i) ?_
    refine J_return (()) Try.results47 (.tmp rfl .nil) ?_ ?_
    · simp [one, hi]
    · exact SU

set_option maxRecDepth 100000 in
set_option maxHeartbeats 4000000 in
theorem lPop {E : World} {l m : List As}{b o : Nat} {xs : List ID} (hp : Pick (lsA b o xs) l m) (hb : xs.length ≤ 100000) :
  Con Try.prog 48 #[.pointer (some ⟨b, o, none⟩)] E l (fun _ : Unit => .tuple #[.agg (encI (xs.headD (0, 0))).toArray, .bool (!xs.isEmpty)]) (fun _ => lsA b o xs.tail :: m) := by
 rcases xs with _ | ⟨x, r⟩
 ·
  refine Con.body (vs := [.pointer (some ⟨b, o, none⟩)]) (n := 22) Try.func48 rfl rfl [(0, .pointer (some ⟨b, o, none⟩))] (env_ok 1 rfl) ?_
  refine J_pick hp ?_
  refine J_lsO fun v ob ps hw => ?_
  refine J_row (.there .here) fun hwf a cap hv h1 h2 h3 => ?_
  subst hv
  refine J_seq ?_
  refine J_region ?_
  refine L_op (x_alloc ty36 rfl fun b2 => ?_)
  refine L_pur rfl (p_assign rfl) ?_
  refine L_nil ?_
  refine Q_then ?_
  refine J_seq ?_
  refine J_seq ?_
  refine J_region ?_
  refine L_pur rfl (p_move rfl) ?_
  refine L_pur rfl (p_nilCheck rfl) ?_
  refine L_pur rfl (p_fieldAddr rfl fa83_0) ?_
  refine L_val rfl (v_loadL rfl ty80 HS rfl (by exact rfl)) ?_
  refine L_pur rfl (p_len rfl Try.underlying80) ?_
  refine L_pur rfl (p_eql rfl rfl) ?_
  refine L_nil ?_
  refine Q_then ?_
  refine J_bool (t := 10) (c := true) rfl (by simp) ?_
  refine C_true rfl ?_
  refine J_seq ?_
  refine J_region ?_
  refine L_pur rfl (bld36 .nil (by repeat constructor)) ?_
  refine L_op (x_store rfl rfl ty36 rfl (by first | rfl | (simp [*]; done)) (by first | rfl | (simp [*]; done)) RO PT ?_)
  refine L_pur rfl (p_assign rfl) ?_
  refine L_nil ?_
  refine Q_then ?_
  refine J_ret ?_
  refine Q_then_ret ?_
  refine J_lsS (b := b) (o := o) (xs := []) _ _ _ PX (hw) ?_
  exact J_return (()) Try.results48 (.cellA rfl ty36 HS CT (.tmp rfl .nil)) rfl SU
 ·
  refine Con.body (vs := [.pointer (some ⟨b, o, none⟩)]) (n := 22) Try.func48 rfl rfl [(0, .pointer (some ⟨b, o, none⟩))] (env_ok 1 rfl) ?_
  refine J_pick hp ?_
  refine J_lsO fun v ob ps hw => ?_
  have hnd := hw.1
  refine J_row (.there .here) fun hwf a cap hv h1 h2 h3 => ?_
  obtain ⟨bi, oi, rfl⟩ := h3 (by simp)
  subst hv
  refine J_seq ?_
  refine J_region ?_
  refine L_op (x_alloc ty36 rfl fun b2 => ?_)
  refine L_pur rfl (p_assign rfl) ?_
  refine L_nil ?_
  refine Q_then ?_
  refine J_seq ?_
  refine J_seq ?_
  refine J_region ?_
  refine L_pur rfl (p_move rfl) ?_
  refine L_pur rfl (p_nilCheck rfl) ?_
  refine L_pur rfl (p_fieldAddr rfl fa83_0) ?_
  refine L_val rfl (v_loadL rfl ty80 HS rfl (by exact rfl)) ?_
  refine L_pur rfl (p_len rfl Try.underlying80) ?_
  refine L_pur rfl (p_eql rfl rfl) ?_
  refine L_nil ?_
  refine Q_then ?_
  refine J_bool (t := 10) (c := false) rfl (by simp; omega) ?_
  refine C_false rfl ?_
  refine J_skip ?_
  refine Q_then ?_
  refine J_seq ?_
  refine J_region ?_
  refine L_pur rfl (p_move rfl) ?_
  refine L_pur rfl (p_nilCheck rfl) ?_
  refine L_pur rfl (p_fieldAddr rfl fa83_0) ?_
  refine L_val rfl (v_loadL rfl ty80 HS rfl (by exact rfl)) ?_
  refine L_pur rfl (p_indexAddr rfl rfl Try.underlying80 ty36 (by omega) (by simp)) ?_
  refine L_val rfl (v_loadE rfl ty36 HS (by rfl)) ?_
  refine L_op (x_alloc ty36 rfl fun b4 => ?_)
  refine L_op (x_store rfl rfl ty36 rfl (by first | rfl | (simp [*]; done)) (by first | rfl | (simp [*]; done)) RO PT ?_)
  refine L_nil ?_
  refine Q_then ?_
  refine J_seq ?_
  refine J_region ?_
  refine J_lsS (b := b) (o := o) (xs := x :: r) _ _ _ PX (hw) ?_
  refine L_pur rfl (p_move rfl) ?_
  refine L_val rfl (v_loadA rfl ty36 HS CT) ?_
  refine L_op (x_call Try.func47 nm47 bd47 (.cons rfl (.cons rfl .nil)) rfl (lDrop (i := x) PC (by omega)) fun _ => ?_)
  refine J_asTo (B := lsA b o r) (by rw [ldrop_head hnd]) ?_
  refine L_nil ?_
  refine Q_then ?_
  refine J_seq ?_
  refine J_region ?_
  refine L_val rfl (v_loadA rfl ty36 HS CT) ?_
  refine L_op (x_store rfl rfl ty36 rfl (by first | rfl | (simp [*]; done)) (by first | rfl | (simp [*]; done)) RO PT ?_)
  refine L_pur rfl (p_assign rfl) ?_
  refine L_nil ?_
  refine Q_then ?_
  refine J_ret ?_
  exact J_return (()) Try.results48 (.cellA rfl ty36 HS CT (.tmp rfl .nil)) rfl SU

end Go.Pse
