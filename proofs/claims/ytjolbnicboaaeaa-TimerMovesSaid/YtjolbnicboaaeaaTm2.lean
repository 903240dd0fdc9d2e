/-
  The heap of deadlines, the program's and the document's: contracts of their methods.
-/
import Derived.Test.YtjolbnicboaaeaaTm1
namespace Go.Pse
open Go.RowKit Go.Proofs

def hpP (_b _o : Nat) (xs : List Tm) (_v : Value) : Prop := Srt xs
def hpL (b o : Nat) (xs : List Tm) (v : Value) : List As := [fld b o [v], row 175 3 v (xs.map encT)]
def hpA (b o : Nat) (xs : List Tm) : As := As.ex fun g : (Value) => As.all (As.pure (hpP b o xs g) :: hpL b o xs g)
theorem J_hpO {E : World} {l : List As} {n : Nat} {F : Env} {K : Act → World → Prop} {b o : Nat} {xs : List Tm} (k : ∀ v, hpP b o xs v → Jk E (fld b o [v] :: row 175 3 v (xs.map encT) :: l) n F K) : Jk E (hpA b o xs :: l) n F K := J_unfold (f := fun g : (Value) => As.all (As.pure (hpP b o xs g) :: hpL b o xs g)) (fun _ => rfl) (fun g h => k g h)
theorem J_hpS {E : World} {l m : List As} {n : Nat} {F : Env} {K : Act → World → Prop} {b o : Nat} {xs : List Tm} (v : Value) (hs : Picks [fld b o [v], row 175 3 v (xs.map encT)] l m) (h : hpP b o xs v) (k : Jk E (hpA b o xs :: m) n F K) : Jk E l n F K := J_fold (f := fun g : (Value) => As.all (As.pure (hpP b o xs g) :: hpL b o xs g)) (v) rfl hs h k

def hrP (_b _o : Nat) (xs : List Tm) (_v : Value) : Prop := Srt xs
def hrL (b o : Nat) (xs : List Tm) (v : Value) : List As := [fld b o [v], row 184 3 v (xs.map encT)]
def hrA (b o : Nat) (xs : List Tm) : As := As.ex fun g : (Value) => As.all (As.pure (hrP b o xs g) :: hrL b o xs g)
theorem J_hrO {E : World} {l : List As} {n : Nat} {F : Env} {K : Act → World → Prop} {b o : Nat} {xs : List Tm} (k : ∀ v, hrP b o xs v → Jk E (fld b o [v] :: row 184 3 v (xs.map encT) :: l) n F K) : Jk E (hrA b o xs :: l) n F K := J_unfold (f := fun g : (Value) => As.all (As.pure (hrP b o xs g) :: hrL b o xs g)) (fun _ => rfl) (fun g h => k g h)
theorem J_hrS {E : World} {l m : List As} {n : Nat} {F : Env} {K : Act → World → Prop} {b o : Nat} {xs : List Tm} (v : Value) (hs : Picks [fld b o [v], row 184 3 v (xs.map encT)] l m) (h : hrP b o xs v) (k : Jk E (hrA b o xs :: m) n F K) : Jk E l n F K := J_fold (f := fun g : (Value) => As.all (As.pure (hrP b o xs g) :: hrL b o xs g)) (v) rfl hs h k

set_option maxRecDepth 100000 in
set_option maxHeartbeats 4000000 in
theorem indexfunc120 {E : World} {l : List As} {v : Value} {α : Type} {enc : α → List Value} {xs : List α} {g : FuncId} {caps : Array Value} {fn : Func} (hf : Try.prog.funcs[g]? = some fn) (hn : (fn.name == "runtime.NumGoroutine") = false) (hb : fn.body.isNone = false) {q : α → Bool} {C : As} (hg : ∀ (l' : List As) (c : α), Has C l' → Con Try.prog g (#[.agg (enc c).toArray] ++ caps) E l' (fun _ : Unit => .bool (q c)) (fun _ => l')) (hv : Has (row 175 3 v (xs.map enc)) l) (hc : Has C l) :
    Con Try.prog 120 #[v, .func (.func g) #[] caps] E l (fun _ : Unit => .int .i64 (idx q xs)) (fun _ => l) := by
  refine Con.body (vs := [v, .func (.func g) #[] caps]) (n := 19) Try.func120 rfl rfl [(0, v), (1, .func (.func g) #[] caps)] (env_ok 2 rfl) ?_
  refine J_row hv fun hw a cap hv h1 h2 h3 => ?_
  subst hv
  have hm : cap ≤ 9223372036854775807 := h2
  have hml : (xs.map enc).length = xs.length := List.length_map _
  refine J_seq ?_
  refine J_region ?_
  refine L_pur rfl (p_assign rfl) ?_
  refine L_nil ?_
  refine Q_then ?_
  refine J_seq ?_
  refine J_seq ?_
  refine J_region ?_
  refine L_pur rfl (p_move rfl) ?_
  refine L_pur rfl (p_len rfl Try.underlying132) ?_
  refine L_pur rfl (p_move rfl) ?_
  refine L_nil ?_
  refine Q_then ?_
  refine J_block ?_
  refine J_loop (α := Nat) (fun i => i ≤ xs.length ∧ ∀ c ∈ xs.take i, q c = false) (fun _ => l) (fun i => [(8, .int .i64 (i : Int)), (7, .int .i64 (xs.map enc).length), (0, .slice a (xs.map enc).length cap), (1, .func (.func g) #[] caps)]) (fun i => xs.length - i) 0 ⟨by omega, by simp⟩ SU KE ?_
  intro i ⟨hi, hq⟩
  refine J_seq ?_
  refine J_region ?_
  refine L_pur rfl (p_lss rfl rfl) ?_
  refine L_nil ?_
  refine Q_then ?_
  refine J_seq ?_
  refine C_dec rfl (fun h9 => ?_) (fun h9 => ?_)
  ·
    have hlt : i < xs.length := by omega
    obtain ⟨b, o, rfl⟩ := h3 (by intro h; rw [h] at hml; simp at hml; omega)
    obtain ⟨c, hcc⟩ : ∃ c, xs[i]? = some c := ⟨_, List.getElem?_eq_getElem hlt⟩
    refine J_skip ?_
    refine Q_then ?_
    refine J_seq ?_
    refine J_block ?_
    refine J_seq ?_
    refine J_region ?_
    refine L_pur rfl (p_move rfl) ?_
    refine L_pur rfl (p_assign rfl) ?_
    refine L_nil ?_
    refine Q_then ?_
    refine J_seq ?_
    refine J_region ?_
    refine L_pur rfl (p_move rfl) ?_
    refine L_pur rfl (p_move rfl) ?_
    refine L_pur rfl (p_move rfl) ?_
    refine L_pur rfl (p_indexAddr rfl rfl Try.underlying132 ty175 (by omega) (by omega)) ?_
    refine L_val rfl (v_loadE rfl ty175 HS (by simp only [Int.toNat_natCast, List.getElem?_map, hcc]; rfl)) ?_
    refine L_op (x_callc rfl hf hn hb (.cons rfl .nil) rfl (hg _ c hc) fun _ => ?_)
    refine L_nil ?_
    refine Q_then ?_
    refine C_split rfl (fun h16 => ?_) (fun h16 => ?_)
    ·
      have hidx := idx_here hq hcc h16
      refine J_seq ?_
      refine J_region ?_
      refine L_pur rfl (p_move rfl) ?_
      refine L_pur rfl (p_assign rfl) ?_
      refine L_nil ?_
      refine Q_then ?_
      refine J_ret ?_
      refine Q_blk_ret ?_
      refine Q_then_ret ?_
      refine Q_then_ret ?_
      refine Q_blk_ret ?_
      refine Q_then_ret ?_
      refine J_return (()) Try.results120 (.tmp rfl .nil) ?_ ?_
      · simp [one, hidx]
      · exact SU
    ·
      refine J_skip ?_
      refine Q_blk_normal ?_
      refine Q_then ?_
      refine J_region ?_
      refine L_pur rfl (p_add64 rfl rfl (by omega)) ?_
      refine L_pur rfl (p_move rfl) ?_
      refine L_nil ?_
      refine Q_then ?_
      exact J_again (i + 1) (by omega) (⟨by omega, take_false_succ hq hcc h16⟩) SU KE
  ·
    have hix : i = xs.length := by omega
    rw [hix, List.take_length] at hq
    have hidx := idx_none hq
    refine J_exit ?_
    refine Q_then_exit ?_
    refine Q_then_exit ?_
    refine Q_blk_this ?_
    refine Q_then ?_
    refine J_seq ?_
    refine J_region ?_
    refine L_pur rfl (p_assign rfl) ?_
    refine L_nil ?_
    refine Q_then ?_
    refine J_ret ?_
    refine J_return (()) Try.results120 (.tmp rfl .nil) ?_ ?_
    · simp [one, hidx]
    · exact SU

set_option maxRecDepth 100000 in
set_option maxHeartbeats 4000000 in
theorem deletefunc106 {E : World} {l m : List As} {v : Value} {α : Type} {enc : α → List Value} {xs : List α} {g : FuncId} {caps : Array Value} {fn : Func} (hf : Try.prog.funcs[g]? = some fn) (hn : (fn.name == "runtime.NumGoroutine") = false) (hb : fn.body.isNone = false) {q : α → Bool} {C : As} (hg : ∀ (l' : List As) (c : α), Has C l' → Con Try.prog g (#[.agg (enc c).toArray] ++ caps) E l' (fun _ : Unit => .bool (q c)) (fun _ => l')) (hv : Pick (row 175 3 v (xs.map enc)) l m) (hc : Has C m) (hone : ∀ c, ones (enc c) = true) (hlen : ∀ c, (enc c).length = 3) :
  Con Try.prog 106 #[v, .func (.func g) #[] caps] E l (fun v' : Value => v') (fun v' => row 175 3 v' ((xs.filter fun c => !q c).map enc) :: m) := by
 rcases idx_cases q xs with ⟨hi0, hall⟩ | ⟨i0, hi0, hlt0, hpre, c0, hc0, hq0⟩
 ·
  refine Con.body (vs := [v, .func (.func g) #[] caps]) (n := 42) Try.func106 rfl rfl [(0, v), (1, .func (.func g) #[] caps)] (env_ok 2 rfl) ?_
  refine J_pick hv ?_
  refine J_seq ?_
  refine J_region ?_
  refine L_pur rfl (p_assign rfl) ?_
  refine L_nil ?_
  refine Q_then ?_
  refine J_seq ?_
  refine J_region ?_
  refine L_pur rfl (p_move rfl) ?_
  refine L_pur rfl (p_move rfl) ?_
  refine L_op (x_call Try.func120 nm120 bd120 (.cons rfl (.cons rfl .nil)) rfl (indexfunc120 hf hn hb hg .here (.there hc)) fun _ => ?_)
  refine L_pur rfl (p_assign rfl) ?_
  refine L_nil ?_
  refine Q_then ?_
  refine J_seq ?_
  refine J_seq ?_
  refine J_region ?_
  refine L_pur rfl (p_move rfl) ?_
  refine L_pur rfl (p_eql rfl rfl) ?_
  refine L_nil ?_
  refine Q_then ?_
  refine J_bool (t := 12) (c := true) rfl (by simp [hi0]) ?_
  refine C_true rfl ?_
  refine J_seq ?_
  refine J_region ?_
  refine J_rowEq (ys := (xs.filter fun c => !q c).map enc) (by rw [List.filter_eq_self.2 (fun c hc => by simp [hall c hc])]) ?_
  refine L_pur rfl (p_move rfl) ?_
  refine L_pur rfl (p_assign rfl) ?_
  refine L_nil ?_
  refine Q_then ?_
  refine J_ret ?_
  refine Q_then_ret ?_
  exact J_return (_) Try.results106 (.tmp rfl .nil) rfl SU
 ·
  refine Con.body (vs := [v, .func (.func g) #[] caps]) (n := 42) Try.func106 rfl rfl [(0, v), (1, .func (.func g) #[] caps)] (env_ok 2 rfl) ?_
  refine J_pick hv ?_
  refine J_row .here fun hw a cap hv h1 h2 h3 => ?_
  obtain ⟨b, o, rfl⟩ := h3 (by intro h; have := congrArg List.length h; simp at this; subst this; simp at hlt0)
  subst hv
  have hm : cap ≤ 9223372036854775807 := h2
  have hml : (xs.map enc).length = xs.length := List.length_map _
  have hk0 : kept q xs (i0 + 1) = xs.take i0 := kept_first hpre hc0 hq0
  have hl0 : (xs.take i0).length = i0 := by simp; omega
  refine J_seq ?_
  refine J_region ?_
  refine L_pur rfl (p_assign rfl) ?_
  refine L_nil ?_
  refine Q_then ?_
  refine J_seq ?_
  refine J_region ?_
  refine L_pur rfl (p_move rfl) ?_
  refine L_pur rfl (p_move rfl) ?_
  refine L_op (x_call Try.func120 nm120 bd120 (.cons rfl (.cons rfl .nil)) rfl (indexfunc120 hf hn hb hg .here (.there hc)) fun _ => ?_)
  refine J_slot (t := 10) (v := .int .i64 (i0 : Int)) rfl (by rw [hi0]) ?_
  refine L_pur rfl (p_assign rfl) ?_
  refine L_nil ?_
  refine Q_then ?_
  refine J_seq ?_
  refine J_seq ?_
  refine J_region ?_
  refine L_pur rfl (p_move rfl) ?_
  refine L_pur rfl (p_eql rfl rfl) ?_
  refine L_nil ?_
  refine Q_then ?_
  refine J_bool (t := 12) (c := false) rfl (by simp) ?_
  refine C_false rfl ?_
  refine J_skip ?_
  refine Q_then ?_
  refine J_seq ?_
  refine J_seq ?_
  refine J_region ?_
  refine L_pur rfl (p_move rfl) ?_
  refine L_pur rfl (p_add64 rfl rfl (by omega)) ?_
  refine L_pur rfl (p_assign rfl) ?_
  refine L_nil ?_
  refine Q_then ?_
  refine J_block ?_
  refine J_rowEq (ys := (kept q xs (i0 + 1) ++ xs.drop (kept q xs (i0 + 1)).length).map enc) (by rw [hk0, hl0, List.take_append_drop]) ?_
  refine J_slot (t := 5) (v := .int .i64 ((kept q xs (i0 + 1)).length : Int)) rfl (by rw [hk0, hl0]) ?_
  refine J_loop (α := Nat) (fun j => j ≤ xs.length) (fun j => row 175 3 (.slice (some ⟨b, o, none⟩) (xs.map enc).length cap) ((kept q xs j ++ xs.drop (kept q xs j).length).map enc) :: m) (fun j => [(6, .int .i64 (j : Int)), (5, .int .i64 ((kept q xs j).length : Int)), (0, .slice (some ⟨b, o, none⟩) (xs.map enc).length cap), (1, .func (.func g) #[] caps)]) (fun j => xs.length - j) (i0 + 1) (by omega) SU KE ?_
  intro j hj
  have hkl := kept_le q xs j
  refine J_seq ?_
  refine J_seq ?_
  refine J_region ?_
  refine L_pur rfl (p_move rfl) ?_
  refine L_pur rfl (p_move rfl) ?_
  refine L_pur rfl (p_len rfl Try.underlying132) ?_
  refine L_pur rfl (p_lss rfl rfl) ?_
  refine L_nil ?_
  refine Q_then ?_
  refine C_dec rfl (fun h19 => ?_) (fun h19 => ?_)
  ·
   have hlt : j < xs.length := by omega
   obtain ⟨c, hcc⟩ : ∃ c, xs[j]? = some c := ⟨_, List.getElem?_eq_getElem hlt⟩
   refine J_skip ?_
   refine Q_then ?_
   refine J_seq ?_
   refine J_block ?_
   refine J_seq ?_
   refine J_region ?_
   refine L_pur rfl (p_move rfl) ?_
   refine L_pur rfl (p_move rfl) ?_
   refine L_pur rfl (p_indexAddr rfl rfl Try.underlying132 ty175 (by omega) (by omega)) ?_
   refine L_val rfl (v_loadE rfl ty175 HS (by simp only [Int.toNat_natCast, List.getElem?_map, kept_get, hcc]; rfl)) ?_
   refine L_op (x_alloc ty175 rfl fun b7 => ?_)
   refine L_op (x_store rfl rfl ty175 rfl (by first | rfl | (simp [*]; done)) (by first | rfl | (simp [*]; done)) RO PT ?_)
   refine L_nil ?_
   refine Q_then ?_
   refine J_seq ?_
   refine J_region ?_
   refine L_pur rfl (p_move rfl) ?_
   refine L_val rfl (v_loadA rfl ty175 HS CT) ?_
   refine L_op (x_callc rfl hf hn hb (.cons rfl .nil) rfl (hg _ c (.there (.there hc))) fun _ => ?_)
   refine L_pur rfl (p_not rfl) ?_
   refine L_nil ?_
   refine Q_then ?_
   refine C_split rfl (fun h29 => ?_) (fun h29 => ?_)
   ·
    have hqc : q c = false := by simpa using h29
    have hks := kept_set hcc hqc
    have hkl1 : (kept q xs (j + 1)).length = (kept q xs j).length + 1 := by rw [kept_succ hcc, hqc]; simp
    refine J_seq ?_
    refine J_region ?_
    refine L_pur rfl (p_move rfl) ?_
    refine L_pur rfl (p_move rfl) ?_
    refine L_val rfl (v_loadA rfl ty175 HS CT) ?_
    refine L_pur rfl (p_indexAddr rfl rfl Try.underlying132 ty175 (by omega) (by omega)) ?_
    refine L_op (x_storeE (vs := enc c) rfl rfl ty175 rfl (hlen c) (hone c) PC (by first | omega | (simp <;> omega)) ?_)
    refine J_rowEq (ys := (kept q xs (j + 1) ++ xs.drop (kept q xs (j + 1)).length).map enc) (by rw [← hks, List.map_set]; simp) ?_
    refine L_nil ?_
    refine Q_then ?_
    refine J_region ?_
    refine L_pur rfl (p_move rfl) ?_
    refine L_pur rfl (p_add64 rfl rfl (by omega)) ?_
    refine L_pur rfl (p_assign rfl) ?_
    refine L_nil ?_
    refine Q_blk_normal ?_
    refine Q_then ?_
    refine J_region ?_
    refine L_pur rfl (p_move rfl) ?_
    refine L_pur rfl (p_add64 rfl rfl (by omega)) ?_
    refine L_pur rfl (p_assign rfl) ?_
    refine L_nil ?_
    refine Q_then ?_
    refine J_slot (t := 5) (v := .int .i64 ((kept q xs (j + 1)).length : Int)) rfl (by rw [hkl1]; rfl) ?_
    exact J_again (j + 1) (by omega) (by omega) SU KE
   ·
    have hqc : q c = true := by simpa using h29
    have hks : kept q xs (j + 1) = kept q xs j := by rw [kept_succ hcc, hqc]; simp
    refine J_skip ?_
    refine Q_blk_normal ?_
    refine Q_then ?_
    refine J_region ?_
    refine L_pur rfl (p_move rfl) ?_
    refine L_pur rfl (p_add64 rfl rfl (by omega)) ?_
    refine L_pur rfl (p_assign rfl) ?_
    refine L_nil ?_
    refine Q_then ?_
    refine J_slot (t := 5) (v := .int .i64 ((kept q xs (j + 1)).length : Int)) rfl (by rw [hks]) ?_
    refine J_pick (A := row 175 3 (.slice (some ⟨b, o, none⟩) (xs.map enc).length cap) ((kept q xs j ++ xs.drop (kept q xs j).length).map enc)) PC ?_
    refine J_rowEq (ys := (kept q xs (j + 1) ++ xs.drop (kept q xs (j + 1)).length).map enc) (by rw [hks]) ?_
    exact J_again (j + 1) (by omega) (by omega) SU KE
  ·
   have hjx : j = xs.length := by omega
   have hka : kept q xs j = xs.filter fun c => !q c := kept_all (by omega)
   refine J_exit ?_
   refine Q_then_exit ?_
   refine Q_then_exit ?_
   refine Q_blk_this ?_
   refine Q_then ?_
   refine J_seq ?_
   refine J_region ?_
   refine L_pur rfl (p_move rfl) ?_
   refine L_pur rfl (p_move rfl) ?_
   refine L_pur rfl (p_slice rfl Try.underlying132 ty175 rfl rfl (by omega) (by omega) (by omega)) ?_
   refine L_op (x_clear (len := (xs.map enc).length) rfl Try.underlying132 ty175 rfl rfl PC (by first | omega | (simp <;> omega)) ?_)
   refine L_nil ?_
   refine Q_then ?_
   refine J_seq ?_
   refine J_region ?_
   refine L_pur rfl (p_move rfl) ?_
   refine L_pur rfl (p_move rfl) ?_
   refine L_pur rfl (p_slice rfl Try.underlying132 ty175 rfl rfl (by omega) (by omega) (by omega)) ?_
   refine J_take (k := (kept q xs j).length) (by first | omega | (simp <;> omega)) ?_
   refine J_rowTo (v' := .slice (some ⟨b, o, none⟩) (kept q xs j).length cap) (ys := (xs.filter fun c => !q c).map enc) (by simp [hka]) rfl ?_
   refine J_slot (t := 41) (v := .slice (some ⟨b, o, none⟩) (kept q xs j).length cap) rfl (by simp [Addr.add]) ?_
   refine L_pur rfl (p_assign rfl) ?_
   refine L_nil ?_
   refine Q_then ?_
   refine J_ret ?_
   exact J_return (_) Try.results106 (.tmp rfl .nil) rfl SU

set_option maxRecDepth 100000 in
set_option maxHeartbeats 4000000 in
theorem delete108 {E : World} {l m : List As} {v : Value} {c : List Value} {xs : List (List Value)} (hp : Pick (row 175 3 v (c :: xs)) l m) :
  Con Try.prog 108 #[v, .int .i64 0, .int .i64 1] E l (fun v' : Value => v') (fun v' => row 175 3 v' xs :: m) := by
 refine Con.body (vs := [v, .int .i64 0, .int .i64 1]) (n := 33) Try.func108 rfl rfl [(0, v), (1, .int .i64 0), (2, .int .i64 1)] (env_ok 3 rfl) ?_
 refine J_pick hp ?_
 refine J_row .here fun hw a cap hv h1 h2 h3 => ?_
 obtain ⟨b, o, rfl⟩ := h3 (by simp)
 subst hv
 have hl : (c :: xs).length = xs.length + 1 := rfl
 have hm : cap ≤ 9223372036854775807 := h2
 refine J_seq ?_
 refine J_region ?_
 refine L_pur rfl (p_assign rfl) ?_
 refine L_nil ?_
 refine Q_then ?_
 refine J_seq ?_
 refine J_region ?_
 refine L_pur rfl (p_move rfl) ?_
 refine L_pur rfl (p_move rfl) ?_
 refine L_pur rfl (p_move rfl) ?_
 refine L_pur rfl (p_move rfl) ?_
 refine L_pur rfl (p_len rfl Try.underlying132) ?_
 refine L_pur rfl (p_slice3 rfl Try.underlying132 ty175 rfl rfl rfl (by omega) (by omega) (by omega) (by omega)) ?_
 refine L_nil ?_
 refine Q_then ?_
 refine J_seq ?_
 refine J_seq ?_
 refine J_region ?_
 refine L_pur rfl (p_move rfl) ?_
 refine L_pur rfl (p_move rfl) ?_
 refine L_pur rfl (p_eql rfl rfl) ?_
 refine L_nil ?_
 refine Q_then ?_
 refine J_bool (t := 16) (c := false) rfl (by decide) ?_
 refine C_false rfl ?_
 refine J_skip ?_
 refine Q_then ?_
 refine J_seq ?_
 refine J_region ?_
 refine L_pur rfl (p_move rfl) ?_
 refine L_pur rfl (p_len rfl Try.underlying132) ?_
 refine L_pur rfl (p_assign rfl) ?_
 refine L_nil ?_
 refine Q_then ?_
 refine J_seq ?_
 refine J_drawT 6 mixed (by kernel_rfl) ?_
 refine S_val rfl (Pur.vl (p_move rfl)) ?_
 refine S_val rfl (Pur.vl (p_move rfl)) ?_
 refine S_val rfl (Pur.vl (p_slice rfl Try.underlying132 ty175 rfl rfl (by omega) (by omega) (by omega))) ?_
 refine J_slot (t := 22) (v := .slice (some ⟨b, o, none⟩) 0 cap) rfl (by simp [Addr.add]) ?_
 refine S_val rfl (Pur.vl (p_move rfl)) ?_
 refine S_val rfl (Pur.vl (p_move rfl)) ?_
 refine S_val rfl (Pur.vl (p_slice rfl Try.underlying132 ty175 rfl rfl (by omega) (by omega) (by omega))) ?_
 refine S_nil ?_
 refine L_op (x_appIn (ys := xs) (len := (c :: xs).length) rfl rfl Try.underlying132 ty175 PC (fun w H => (sep_reads HS H).drop (lo := 1) (by omega)) (by omega) rfl ?_)
 refine L_pur rfl (p_assign rfl) ?_
 refine L_nil ?_
 refine Q_then ?_
 refine J_seq ?_
 refine J_region ?_
 refine L_pur rfl (p_move rfl) ?_
 refine L_pur rfl (p_move rfl) ?_
 refine L_pur rfl (p_len rfl Try.underlying132) ?_
 refine L_pur rfl (p_move rfl) ?_
 refine L_pur rfl (p_slice rfl Try.underlying132 ty175 rfl rfl (by omega) (by omega) (by omega)) ?_
 refine L_op (x_clear (len := (c :: xs).length) rfl Try.underlying132 ty175 rfl rfl PC (by simp) ?_)
 refine J_take (k := 0 + xs.length) (by simp) ?_
 refine J_rowEq (ys := xs) (by simp) ?_
 refine L_nil ?_
 refine Q_then ?_
 refine J_seq ?_
 refine J_region ?_
 refine L_pur rfl (p_move rfl) ?_
 refine L_pur rfl (p_assign rfl) ?_
 refine L_nil ?_
 refine Q_then ?_
 refine J_ret ?_
 exact J_return (_) Try.results108 (.tmp rfl .nil) rfl SU

set_option maxRecDepth 100000 in
set_option maxHeartbeats 4000000 in
theorem clo107 {E : World} {l : List As} {bc : Nat} {i : ID} {c : Tm} (hc : Has (blk bc 36 (encI i)) l) :
  Con Try.prog 107 #[.agg (encT c).toArray, .pointer (some ⟨bc, 0, none⟩)] E l (fun _ : Unit => .bool (isT i c)) (fun _ => l) := by
 refine Con.body (vs := [.agg (encT c).toArray, .pointer (some ⟨bc, 0, none⟩)]) (n := 8) Try.func107 rfl rfl [(0, .agg (encT c).toArray), (1, .pointer (some ⟨bc, 0, none⟩))] (env_ok 2 rfl) ?_
 refine J_seq ?_
 refine J_region ?_
 refine L_op (x_box rfl rfl rfl fun b2 => ?_)
 refine L_pur rfl (p_assign rfl) ?_
 refine L_nil ?_
 refine Q_then ?_
 refine J_seq ?_
 refine J_region ?_
 refine L_pur rfl (p_fieldAddr rfl fa175_1) ?_
 refine L_val rfl (v_loadA rfl ty36 HS CT) ?_
 refine L_val rfl (v_loadA rfl ty36 HS CT) ?_
 refine L_pur rfl (p_eqv rfl rfl (fun w => eg36 _ _ _ _ _ w) (fun w => eqv36 _ _ _ _ w)) ?_
 refine L_pur rfl (p_assign rfl) ?_
 refine L_nil ?_
 refine Q_then ?_
 refine J_ret ?_
 exact J_return (()) Try.results107 (.tmp rfl .nil) rfl SU

set_option maxRecDepth 100000 in
set_option maxHeartbeats 4000000 in
theorem firstI {E : World} {l : List As} (a b : ID) :
    Con Try.prog 109 #[.agg (encI a).toArray, .agg (encI b).toArray] E l (fun _ : Unit => .bool (ltI a b)) (fun _ => l) := by
  refine Con.body (vs := [.agg (encI a).toArray, .agg (encI b).toArray]) (n := 24) Try.func109 rfl rfl [(0, .agg (encI a).toArray), (1, .agg (encI b).toArray)] (env_ok 2 rfl) ?_
  refine J_seq ?_
  refine J_region ?_
  refine L_op (x_box rfl rfl rfl fun b2 => ?_)
  refine L_op (x_box rfl rfl rfl fun b3 => ?_)
  refine L_pur rfl (p_assign rfl) ?_
  refine L_nil ?_
  refine Q_then ?_
  refine J_seq ?_
  refine J_region ?_
  refine L_pur rfl (p_fieldAddr rfl fa36_0) ?_
  refine L_val rfl (v_load rfl ty3 HS (by exact rfl)) ?_
  refine L_pur rfl (p_fieldAddr rfl fa36_0) ?_
  refine L_val rfl (v_load rfl ty3 HS (by exact rfl)) ?_
  refine L_pur rfl (p_lss rfl rfl) ?_
  refine L_pur rfl (p_move rfl) ?_
  refine J_gsplit (t := 10) rfl (fun h10 => ?_) (fun h10 => ?_)
  ·
    refine L_op (G_off rfl rfl rfl rfl rfl rfl ?_)
    refine L_op (G_off rfl rfl rfl rfl rfl rfl ?_)
    refine L_op (G_off rfl rfl rfl rfl rfl rfl ?_)
    refine L_op (G_off rfl rfl rfl rfl rfl rfl ?_)
    refine L_op (G_off rfl rfl rfl rfl rfl rfl ?_)
    refine L_op (G_off rfl rfl rfl rfl rfl rfl ?_)
    refine L_op (G_offU rfl rfl rfl rfl rfl ?_)
    refine L_op (G_offU rfl rfl rfl rfl rfl ?_)
    refine L_op (G_offU rfl rfl rfl rfl rfl ?_)
    refine L_op (G_offU rfl rfl rfl rfl rfl ?_)
    refine L_op (G_offU rfl rfl rfl rfl rfl ?_)
    refine L_op (G_off rfl rfl rfl rfl rfl rfl ?_)
    refine L_pur rfl (p_pick_t rfl rfl) ?_
    refine L_pur rfl (p_assign rfl) ?_
    refine L_nil ?_
    refine Q_then ?_
    refine J_ret ?_
    refine J_return (()) Try.results109 (.tmp rfl .nil) ?_ ?_
    · simp only [one, ltI]; simp at h10 ⊢; simp [h10]
    · exact SU
  ·
    refine L_op (G_on rfl rfl rfl ?_)
    refine J_pur (p_fieldAddr rfl fa36_0) rfl rfl rfl ?_
    refine L_op (G_on rfl rfl rfl ?_)
    refine J_val (v_load rfl ty3 HS (by exact rfl)) rfl rfl rfl ?_
    refine L_op (G_on rfl rfl rfl ?_)
    refine J_pur (p_fieldAddr rfl fa36_0) rfl rfl rfl ?_
    refine L_op (G_on rfl rfl rfl ?_)
    refine J_val (v_load rfl ty3 HS (by exact rfl)) rfl rfl rfl ?_
    refine L_op (G_on rfl rfl rfl ?_)
    refine J_pur (p_eql rfl rfl) rfl rfl rfl ?_
    refine L_op (G_on rfl rfl rfl ?_)
    refine J_pur (p_move rfl) rfl rfl rfl ?_
    refine J_gsplit (t := 16) rfl (fun h16 => ?_) (fun h16 => ?_)
    ·
      refine L_op (G_on rfl rfl rfl ?_)
      refine J_pur (p_fieldAddr rfl fa36_1) rfl rfl rfl ?_
      refine L_op (G_on rfl rfl rfl ?_)
      refine J_val (v_load rfl ty3 HS (by exact rfl)) rfl rfl rfl ?_
      refine L_op (G_on rfl rfl rfl ?_)
      refine J_pur (p_fieldAddr rfl fa36_1) rfl rfl rfl ?_
      refine L_op (G_on rfl rfl rfl ?_)
      refine J_val (v_load rfl ty3 HS (by exact rfl)) rfl rfl rfl ?_
      refine L_op (G_on rfl rfl rfl ?_)
      refine J_pur (p_lss rfl rfl) rfl rfl rfl ?_
      refine L_op (G_on rfl rfl rfl ?_)
      refine J_pur (p_pick_t rfl rfl) rfl rfl rfl ?_
      refine L_pur rfl (p_pick_f rfl rfl) ?_
      refine L_pur rfl (p_assign rfl) ?_
      refine L_nil ?_
      refine Q_then ?_
      refine J_ret ?_
      refine J_return (()) Try.results109 (.tmp rfl .nil) ?_ ?_
      · simp only [one, ltI]; simp at h10 h16 ⊢; first | (simp [h10, h16]; done) | omega | (constructor <;> omega)
      · exact SU
    ·
      refine L_op (G_off rfl rfl rfl rfl rfl rfl ?_)
      refine L_op (G_off rfl rfl rfl rfl rfl rfl ?_)
      refine L_op (G_off rfl rfl rfl rfl rfl rfl ?_)
      refine L_op (G_off rfl rfl rfl rfl rfl rfl ?_)
      refine L_op (G_off rfl rfl rfl rfl rfl rfl ?_)
      refine L_op (G_on rfl rfl rfl ?_)
      refine J_pur (p_pick_f rfl rfl) rfl rfl rfl ?_
      refine L_pur rfl (p_pick_f rfl rfl) ?_
      refine L_pur rfl (p_assign rfl) ?_
      refine L_nil ?_
      refine Q_then ?_
      refine J_ret ?_
      refine J_return (()) Try.results109 (.tmp rfl .nil) ?_ ?_
      · simp only [one, ltI]; simp at h10 h16 ⊢; first | (simp [h10, h16]; done) | omega | (constructor <;> omega)
      · exact SU

set_option maxRecDepth 100000 in
set_option maxHeartbeats 4000000 in
theorem hLen {E : World} {l m : List As}{b o : Nat} {xs : List Tm} (hp : Pick (hpA b o xs) l m) (_hb : xs.length ≤ 90000) :
    Con Try.prog 72 #[.pointer (some ⟨b, o, none⟩)] E l (fun _ : Unit => .int .i64 (xs.length : Int)) (fun _ => hpA b o xs :: m) := by
  refine Con.body (vs := [.pointer (some ⟨b, o, none⟩)]) (n := 8) Try.func72 rfl rfl [(0, .pointer (some ⟨b, o, none⟩))] (env_ok 1 rfl) ?_
  refine J_pick hp ?_
  refine J_hpO fun v hs => ?_
  refine J_row (.there .here) fun hw a cap hv h1 h2 h3 => ?_
  subst hv
  have hm : cap ≤ 9223372036854775807 := h2
  have hml : (xs.map encT).length = xs.length := List.length_map _
  refine J_seq ?_
  refine J_region ?_
  refine L_pur rfl (p_assign rfl) ?_
  refine L_nil ?_
  refine Q_then ?_
  refine J_seq ?_
  refine J_region ?_
  refine L_pur rfl (p_move rfl) ?_
  refine L_pur rfl (p_nilCheck rfl) ?_
  refine L_pur rfl (p_fieldAddr rfl fa134_0) ?_
  refine L_val rfl (v_loadL rfl ty132 HS rfl (by exact rfl)) ?_
  refine L_pur rfl (p_len rfl Try.underlying132) ?_
  refine L_pur rfl (p_assign rfl) ?_
  refine L_nil ?_
  refine Q_then ?_
  refine J_ret ?_
  refine J_hpS (b := b) (o := o) (xs := xs) _ PX (hs) ?_
  refine J_return (()) Try.results72 (.tmp rfl .nil) ?_ ?_
  · simp [one]
  · exact SU

set_option maxRecDepth 100000 in
set_option maxHeartbeats 4000000 in
theorem rhLen {E : World} {l m : List As}{b o : Nat} {xs : List Tm} (hp : Pick (hrA b o xs) l m) (_hb : xs.length ≤ 90000) :
    Con Try.prog 80 #[.pointer (some ⟨b, o, none⟩)] E l (fun _ : Unit => .int .i64 (xs.length : Int)) (fun _ => hrA b o xs :: m) := by
  refine Con.body (vs := [.pointer (some ⟨b, o, none⟩)]) (n := 8) Try.func80 rfl rfl [(0, .pointer (some ⟨b, o, none⟩))] (env_ok 1 rfl) ?_
  refine J_pick hp ?_
  refine J_hrO fun v hs => ?_
  refine J_row (.there .here) fun hw a cap hv h1 h2 h3 => ?_
  subst hv
  have hm : cap ≤ 9223372036854775807 := h2
  have hml : (xs.map encT).length = xs.length := List.length_map _
  refine J_seq ?_
  refine J_region ?_
  refine L_pur rfl (p_assign rfl) ?_
  refine L_nil ?_
  refine Q_then ?_
  refine J_seq ?_
  refine J_region ?_
  refine L_pur rfl (p_move rfl) ?_
  refine L_pur rfl (p_nilCheck rfl) ?_
  refine L_pur rfl (p_fieldAddr rfl fa144_0) ?_
  refine L_val rfl (v_loadL rfl ty142 HS rfl (by exact rfl)) ?_
  refine L_pur rfl (p_len rfl Try.underlying142) ?_
  refine L_pur rfl (p_assign rfl) ?_
  refine L_nil ?_
  refine Q_then ?_
  refine J_ret ?_
  refine J_hrS (b := b) (o := o) (xs := xs) _ PX (hs) ?_
  refine J_return (()) Try.results80 (.tmp rfl .nil) ?_ ?_
  · simp [one]
  · exact SU

set_option maxRecDepth 100000 in
set_option maxHeartbeats 4000000 in
theorem hNext {E : World} {l m : List As}{b o : Nat} {xs : List Tm} (hp : Pick (hpA b o xs) l m) (hb : xs.length ≤ 90000) :
  Con Try.prog 75 #[.pointer (some ⟨b, o, none⟩)] E l (fun _ : Unit => .tuple #[.int .u64 (xs.headD ((0, (0, 0)) : Tm)).1, .agg (encI (xs.headD ((0, (0, 0)) : Tm)).2).toArray, .bool (!xs.isEmpty)]) (fun _ => hpA b o xs :: m) := by
 rcases xs with _ | ⟨x, r⟩
 ·
  refine Con.body (vs := [.pointer (some ⟨b, o, none⟩)]) (n := 26) Try.func75 rfl rfl [(0, .pointer (some ⟨b, o, none⟩))] (env_ok 1 rfl) ?_
  refine J_pick hp ?_
  refine J_hpO fun v hs => ?_
  refine J_row (.there .here) fun hw a cap hv h1 h2 h3 => ?_
  subst hv
  have hm : cap ≤ 9223372036854775807 := h2
  have hml : (([] : List Tm).map encT).length = 0 := rfl
  refine J_seq ?_
  refine J_region ?_
  refine L_pur rfl (p_assign rfl) ?_
  refine L_op (x_alloc ty36 rfl fun b3 => ?_)
  refine L_pur rfl (p_assign rfl) ?_
  refine L_nil ?_
  refine Q_then ?_
  refine J_seq ?_
  refine J_seq ?_
  refine J_region ?_
  refine L_pur rfl (p_move rfl) ?_
  refine L_pur rfl (p_nilCheck rfl) ?_
  refine L_pur rfl (p_fieldAddr rfl fa134_0) ?_
  refine L_val rfl (v_loadL rfl ty132 HS rfl (by exact rfl)) ?_
  refine L_pur rfl (p_len rfl Try.underlying132) ?_
  refine L_pur rfl (p_eql rfl rfl) ?_
  refine L_nil ?_
  refine Q_then ?_
  refine J_bool (t := 10) (c := true) rfl (by simp) ?_
  refine C_true rfl ?_
  refine J_seq ?_
  refine J_region ?_
  refine L_pur rfl (bld36 .nil (by repeat constructor)) ?_
  refine L_pur rfl (p_assign rfl) ?_
  refine L_op (x_store rfl rfl ty36 rfl (by first | rfl | (simp [*]; done)) (by first | rfl | (simp [*]; done)) RO PT ?_)
  refine L_pur rfl (p_assign rfl) ?_
  refine L_nil ?_
  refine Q_then ?_
  refine J_ret ?_
  refine Q_then_ret ?_
  refine J_hpS (b := b) (o := o) (xs := []) _ PX (hs) ?_
  exact J_return (()) Try.results75 (.tmp rfl (.cellA rfl ty36 HS CT (.tmp rfl .nil))) rfl SU
 ·
  refine Con.body (vs := [.pointer (some ⟨b, o, none⟩)]) (n := 26) Try.func75 rfl rfl [(0, .pointer (some ⟨b, o, none⟩))] (env_ok 1 rfl) ?_
  refine J_pick hp ?_
  refine J_hpO fun v hs => ?_
  refine J_row (.there .here) fun hw a cap hv h1 h2 h3 => ?_
  obtain ⟨bi, oi, rfl⟩ := h3 (by simp)
  subst hv
  have hm : cap ≤ 9223372036854775807 := h2
  have hml : ((x :: r).map encT).length = r.length + 1 := by simp
  refine J_seq ?_
  refine J_region ?_
  refine L_pur rfl (p_assign rfl) ?_
  refine L_op (x_alloc ty36 rfl fun b3 => ?_)
  refine L_pur rfl (p_assign rfl) ?_
  refine L_nil ?_
  refine Q_then ?_
  refine J_seq ?_
  refine J_seq ?_
  refine J_region ?_
  refine L_pur rfl (p_move rfl) ?_
  refine L_pur rfl (p_nilCheck rfl) ?_
  refine L_pur rfl (p_fieldAddr rfl fa134_0) ?_
  refine L_val rfl (v_loadL rfl ty132 HS rfl (by exact rfl)) ?_
  refine L_pur rfl (p_len rfl Try.underlying132) ?_
  refine L_pur rfl (p_eql rfl rfl) ?_
  refine L_nil ?_
  refine Q_then ?_
  refine J_bool (t := 10) (c := false) rfl (by simp; omega) ?_
  refine C_false rfl ?_
  refine J_skip ?_
  refine Q_then ?_
  refine J_seq ?_
  refine J_drawT 15 mixed (by kernel_rfl) ?_
  refine S_val rfl (Pur.vl (p_move rfl)) ?_
  refine S_val rfl (Pur.vl (p_nilCheck rfl)) ?_
  refine S_val rfl (Pur.vl (p_fieldAddr rfl fa134_0)) ?_
  refine S_val rfl (v_loadL rfl ty132 HS rfl (by exact rfl)) ?_
  refine S_val rfl (Pur.vl (p_indexAddr rfl rfl Try.underlying132 ty175 (by omega) (by omega))) ?_
  refine S_val rfl (Pur.vl (p_fieldAddr rfl fa175_0)) ?_
  refine S_val rfl (by first | exact v_loadF rfl ty136 HS (by rfl) (by exact rfl) | exact v_loadRF rfl ty136 (fun w H => sep_reads (xs := (x :: r).map encT) HS H) (by rfl) (by exact rfl)) ?_
  refine S_val rfl (Pur.vl (p_move rfl)) ?_
  refine S_val rfl (Pur.vl (p_nilCheck rfl)) ?_
  refine S_val rfl (Pur.vl (p_fieldAddr rfl fa134_0)) ?_
  refine S_val rfl (v_loadL rfl ty132 HS rfl (by exact rfl)) ?_
  refine S_val rfl (Pur.vl (p_indexAddr rfl rfl Try.underlying132 ty175 (by omega) (by omega))) ?_
  refine S_val rfl (Pur.vl (p_fieldAddr rfl fa175_1)) ?_
  refine S_val rfl (by first | exact v_loadFA rfl ty36 HS (by rfl) CT | exact v_loadRFA rfl ty36 (fun w H => sep_reads (xs := (x :: r).map encT) HS H) (by rfl) CT) ?_
  refine S_val rfl (Pur.vl (p_assign rfl)) ?_
  refine S_nil ?_
  refine L_op (x_store rfl rfl ty36 rfl (by first | rfl | (simp [*]; done)) (by first | rfl | (simp [*]; done)) RO PT ?_)
  refine L_pur rfl (p_assign rfl) ?_
  refine L_nil ?_
  refine Q_then ?_
  refine J_ret ?_
  refine J_hpS (b := b) (o := o) (xs := x :: r) _ PX (hs) ?_
  exact J_return (()) Try.results75 (.tmp rfl (.cellA rfl ty36 HS CT (.tmp rfl .nil))) rfl SU

set_option maxRecDepth 100000 in
set_option maxHeartbeats 4000000 in
theorem rhNext {E : World} {l m : List As}{b o : Nat} {xs : List Tm} (hp : Pick (hrA b o xs) l m) (hb : xs.length ≤ 90000) :
  Con Try.prog 79 #[.pointer (some ⟨b, o, none⟩)] E l (fun _ : Unit => .tuple #[.int .u64 (xs.headD ((0, (0, 0)) : Tm)).1, .agg (encI (xs.headD ((0, (0, 0)) : Tm)).2).toArray, .bool (!xs.isEmpty)]) (fun _ => hrA b o xs :: m) := by
 rcases xs with _ | ⟨x, r⟩
 ·
  refine Con.body (vs := [.pointer (some ⟨b, o, none⟩)]) (n := 26) Try.func79 rfl rfl [(0, .pointer (some ⟨b, o, none⟩))] (env_ok 1 rfl) ?_
  refine J_pick hp ?_
  refine J_hrO fun v hs => ?_
  refine J_row (.there .here) fun hw a cap hv h1 h2 h3 => ?_
  subst hv
  have hm : cap ≤ 9223372036854775807 := h2
  have hml : (([] : List Tm).map encT).length = 0 := rfl
  refine J_seq ?_
  refine J_region ?_
  refine L_pur rfl (p_assign rfl) ?_
  refine L_op (x_alloc ty36 rfl fun b3 => ?_)
  refine L_pur rfl (p_assign rfl) ?_
  refine L_nil ?_
  refine Q_then ?_
  refine J_seq ?_
  refine J_seq ?_
  refine J_region ?_
  refine L_pur rfl (p_move rfl) ?_
  refine L_pur rfl (p_nilCheck rfl) ?_
  refine L_pur rfl (p_fieldAddr rfl fa144_0) ?_
  refine L_val rfl (v_loadL rfl ty142 HS rfl (by exact rfl)) ?_
  refine L_pur rfl (p_len rfl Try.underlying142) ?_
  refine L_pur rfl (p_eql rfl rfl) ?_
  refine L_nil ?_
  refine Q_then ?_
  refine J_bool (t := 10) (c := true) rfl (by simp) ?_
  refine C_true rfl ?_
  refine J_seq ?_
  refine J_region ?_
  refine L_pur rfl (bld36 .nil (by repeat constructor)) ?_
  refine L_pur rfl (p_assign rfl) ?_
  refine L_op (x_store rfl rfl ty36 rfl (by first | rfl | (simp [*]; done)) (by first | rfl | (simp [*]; done)) RO PT ?_)
  refine L_pur rfl (p_assign rfl) ?_
  refine L_nil ?_
  refine Q_then ?_
  refine J_ret ?_
  refine Q_then_ret ?_
  refine J_hrS (b := b) (o := o) (xs := []) _ PX (hs) ?_
  exact J_return (()) Try.results79 (.tmp rfl (.cellA rfl ty36 HS CT (.tmp rfl .nil))) rfl SU
 ·
  refine Con.body (vs := [.pointer (some ⟨b, o, none⟩)]) (n := 26) Try.func79 rfl rfl [(0, .pointer (some ⟨b, o, none⟩))] (env_ok 1 rfl) ?_
  refine J_pick hp ?_
  refine J_hrO fun v hs => ?_
  refine J_row (.there .here) fun hw a cap hv h1 h2 h3 => ?_
  obtain ⟨bi, oi, rfl⟩ := h3 (by simp)
  subst hv
  have hm : cap ≤ 9223372036854775807 := h2
  have hml : ((x :: r).map encT).length = r.length + 1 := by simp
  refine J_seq ?_
  refine J_region ?_
  refine L_pur rfl (p_assign rfl) ?_
  refine L_op (x_alloc ty36 rfl fun b3 => ?_)
  refine L_pur rfl (p_assign rfl) ?_
  refine L_nil ?_
  refine Q_then ?_
  refine J_seq ?_
  refine J_seq ?_
  refine J_region ?_
  refine L_pur rfl (p_move rfl) ?_
  refine L_pur rfl (p_nilCheck rfl) ?_
  refine L_pur rfl (p_fieldAddr rfl fa144_0) ?_
  refine L_val rfl (v_loadL rfl ty142 HS rfl (by exact rfl)) ?_
  refine L_pur rfl (p_len rfl Try.underlying142) ?_
  refine L_pur rfl (p_eql rfl rfl) ?_
  refine L_nil ?_
  refine Q_then ?_
  refine J_bool (t := 10) (c := false) rfl (by simp; omega) ?_
  refine C_false rfl ?_
  refine J_skip ?_
  refine Q_then ?_
  refine J_seq ?_
  refine J_drawT 15 mixed (by kernel_rfl) ?_
  refine S_val rfl (Pur.vl (p_move rfl)) ?_
  refine S_val rfl (Pur.vl (p_nilCheck rfl)) ?_
  refine S_val rfl (Pur.vl (p_fieldAddr rfl fa144_0)) ?_
  refine S_val rfl (v_loadL rfl ty142 HS rfl (by exact rfl)) ?_
  refine S_val rfl (Pur.vl (p_indexAddr rfl rfl Try.underlying142 ty184 (by omega) (by omega))) ?_
  refine S_val rfl (Pur.vl (p_fieldAddr rfl fa184_0)) ?_
  refine S_val rfl (by first | exact v_loadF rfl ty136 HS (by rfl) (by exact rfl) | exact v_loadRF rfl ty136 (fun w H => sep_reads (xs := (x :: r).map encT) HS H) (by rfl) (by exact rfl)) ?_
  refine S_val rfl (Pur.vl (p_move rfl)) ?_
  refine S_val rfl (Pur.vl (p_nilCheck rfl)) ?_
  refine S_val rfl (Pur.vl (p_fieldAddr rfl fa144_0)) ?_
  refine S_val rfl (v_loadL rfl ty142 HS rfl (by exact rfl)) ?_
  refine S_val rfl (Pur.vl (p_indexAddr rfl rfl Try.underlying142 ty184 (by omega) (by omega))) ?_
  refine S_val rfl (Pur.vl (p_fieldAddr rfl fa184_1)) ?_
  refine S_val rfl (by first | exact v_loadFA rfl ty36 HS (by rfl) CT | exact v_loadRFA rfl ty36 (fun w H => sep_reads (xs := (x :: r).map encT) HS H) (by rfl) CT) ?_
  refine S_val rfl (Pur.vl (p_assign rfl)) ?_
  refine S_nil ?_
  refine L_op (x_store rfl rfl ty36 rfl (by first | rfl | (simp [*]; done)) (by first | rfl | (simp [*]; done)) RO PT ?_)
  refine L_pur rfl (p_assign rfl) ?_
  refine L_nil ?_
  refine Q_then ?_
  refine J_ret ?_
  refine J_hrS (b := b) (o := o) (xs := x :: r) _ PX (hs) ?_
  exact J_return (()) Try.results79 (.tmp rfl (.cellA rfl ty36 HS CT (.tmp rfl .nil))) rfl SU

set_option maxRecDepth 100000 in
set_option maxHeartbeats 4000000 in
theorem hDrop {E : World} {l m : List As}{b o : Nat} {xs : List Tm} (hp : Pick (hpA b o xs) l m) (_hb : xs.length ≤ 90000) (i : ID) :
    Con Try.prog 73 #[.pointer (some ⟨b, o, none⟩), .agg (encI i).toArray] E l (fun _ : Unit => .bool (decide ((hdrop xs i).length < xs.length))) (fun _ => hpA b o (hdrop xs i) :: m) := by
  refine Con.body (vs := [.pointer (some ⟨b, o, none⟩), .agg (encI i).toArray]) (n := 27) Try.func73 rfl rfl [(0, .pointer (some ⟨b, o, none⟩)), (1, .agg (encI i).toArray)] (env_ok 2 rfl) ?_
  refine J_pick hp ?_
  refine J_hpO fun v hs => ?_
  refine J_row (.there .here) fun hw a cap hv h1 h2 h3 => ?_
  subst hv
  have hm : cap ≤ 9223372036854775807 := h2
  have hml : (xs.map encT).length = xs.length := List.length_map _
  refine J_seq ?_
  refine J_region ?_
  refine L_op (x_box rfl rfl rfl fun b3 => ?_)
  refine L_pur rfl (p_assign rfl) ?_
  refine L_nil ?_
  refine Q_then ?_
  refine J_seq ?_
  refine J_region ?_
  refine L_pur rfl (p_move rfl) ?_
  refine L_pur rfl (p_nilCheck rfl) ?_
  refine L_pur rfl (p_fieldAddr rfl fa134_0) ?_
  refine L_val rfl (v_loadL rfl ty132 HS rfl (by exact rfl)) ?_
  refine L_pur rfl (p_len rfl Try.underlying132) ?_
  refine L_pur rfl (p_assign rfl) ?_
  refine L_nil ?_
  refine Q_then ?_
  refine J_seq ?_
  refine J_region ?_
  refine L_pur rfl (p_move rfl) ?_
  refine L_pur rfl (p_move rfl) ?_
  refine L_pur rfl (p_nilCheck rfl) ?_
  refine L_pur rfl (p_fieldAddr rfl fa134_0) ?_
  refine L_val rfl (v_loadL rfl ty132 HS rfl (by exact rfl)) ?_
  refine L_pur rfl (p_makeFunc (.cons rfl .nil)) ?_
  refine L_op (x_call Try.func106 nm106 bd106 (.cons rfl (.cons rfl .nil)) rfl (deletefunc106 (xs := xs) (enc := encT) (q := isT i) (C := blk b3 36 (encI i)) Try.func107 nm107 bd107 (fun l' c hc => clo107 hc) PC HS encT_one encT_len) fun v17 => ?_)
  refine J_row .here fun hw17 a17 c17 hv17 hl17 hm17 hz17 => ?_
  subst hv17
  refine L_pur rfl (p_nilCheck rfl) ?_
  refine L_pur rfl (p_fieldAddr rfl fa134_0) ?_
  refine L_op (x_storeL rfl rfl ty132 rfl (by first | rfl | (simp [*]; done)) (by first | rfl | (simp [*]; done)) rfl RO rfl PT ?_)
  refine L_nil ?_
  refine Q_then ?_
  refine J_seq ?_
  refine J_region ?_
  refine L_pur rfl (p_move rfl) ?_
  refine L_pur rfl (p_nilCheck rfl) ?_
  refine L_pur rfl (p_fieldAddr rfl fa134_0) ?_
  refine L_val rfl (v_loadL rfl ty132 HS rfl (by exact rfl)) ?_
  refine L_pur rfl (p_len rfl Try.underlying132) ?_
  refine L_pur rfl (p_move rfl) ?_
  refine L_pur rfl (p_lss rfl rfl) ?_
  refine L_pur rfl (p_assign rfl) ?_
  refine L_nil ?_
  refine Q_then ?_
  refine J_ret ?_
  refine J_hpS (b := b) (o := o) (xs := hdrop xs i) _ PX (hs.drop i) ?_
  refine J_return (()) Try.results73 (.tmp rfl .nil) ?_ ?_
  · simp [one, hdrop]
  · exact SU

set_option maxRecDepth 100000 in
set_option maxHeartbeats 4000000 in
theorem rhDrop {E : World} {l m : List As}{b o : Nat} {xs : List Tm} (hp : Pick (hrA b o xs) l m) (hb : xs.length ≤ 90000) (i : ID) :
    Con Try.prog 76 #[.pointer (some ⟨b, o, none⟩), .agg (encI i).toArray] E l (fun _ : Unit => .bool (decide ((hdrop xs i).length < xs.length))) (fun _ => hrA b o (hdrop xs i) :: m) := by
  refine Con.body (vs := [.pointer (some ⟨b, o, none⟩), .agg (encI i).toArray]) (n := 50) Try.func76 rfl rfl [(0, .pointer (some ⟨b, o, none⟩)), (1, .agg (encI i).toArray)] (env_ok 2 rfl) ?_
  refine J_pick hp ?_
  refine J_hrO fun v hs => ?_
  refine J_row (.there .here) fun hw a cap hv h1 h2 h3 => ?_
  subst hv
  have hm : cap ≤ 9223372036854775807 := h2
  have hml : (xs.map encT).length = xs.length := List.length_map _
  refine J_seq ?_
  refine J_region ?_
  refine L_op (x_box rfl rfl rfl fun b3 => ?_)
  refine L_pur rfl (p_assign rfl) ?_
  refine L_nil ?_
  refine Q_then ?_
  refine J_seq ?_
  refine J_region ?_
  refine L_pur rfl (p_assign rfl) ?_
  refine L_nil ?_
  refine Q_then ?_
  refine J_seq ?_
  refine J_seq ?_
  refine J_region ?_
  refine L_pur rfl (p_assign rfl) ?_
  refine L_nil ?_
  refine Q_then ?_
  refine J_block ?_
  refine J_nil (el := 184) (sz := 3) ?_
  refine J_loop2 (fun k v5 => k ≤ xs.length) (fun k v5 => row 184 3 v5 ((hdrop (xs.take k) i).map encT) :: fld b o [.slice a (xs.map encT).length cap] :: row 184 3 (.slice a (xs.map encT).length cap) (xs.map encT) :: blk b3 36 (encI i) :: m) (fun k v5 => [(6, .int .i64 (k : Int)), (5, v5), (0, .pointer (some ⟨b, o, none⟩)), (3, .pointer (some ⟨b3, 0, none⟩))]) (fun k v5 => xs.length - k) 0 (.slice none 0 0) (by omega) SU KE ?_
  intro k v5 hk
  have hdl := hdrop_len (xs.take k) i
  have htl : (xs.take k).length ≤ k := by simp; omega
  refine J_seq ?_
  refine J_seq ?_
  refine J_region ?_
  refine L_pur rfl (p_move rfl) ?_
  refine L_pur rfl (p_move rfl) ?_
  refine L_pur rfl (p_nilCheck rfl) ?_
  refine L_pur rfl (p_fieldAddr rfl fa144_0) ?_
  refine L_val rfl (v_loadL rfl ty142 HS rfl (by exact rfl)) ?_
  refine L_pur rfl (p_len rfl Try.underlying142) ?_
  refine L_pur rfl (p_lss rfl rfl) ?_
  refine L_nil ?_
  refine Q_then ?_
  refine C_dec rfl (fun h14 => ?_) (fun h14 => ?_)
  ·
    have hlt : k < xs.length := by omega
    obtain ⟨bx, ox, rfl⟩ := h3 (by intro h; rw [h] at hml; simp at hml; omega)
    obtain ⟨c, hcc⟩ : ∃ c, xs[k]? = some c := ⟨_, List.getElem?_eq_getElem hlt⟩
    have hsucc : hdrop (xs.take (k + 1)) i = hdrop (xs.take k) i ++ if (!isT i c) = true then [c] else [] := by
      unfold hdrop
      rw [List.take_add_one, hcc, List.filter_append]
      by_cases hp : (!isT i c) = true <;> simp [hp]
    refine J_skip ?_
    refine Q_then ?_
    refine J_seq ?_
    refine J_block ?_
    refine J_seq ?_
    refine J_drawS mixed (by kernel_rfl) ?_
    refine S_val rfl (Pur.vl (p_move rfl)) ?_
    refine S_val rfl (Pur.vl (p_nilCheck rfl)) ?_
    refine S_val rfl (Pur.vl (p_fieldAddr rfl fa144_0)) ?_
    refine S_val rfl (v_loadL rfl ty142 HS rfl (by exact rfl)) ?_
    refine S_val rfl (Pur.vl (p_move rfl)) ?_
    refine S_val rfl (Pur.vl (p_indexAddr rfl rfl Try.underlying142 ty184 (by omega) (by omega))) ?_
    refine S_val rfl (Pur.vl (p_fieldAddr rfl fa184_1)) ?_
    refine S_val rfl (v_loadFA rfl ty36 HS (by first | (simp only [Int.toNat_natCast, List.getElem?_map, hcc]; rfl) | (simp only [Int.toNat_natCast, List.getElem?_map, hcd]; rfl) | simp | rfl) CT) ?_
    refine S_val rfl (v_loadA rfl ty36 HS CT) ?_
    refine S_val rfl (Pur.vl (p_nev rfl rfl (fun w => eg36 _ _ _ _ _ w) (fun w => nev36 _ _ _ _ w))) ?_
    refine S_nil ?_
    refine Q_then ?_
    refine C_split rfl (fun h26 => ?_) (fun h26 => ?_)
    ·
      refine J_region ?_
      refine L_pur rfl (p_move rfl) ?_
      refine L_pur rfl (p_move rfl) ?_
      refine L_pur rfl (p_nilCheck rfl) ?_
      refine L_pur rfl (p_fieldAddr rfl fa144_0) ?_
      refine L_val rfl (v_loadL rfl ty142 HS rfl (by exact rfl)) ?_
      refine L_pur rfl (p_move rfl) ?_
      refine L_pur rfl (p_indexAddr rfl rfl Try.underlying142 ty184 (by omega) (by omega)) ?_
      refine L_val rfl (v_loadE rfl ty184 HS (by first | (simp only [Int.toNat_natCast, List.getElem?_map, hcc]; rfl) | (simp only [Int.toNat_natCast, List.getElem?_map, hcd]; rfl) | simp | rfl)) ?_
      refine L_op (x_lit (vals := [_]) Try.underlying142 ty184 rfl (.cons rfl .nil) (.agg .nil) (Wf.cons rfl rfl Wf.nil) rfl (by decide) rfl rfl fun v35 => ?_)
      refine J_row .here fun hw35 a35 c35 hv35 hl35 hm35 hz35 => ?_
      subst hv35
      refine L_op (x_app rfl rfl Try.underlying142 ty184 rfl rfl PC (fun w H => sep_reads HS H) (by first | omega | (simp <;> omega)) (by first | omega | (simp <;> omega)) rfl fun v36 => ?_)
      refine J_rowEq (ys := (hdrop (xs.take (k + 1)) i).map encT) (by rw [hsucc, if_pos (by simpa [isT] using h26)]; simp) ?_
      refine J_row .here fun hw36 a36 c36 hv36 hl36 hm36 hz36 => ?_
      subst hv36
      refine L_pur rfl (p_assign rfl) ?_
      refine L_nil ?_
      refine Q_blk_normal ?_
      refine Q_then ?_
      refine J_region ?_
      refine L_pur rfl (p_move rfl) ?_
      refine L_pur rfl (p_add64 rfl rfl (by omega)) ?_
      refine L_pur rfl (p_assign rfl) ?_
      refine L_nil ?_
      refine Q_then ?_
      
      exact J_again2 (k + 1) _ (by omega) (by omega) SU KE
    ·
      refine J_skip ?_
      refine Q_blk_normal ?_
      refine Q_then ?_
      refine J_region ?_
      refine L_pur rfl (p_move rfl) ?_
      refine L_pur rfl (p_add64 rfl rfl (by omega)) ?_
      refine L_pur rfl (p_assign rfl) ?_
      refine L_nil ?_
      refine Q_then ?_
      refine J_pick (A := row 184 3 v5 _) PC ?_
      refine J_rowEq (ys := (hdrop (xs.take (k + 1)) i).map encT) (by rw [hsucc, if_neg (by simpa [isT] using h26)]; simp) ?_
      exact J_again2 (k + 1) _ (by omega) (by omega) SU KE
  ·
    have hkx : k = xs.length := by omega
    subst hkx
    refine J_pick (A := row 184 3 v5 _) PC ?_
    refine J_rowEq (ys := (hdrop xs i).map encT) (by rw [List.take_length]) ?_
    refine J_row .here fun hws aws cws hvs h1s h2s h3s => ?_
    subst hvs
    refine J_exit ?_
    refine Q_then_exit ?_
    refine Q_then_exit ?_
    refine Q_blk_this ?_
    refine Q_then ?_
    refine J_seq ?_
    refine J_region ?_
    refine L_pur rfl (p_move rfl) ?_
    refine L_pur rfl (p_len rfl Try.underlying142) ?_
    refine L_pur rfl (p_move rfl) ?_
    refine L_pur rfl (p_nilCheck rfl) ?_
    refine L_pur rfl (p_fieldAddr rfl fa144_0) ?_
    refine L_val rfl (v_loadL rfl ty142 HS rfl (by exact rfl)) ?_
    refine L_pur rfl (p_len rfl Try.underlying142) ?_
    refine L_pur rfl (p_lss rfl rfl) ?_
    refine L_pur rfl (p_assign rfl) ?_
    refine L_nil ?_
    refine Q_then ?_
    refine J_seq ?_
    refine J_region ?_
    refine L_pur rfl (p_move rfl) ?_
    refine L_pur rfl (p_move rfl) ?_
    refine L_pur rfl (p_nilCheck rfl) ?_
    refine L_pur rfl (p_fieldAddr rfl fa144_0) ?_
    refine L_op (x_storeL rfl rfl ty142 rfl (by first | rfl | (simp [*]; done)) (by first | rfl | (simp [*]; done)) rfl RO rfl PT ?_)
    refine L_nil ?_
    refine Q_then ?_
    refine J_seq ?_
    refine J_region ?_
    refine L_pur rfl (p_move rfl) ?_
    refine L_pur rfl (p_assign rfl) ?_
    refine L_nil ?_
    refine Q_then ?_
    refine J_ret ?_
    refine J_hrS (b := b) (o := o) (xs := hdrop xs i) _ PX (hs.drop i) ?_
    refine J_return (()) Try.results76 (.tmp rfl .nil) ?_ ?_
    · simp [one]
    · exact SU

set_option maxRecDepth 100000 in
set_option maxHeartbeats 4000000 in
theorem hPush {E : World} {l m : List As}{b o : Nat} {xs : List Tm} (hp : Pick (hpA b o xs) l m) (hb : xs.length ≤ 90000) (d : Int) (i : ID) :
  Con Try.prog 71 #[.pointer (some ⟨b, o, none⟩), .int .u64 d, .agg (encI i).toArray] E l (fun _ : Unit => .tuple #[]) (fun _ => hpA b o (hpush xs (d, i)) :: m) := by
 refine Con.body (vs := [.pointer (some ⟨b, o, none⟩), .int .u64 d, .agg (encI i).toArray]) (n := 35) Try.func71 rfl rfl [(0, .pointer (some ⟨b, o, none⟩)), (1, .int .u64 d), (2, .agg (encI i).toArray)] (env_ok 3 rfl) ?_
 refine J_pick hp ?_
 refine J_seq ?_
 refine J_region ?_
 refine L_op (x_box rfl rfl rfl fun b5 => ?_)
 refine L_nil ?_
 refine Q_then ?_
 refine J_seq ?_
 refine J_region ?_
 refine L_pur rfl (p_move rfl) ?_
 refine L_val rfl (v_loadA rfl ty36 HS CT) ?_
 refine L_op (x_call Try.func73 nm73 bd73 (.cons rfl (.cons rfl .nil)) rfl (hDrop PC (by omega) i) fun _ => ?_)
 obtain ⟨ys, hys⟩ : ∃ ys, ys = hdrop xs i := ⟨_, rfl⟩
 have hyl : ys.length ≤ xs.length := by rw [hys]; exact hdrop_len xs i
 have hne : ∀ c ∈ ys, c.2 ≠ (d, i).2 := by rw [hys]; exact fun c hc => hdrop_ne hc
 refine J_asTo (B := hpA b o ys) (by rw [hys]) ?_
 refine J_hpO fun v hs => ?_
 refine J_row (.there .here) fun hw a cap hv h1 h2 h3 => ?_
 subst hv
 have hpi := fun j c => place_iff (x := (d, i)) hs (j := j) (c := c)
 have hpl := place_le ys (d, i)
 obtain ⟨k, hk⟩ : ∃ k, k = place ys (d, i) := ⟨_, rfl⟩
 refine L_nil ?_
 refine Q_then ?_
 refine J_seq ?_
 refine J_region ?_
 refine L_pur rfl (p_move rfl) ?_
 refine L_val rfl (v_loadA rfl ty36 HS CT) ?_
 refine L_pur rfl (bld175 (.cons rfl (.cons rfl .nil)) (by repeat constructor)) ?_
 refine L_op (x_alloc ty175 rfl fun b6 => ?_)
 refine L_op (x_store rfl rfl ty175 rfl (by first | rfl | (simp [*]; done)) (by first | rfl | (simp [*]; done)) RO PT ?_)
 refine J_pick (A := blk b6 175 _) PC ?_
 refine J_asTo (B := blk b6 175 (encT (d, i))) (by rfl) ?_
 refine L_nil ?_
 refine Q_then ?_
 refine J_seq ?_
 refine J_drawI none [blk b6 175 (encT (d, i)), fld b o [.slice a (ys.map encT).length cap]] mixed ?_
 refine I_take (i := 0) rfl rfl rfl rfl (by kernel_rfl) (fun _ _ _ _ h => h) (fun _ => Pur.vl (p_move rfl)) ?_
 refine I_take (i := 1) rfl rfl rfl rfl (by kernel_rfl) (fun _ _ _ _ h => h) (fun _ => Pur.vl (p_nilCheck rfl)) ?_
 refine I_take (i := 2) rfl rfl rfl rfl (by kernel_rfl) (fun _ _ _ _ h => h) (fun _ => Pur.vl (p_fieldAddr rfl fa134_0)) ?_
 refine I_take (i := 3) rfl rfl rfl rfl (by kernel_rfl) (fun _ _ _ _ h => h) (fun _ => v_loadL rfl ty132 HS rfl (by exact rfl)) ?_
 refine I_take (i := 4) rfl rfl rfl rfl (by kernel_rfl) (fun _ _ _ _ h => h) (fun _ => v_loadA rfl ty175 HS CT) ?_
 refine I_one (i := 5) SI (by kernel_rfl) rfl ?_
 refine x_call Try.func103 nm103 bd103 (.cons rfl (.cons rfl (.cons rfl .nil))) rfl (bsearch (xs := ys) (x := (d, i)) (k := k) HS (by omega) (by omega) (fun j c h => by rw [hk]; exact hpi j c h)) fun q => ?_
 refine I_take (i := 6) rfl rfl rfl rfl (by kernel_rfl) (fun _ _ _ _ h => h) (fun _ => Pur.vl (p_move rfl)) ?_
 refine I_take (i := 7) rfl rfl rfl rfl (by kernel_rfl) (fun _ _ _ _ h => h) (fun _ => Pur.vl (p_extract rfl rfl)) ?_
 refine I_take (i := 8) rfl rfl rfl rfl (by kernel_rfl) (fun _ _ _ _ h => h) (fun _ => Pur.vl (p_extract rfl rfl)) ?_
 refine I_take (i := 9) rfl rfl rfl rfl (by kernel_rfl) (fun _ _ _ _ h => h) (fun _ => Pur.vl (p_assign rfl)) ?_
 refine I_take (i := 10) rfl rfl rfl rfl (by kernel_rfl) (fun _ _ _ _ h => h) (fun _ => Pur.vl (p_assign rfl)) ?_
 refine I_done SI (by kernel_rfl) ?_
 refine Q_then ?_
 refine J_drawI (some 11) [blk b6 175 (encT (d, i)), fld b o [.slice a (ys.map encT).length cap]] mixed ?_
 refine I_take (i := 0) rfl rfl rfl rfl (by kernel_rfl) (fun _ _ _ _ h => h) (fun _ => Pur.vl (p_move rfl)) ?_
 refine I_take (i := 1) rfl rfl rfl rfl (by kernel_rfl) (fun _ _ _ _ h => h) (fun _ => Pur.vl (p_move rfl)) ?_
 refine I_take (i := 2) rfl rfl rfl rfl (by kernel_rfl) (fun _ _ _ _ h => h) (fun _ => Pur.vl (p_nilCheck rfl)) ?_
 refine I_take (i := 3) rfl rfl rfl rfl (by kernel_rfl) (fun _ _ _ _ h => h) (fun _ => Pur.vl (p_fieldAddr rfl fa134_0)) ?_
 refine I_take (i := 4) rfl rfl rfl rfl (by kernel_rfl) (fun _ _ _ _ h => h) (fun _ => v_loadL rfl ty132 HS rfl (by exact rfl)) ?_
 refine I_take (i := 5) rfl rfl rfl rfl (by kernel_rfl) (fun _ _ _ _ h => h) (fun _ => Pur.vl (p_move rfl)) ?_
 refine I_take (i := 6) rfl rfl rfl rfl (by kernel_rfl) (fun _ _ _ _ h => h) (fun _ => v_loadA rfl ty175 HS CT) ?_
 refine I_one (i := 7) SI (by kernel_rfl) rfl ?_
 refine x_lit (vals := [_]) Try.underlying132 ty175 rfl (.cons rfl .nil) (.agg .nil) (Wf.cons rfl rfl Wf.nil) rfl (by decide) rfl rfl fun v31 => ?_
 refine J_row .here fun hw31 a31 c31 hv31 hl31 hm31 hz31 => ?_
 subst hv31
 refine I_one (i := 8) SI (by kernel_rfl) rfl ?_
 refine x_call Try.func105 nm105 bd105 (.cons rfl (.cons rfl (.cons rfl .nil))) rfl (insert1 (xs := ys.map encT) (c := encT (d, i)) (k := k) PC PC (by simp; omega) (by simp; omega)) fun v32 => ?_
 refine J_rowEq (ys := (hpush xs (d, i)).map encT) (by unfold hpush putT; rw [← hys, ← hk]; simp [List.map_take, List.map_drop]) ?_
 refine J_row .here fun hw32 a32 c32 hv32 hl32 hm32 hz32 => ?_
 subst hv32
 refine I_take (i := 9) rfl rfl rfl rfl (by kernel_rfl) (fun _ _ _ _ h => h) (fun _ => Pur.vl (p_nilCheck rfl)) ?_
 refine I_take (i := 10) rfl rfl rfl rfl (by kernel_rfl) (fun _ _ _ _ h => h) (fun _ => Pur.vl (p_fieldAddr rfl fa134_0)) ?_
 refine I_one (i := 11) SI (by kernel_rfl) rfl ?_
 refine x_storeL rfl rfl ty132 rfl (by first | rfl | (simp [*]; done)) (by first | rfl | (simp [*]; done)) rfl RO rfl PT ?_
 refine I_done SI (by kernel_rfl) ?_
 refine J_endnormal ?_
 refine J_hpS (b := b) (o := o) (xs := hpush xs (d, i)) _ PX (by unfold hpush; rw [← hys]; exact hs.put hne) ?_
 exact J_return (()) Try.results71 .nil rfl SU

set_option maxRecDepth 100000 in
set_option maxHeartbeats 4000000 in
theorem rhPush {E : World} {l m : List As}{b o : Nat} {xs : List Tm} (hp : Pick (hrA b o xs) l m) (hb : xs.length ≤ 90000) (d : Int) (i : ID) :
  Con Try.prog 78 #[.pointer (some ⟨b, o, none⟩), .int .u64 d, .agg (encI i).toArray] E l (fun _ : Unit => .tuple #[]) (fun _ => hrA b o (hpush xs (d, i)) :: m) := by
 refine Con.body (vs := [.pointer (some ⟨b, o, none⟩), .int .u64 d, .agg (encI i).toArray]) (n := 80) Try.func78 rfl rfl [(0, .pointer (some ⟨b, o, none⟩)), (1, .int .u64 d), (2, .agg (encI i).toArray)] (env_ok 3 rfl) ?_
 refine J_pick hp ?_
 refine J_seq ?_
 refine J_region ?_
 refine L_op (x_box rfl rfl rfl fun b5 => ?_)
 refine L_nil ?_
 refine Q_then ?_
 refine J_seq ?_
 refine J_region ?_
 refine L_pur rfl (p_move rfl) ?_
 refine L_val rfl (v_loadA rfl ty36 HS CT) ?_
 refine L_op (x_call Try.func76 nm76 bd76 (.cons rfl (.cons rfl .nil)) rfl (rhDrop PC (by omega) i) fun _ => ?_)
 obtain ⟨ys, hys⟩ : ∃ ys, ys = hdrop xs i := ⟨_, rfl⟩
 have hyl : ys.length ≤ xs.length := by rw [hys]; exact hdrop_len xs i
 have hne : ∀ c ∈ ys, c.2 ≠ (d, i).2 := by rw [hys]; exact fun c hc => hdrop_ne hc
 refine J_asTo (B := hrA b o ys) (by rw [hys]) ?_
 refine J_hrO fun v hs => ?_
 refine J_row (.there .here) fun hw a cap hv h1 h2 h3 => ?_
 subst hv
 have hml : (ys.map encT).length = ys.length := List.length_map _
 refine L_nil ?_
 refine Q_then ?_
 refine J_seq ?_
 refine J_region ?_
 refine L_pur rfl (p_assign rfl) ?_
 refine L_nil ?_
 refine Q_then ?_
 refine J_seq ?_
 refine J_block ?_
 refine J_loop (α := Nat) (fun k => k ≤ ys.length ∧ ∀ c ∈ ys.take k, ltT c (d, i) = true) (fun k => fld b o [.slice a (ys.map encT).length cap] :: row 184 3 (.slice a (ys.map encT).length cap) (ys.map encT) :: blk b5 36 (encI i) :: m) (fun k => [(6, .int .i64 (k : Int)), (0, .pointer (some ⟨b, o, none⟩)), (1, .int .u64 d), (5, .pointer (some ⟨b5, 0, none⟩))]) (fun k => ys.length - k) 0 ⟨by omega, by simp⟩ SU KE ?_
 intro k ⟨hk, hq⟩
 refine J_seq ?_
 refine J_seq ?_
 refine J_drawT 39 mixed (by kernel_rfl) ?_
 refine S_val rfl (Pur.vl (p_move rfl)) ?_
 refine S_val rfl (Pur.vl (p_move rfl)) ?_
 refine S_val rfl (Pur.vl (p_nilCheck rfl)) ?_
 refine S_val rfl (Pur.vl (p_fieldAddr rfl fa144_0)) ?_
 refine S_val rfl (v_loadL rfl ty142 HS rfl (by exact rfl)) ?_
 refine S_val rfl (Pur.vl (p_len rfl Try.underlying142)) ?_
 refine S_val rfl (Pur.vl (p_lss rfl rfl)) ?_
 refine S_val rfl (Pur.vl (p_move rfl)) ?_
 refine J_gsplit (t := 18) rfl (fun h18 => ?_) (fun h18 => ?_)
 ·
  have hlt : k < ys.length := by simp at h18; omega
  obtain ⟨bx, ox, hax⟩ := h3 (by intro h; rw [h] at hml; simp at hml; omega)
  subst hax
  obtain ⟨c, hcc⟩ : ∃ c, ys[k]? = some c := ⟨_, List.getElem?_eq_getElem hlt⟩
  refine S_on rfl rfl rfl rfl (Pur.vl (p_move rfl)) ?_
  refine S_on rfl rfl rfl rfl (Pur.vl (p_nilCheck rfl)) ?_
  refine S_on rfl rfl rfl rfl (Pur.vl (p_fieldAddr rfl fa144_0)) ?_
  refine S_on rfl rfl rfl rfl (v_loadL rfl ty142 HS rfl (by exact rfl)) ?_
  refine S_on rfl rfl rfl rfl (Pur.vl (p_move rfl)) ?_
  refine S_on rfl rfl rfl rfl (Pur.vl (p_indexAddr rfl rfl Try.underlying142 ty184 (by omega) (by omega))) ?_
  refine S_on rfl rfl rfl rfl (Pur.vl (p_fieldAddr rfl fa184_0)) ?_
  refine S_on rfl rfl rfl rfl (by first | exact v_loadF rfl ty136 HS (by first | (simp only [Int.toNat_natCast, List.getElem?_map, hcc]; rfl) | (simp only [Int.toNat_natCast, List.getElem?_map, hcd]; rfl) | simp | rfl) (by exact rfl) | exact v_loadRF rfl ty136 (fun w H => sep_reads (xs := ys.map encT) HS H) (by first | (simp only [Int.toNat_natCast, List.getElem?_map, hcc]; rfl) | (simp only [Int.toNat_natCast, List.getElem?_map, hcd]; rfl) | simp | rfl) (by exact rfl)) ?_
  refine S_on rfl rfl rfl rfl (Pur.vl (p_move rfl)) ?_
  refine S_on rfl rfl rfl rfl (Pur.vl (p_lss rfl rfl)) ?_
  refine S_on rfl rfl rfl rfl (Pur.vl (p_move rfl)) ?_
  refine J_gsplit (t := 29) rfl (fun h29 => ?_) (fun h29 => ?_)
  ·
   have hct : ltT c (d, i) = true := by simp at h29; simp [ltT, h29]
   refine S_off rfl rfl rfl rfl rfl ?_
   refine S_off rfl rfl rfl rfl rfl ?_
   refine S_off rfl rfl rfl rfl rfl ?_
   refine S_off rfl rfl rfl rfl rfl ?_
   refine S_off rfl rfl rfl rfl rfl ?_
   refine S_off rfl rfl rfl rfl rfl ?_
   refine S_off rfl rfl rfl rfl rfl ?_
   refine S_off rfl rfl rfl rfl rfl ?_
   refine S_off rfl rfl rfl rfl rfl ?_
   refine S_off rfl rfl rfl rfl rfl ?_
   refine S_off rfl rfl rfl rfl rfl ?_
   refine S_offU rfl rfl rfl rfl ?_
   refine S_offU rfl rfl rfl rfl ?_
   refine S_offU rfl rfl rfl rfl ?_
   refine S_offU rfl rfl rfl rfl ?_
   refine S_offU rfl rfl rfl rfl ?_
   refine S_offU rfl rfl rfl rfl ?_
   refine S_offU rfl rfl rfl rfl ?_
   refine S_offU rfl rfl rfl rfl ?_
   refine S_offU rfl rfl rfl rfl ?_
   refine S_nil ?_
   refine L_op (G_offU rfl rfl rfl rfl rfl ?_)
   refine L_op (G_off rfl rfl rfl rfl rfl rfl ?_)
   refine L_op (G_on rfl rfl rfl ?_)
   refine J_pur (p_pick_t rfl rfl) rfl rfl rfl ?_
   refine L_pur rfl (p_pick_t rfl rfl) ?_
   refine L_nil ?_
   refine Q_then ?_
   refine C_true rfl ?_
   refine J_skip ?_
   refine Q_then ?_
   refine J_block ?_
   refine J_region ?_
   refine L_pur rfl (p_move rfl) ?_
   refine L_pur rfl (p_add64 rfl rfl (by omega)) ?_
   refine L_pur rfl (p_assign rfl) ?_
   refine L_nil ?_
   refine Q_blk_normal ?_
   refine Q_then ?_
   exact J_again (k + 1) (by omega) (⟨by omega, fun c' hc' => by rw [List.take_add_one, hcc] at hc'; rcases List.mem_append.1 hc' with h | h; exact hq c' h; simp at h; subst h; exact hct⟩) SU KE
  ·
   refine S_on rfl rfl rfl rfl (Pur.vl (p_move rfl)) ?_
   refine S_on rfl rfl rfl rfl (Pur.vl (p_nilCheck rfl)) ?_
   refine S_on rfl rfl rfl rfl (Pur.vl (p_fieldAddr rfl fa144_0)) ?_
   refine S_on rfl rfl rfl rfl (v_loadL rfl ty142 HS rfl (by exact rfl)) ?_
   refine S_on rfl rfl rfl rfl (Pur.vl (p_move rfl)) ?_
   refine S_on rfl rfl rfl rfl (Pur.vl (p_indexAddr rfl rfl Try.underlying142 ty184 (by omega) (by omega))) ?_
   refine S_on rfl rfl rfl rfl (Pur.vl (p_fieldAddr rfl fa184_0)) ?_
   refine S_on rfl rfl rfl rfl (by first | exact v_loadF rfl ty136 HS (by first | (simp only [Int.toNat_natCast, List.getElem?_map, hcc]; rfl) | (simp only [Int.toNat_natCast, List.getElem?_map, hcd]; rfl) | simp | rfl) (by exact rfl) | exact v_loadRF rfl ty136 (fun w H => sep_reads (xs := ys.map encT) HS H) (by first | (simp only [Int.toNat_natCast, List.getElem?_map, hcc]; rfl) | (simp only [Int.toNat_natCast, List.getElem?_map, hcd]; rfl) | simp | rfl) (by exact rfl)) ?_
   refine S_on rfl rfl rfl rfl (Pur.vl (p_move rfl)) ?_
   refine S_on rfl rfl rfl rfl (Pur.vl (p_eql rfl rfl)) ?_
   refine S_on rfl rfl rfl rfl (Pur.vl (p_move rfl)) ?_
   refine J_gsplit (t := 40) rfl (fun h40 => ?_) (fun h40 => ?_)
   ·
    refine S_on rfl rfl rfl rfl (Pur.vl (p_move rfl)) ?_
    refine S_on rfl rfl rfl rfl (Pur.vl (p_nilCheck rfl)) ?_
    refine S_on rfl rfl rfl rfl (Pur.vl (p_fieldAddr rfl fa144_0)) ?_
    refine S_on rfl rfl rfl rfl (v_loadL rfl ty142 HS rfl (by exact rfl)) ?_
    refine S_on rfl rfl rfl rfl (Pur.vl (p_move rfl)) ?_
    refine S_on rfl rfl rfl rfl (Pur.vl (p_indexAddr rfl rfl Try.underlying142 ty184 (by omega) (by omega))) ?_
    refine S_on rfl rfl rfl rfl (Pur.vl (p_fieldAddr rfl fa184_1)) ?_
    refine S_on rfl rfl rfl rfl (by first | exact v_loadFA rfl ty36 HS (by first | (simp only [Int.toNat_natCast, List.getElem?_map, hcc]; rfl) | (simp only [Int.toNat_natCast, List.getElem?_map, hcd]; rfl) | simp | rfl) CT | exact v_loadRFA rfl ty36 (fun w H => sep_reads (xs := ys.map encT) HS H) (by first | (simp only [Int.toNat_natCast, List.getElem?_map, hcc]; rfl) | (simp only [Int.toNat_natCast, List.getElem?_map, hcd]; rfl) | simp | rfl) CT) ?_
    refine S_on rfl rfl rfl rfl (v_loadA rfl ty36 HS CT) ?_
    refine S_nil ?_
    refine L_op (G_on rfl rfl rfl ?_)
    refine x_call Try.func109 nm109 bd109 (.cons rfl (.cons rfl .nil)) rfl (firstI c.2 i) fun _ => ?_
    refine L_op (G_on rfl rfl rfl ?_)
    refine J_pur (p_pick_t rfl rfl) rfl rfl rfl ?_
    refine L_op (G_on rfl rfl rfl ?_)
    refine J_pur (p_pick_f rfl rfl) rfl rfl rfl ?_
    refine L_pur rfl (p_pick_t rfl rfl) ?_
    refine L_nil ?_
    refine Q_then ?_
    refine C_split rfl (fun h53 => ?_) (fun h53 => ?_)
    ·
     have hct : ltT c (d, i) = true := by simp at h40; simp [ltT, h40, h53]
     refine J_skip ?_
     refine Q_then ?_
     refine J_block ?_
     refine J_region ?_
     refine L_pur rfl (p_move rfl) ?_
     refine L_pur rfl (p_add64 rfl rfl (by omega)) ?_
     refine L_pur rfl (p_assign rfl) ?_
     refine L_nil ?_
     refine Q_blk_normal ?_
     refine Q_then ?_
     exact J_again (k + 1) (by omega) (⟨by omega, fun c' hc' => by rw [List.take_add_one, hcc] at hc'; rcases List.mem_append.1 hc' with h | h; exact hq c' h; simp at h; subst h; exact hct⟩) SU KE
    ·
     have hct : ltT c (d, i) = false := by simp at h29 h40; simp [ltT, h40, h53]
     refine J_exit ?_
     refine Q_then_exit ?_
     refine Q_then_exit ?_
     refine Q_blk_this ?_
     refine Q_then ?_
     refine J_seq ?_
     have hpk : place ys (d, i) = k := place_of hk hq (fun c' h => by rw [hcc] at h; cases h; exact hct)
     refine J_drawI none [fld b o [.slice (some ⟨bx, ox, none⟩) (ys.map encT).length cap], row 184 3 (.slice (some ⟨bx, ox, none⟩) (ys.map encT).length cap) (ys.map encT), blk b5 36 (encI i)] mixed ?_
     refine I_take (i := 1) rfl rfl rfl rfl (by kernel_rfl) (fun _ _ _ _ h => h) (fun _ => Pur.vl (p_move rfl)) ?_
     refine I_take (i := 2) rfl rfl rfl rfl (by kernel_rfl) (fun _ _ _ _ h => h) (fun _ => Pur.vl (p_nilCheck rfl)) ?_
     refine I_take (i := 3) rfl rfl rfl rfl (by kernel_rfl) (fun _ _ _ _ h => h) (fun _ => Pur.vl (p_fieldAddr rfl fa144_0)) ?_
     refine I_take (i := 4) rfl rfl rfl rfl (by kernel_rfl) (fun _ _ _ _ h => h) (fun _ => v_loadL rfl ty142 HS rfl (by exact rfl)) ?_
     refine I_take (i := 5) rfl rfl rfl rfl (by kernel_rfl) (fun _ _ _ _ h => h) (fun _ => Pur.vl (p_move rfl)) ?_
     refine I_take (i := 6) rfl rfl rfl rfl (by kernel_rfl) (fun _ _ _ _ h => h) (fun _ => Pur.vl (p_slice rfl Try.underlying142 ty184 rfl rfl (by omega) (by omega) (by omega))) ?_
     refine J_slot (t := 62) (v := .slice (some ⟨bx, ox, none⟩) k cap) rfl (by simp [Addr.add]) ?_
     refine I_take (i := 8) rfl rfl rfl rfl (by kernel_rfl) (fun _ _ _ _ h => h) (fun _ => Pur.vl (p_move rfl)) ?_
     refine I_take (i := 9) rfl rfl rfl rfl (by kernel_rfl) (fun _ _ _ _ h => h) (fun _ => v_loadA rfl ty36 HS CT) ?_
     refine I_take (i := 10) rfl rfl rfl rfl (by kernel_rfl) (fun _ _ _ _ h => h) (fun _ => Pur.vl (bld184 (.cons rfl (.cons rfl .nil)) (by repeat constructor))) ?_
     refine I_ready (rs := [0, 11]) SI (by kernel_rfl) (by simp) ?_
     refine (I_cons rfl ?_ (I_cons rfl ?_ I_nil))
     ·
      refine x_lit (vals := []) Try.underlying142 ty184 rfl .nil .nil Wf.nil rfl (by decide) rfl rfl fun v56 => ?_
      refine J_row .here fun hw56 a56 c56 hv56 hl56 hm56 hz56 => ?_
      subst hv56
      refine I_ready (rs := [7, 11]) SI (by kernel_rfl) (by simp) ?_
      refine (I_cons rfl ?_ (I_cons rfl ?_ I_nil))
      ·
       refine x_app rfl rfl Try.underlying142 ty184 rfl rfl PC (fun w H => Reads.take (i := k) (sep_reads (xs := ys.map encT) HS H) (by omega)) (by first | omega | (simp <;> omega)) (by first | omega | (simp <;> omega)) rfl fun v63 => ?_
       refine J_rowEq (ys := (ys.take k).map encT) (by simp [List.map_take]) ?_
       refine J_row .here fun hw63 a63 c63 hv63 hl63 hm63 hz63 => ?_
       subst hv63
       refine I_one (i := 11) SI (by kernel_rfl) rfl ?_
       refine x_lit (vals := [_]) Try.underlying142 ty184 rfl (.cons rfl .nil) (.agg .nil) (Wf.cons rfl rfl Wf.nil) rfl (by decide) rfl rfl fun v67 => ?_
       refine J_row .here fun hw67 a67 c67 hv67 hl67 hm67 hz67 => ?_
       subst hv67
       refine I_one (i := 12) SI (by kernel_rfl) rfl ?_
       refine x_app rfl rfl Try.underlying142 ty184 rfl rfl PC (fun w H => sep_reads HS H) (by first | omega | (simp <;> omega)) (by first | omega | (simp <;> omega)) rfl fun v68 => ?_
       refine J_rowEq (ys := (ys.take k ++ [(d, i)]).map encT) (by simp [encT]) ?_
       refine J_row .here fun hw68 a68 c68 hv68 hl68 hm68 hz68 => ?_
       subst hv68
       refine I_take (i := 13) rfl rfl rfl rfl (by kernel_rfl) (fun _ _ _ _ h => h) (fun _ => Pur.vl (p_assign rfl)) ?_
       refine I_done SI (by kernel_rfl) ?_
       refine Q_then ?_
       refine J_region ?_
       refine L_pur rfl (p_move rfl) ?_
       refine L_pur rfl (p_move rfl) ?_
       refine L_pur rfl (p_move rfl) ?_
       refine L_pur rfl (p_nilCheck rfl) ?_
       refine L_pur rfl (p_fieldAddr rfl fa144_0) ?_
       refine L_val rfl (v_loadL rfl ty142 HS rfl (by exact rfl)) ?_
       refine L_pur rfl (p_move rfl) ?_
       refine L_pur rfl (p_slice rfl Try.underlying142 ty184 rfl rfl (by omega) (by omega) (by omega)) ?_
       refine L_op (x_app rfl rfl Try.underlying142 ty184 rfl rfl PC (by first | exact fun w H => Reads.drop (a0 := a) (len := (ys.map encT).length) (cap := cap) (lo := k) (sep_reads (xs := ys.map encT) HS H) (by omega) | exact fun w H => Reads.drop (a0 := some ⟨bx, ox, none⟩) (len := (ys.map encT).length) (cap := cap) (lo := k) (sep_reads (xs := ys.map encT) HS H) (by omega)) (by first | omega | (simp <;> omega)) (by first | omega | (simp <;> omega)) rfl fun v77 => ?_)
       refine J_rowEq (ys := (hpush xs (d, i)).map encT) (by unfold hpush putT; rw [← hys, hpk]; simp) ?_
       refine J_row .here fun hw77 a77 c77 hv77 hl77 hm77 hz77 => ?_
       subst hv77
       refine L_pur rfl (p_nilCheck rfl) ?_
       refine L_pur rfl (p_fieldAddr rfl fa144_0) ?_
       refine L_op (x_storeL rfl rfl ty142 rfl (by first | rfl | (simp [*]; done)) (by first | rfl | (simp [*]; done)) rfl RO rfl PT ?_)
       refine L_nil ?_
       refine J_endnormal ?_
       refine J_hrS (b := b) (o := o) (xs := hpush xs (d, i)) _ PX (by unfold hpush; rw [← hys]; exact hs.put hne) ?_
       exact J_return (()) Try.results78 .nil rfl SU
      ·
       refine x_lit (vals := [_]) Try.underlying142 ty184 rfl (.cons rfl .nil) (.agg .nil) (Wf.cons rfl rfl Wf.nil) rfl (by decide) rfl rfl fun v67 => ?_
       refine J_row .here fun hw67 a67 c67 hv67 hl67 hm67 hz67 => ?_
       subst hv67
       refine I_one (i := 7) SI (by kernel_rfl) rfl ?_
       refine x_app rfl rfl Try.underlying142 ty184 rfl rfl PC (fun w H => Reads.take (i := k) (sep_reads (xs := ys.map encT) HS H) (by omega)) (by first | omega | (simp <;> omega)) (by first | omega | (simp <;> omega)) rfl fun v63 => ?_
       refine J_rowEq (ys := (ys.take k).map encT) (by simp [List.map_take]) ?_
       refine J_row .here fun hw63 a63 c63 hv63 hl63 hm63 hz63 => ?_
       subst hv63
       refine I_one (i := 12) SI (by kernel_rfl) rfl ?_
       refine x_app rfl rfl Try.underlying142 ty184 rfl rfl PC (fun w H => sep_reads HS H) (by first | omega | (simp <;> omega)) (by first | omega | (simp <;> omega)) rfl fun v68 => ?_
       refine J_rowEq (ys := (ys.take k ++ [(d, i)]).map encT) (by simp [encT]) ?_
       refine J_row .here fun hw68 a68 c68 hv68 hl68 hm68 hz68 => ?_
       subst hv68
       refine I_take (i := 13) rfl rfl rfl rfl (by kernel_rfl) (fun _ _ _ _ h => h) (fun _ => Pur.vl (p_assign rfl)) ?_
       refine I_done SI (by kernel_rfl) ?_
       refine Q_then ?_
       refine J_region ?_
       refine L_pur rfl (p_move rfl) ?_
       refine L_pur rfl (p_move rfl) ?_
       refine L_pur rfl (p_move rfl) ?_
       refine L_pur rfl (p_nilCheck rfl) ?_
       refine L_pur rfl (p_fieldAddr rfl fa144_0) ?_
       refine L_val rfl (v_loadL rfl ty142 HS rfl (by exact rfl)) ?_
       refine L_pur rfl (p_move rfl) ?_
       refine L_pur rfl (p_slice rfl Try.underlying142 ty184 rfl rfl (by omega) (by omega) (by omega)) ?_
       refine L_op (x_app rfl rfl Try.underlying142 ty184 rfl rfl PC (by first | exact fun w H => Reads.drop (a0 := a) (len := (ys.map encT).length) (cap := cap) (lo := k) (sep_reads (xs := ys.map encT) HS H) (by omega) | exact fun w H => Reads.drop (a0 := some ⟨bx, ox, none⟩) (len := (ys.map encT).length) (cap := cap) (lo := k) (sep_reads (xs := ys.map encT) HS H) (by omega)) (by first | omega | (simp <;> omega)) (by first | omega | (simp <;> omega)) rfl fun v77 => ?_)
       refine J_rowEq (ys := (hpush xs (d, i)).map encT) (by unfold hpush putT; rw [← hys, hpk]; simp) ?_
       refine J_row .here fun hw77 a77 c77 hv77 hl77 hm77 hz77 => ?_
       subst hv77
       refine L_pur rfl (p_nilCheck rfl) ?_
       refine L_pur rfl (p_fieldAddr rfl fa144_0) ?_
       refine L_op (x_storeL rfl rfl ty142 rfl (by first | rfl | (simp [*]; done)) (by first | rfl | (simp [*]; done)) rfl RO rfl PT ?_)
       refine L_nil ?_
       refine J_endnormal ?_
       refine J_hrS (b := b) (o := o) (xs := hpush xs (d, i)) _ PX (by unfold hpush; rw [← hys]; exact hs.put hne) ?_
       exact J_return (()) Try.results78 .nil rfl SU
     ·
      refine x_lit (vals := [_]) Try.underlying142 ty184 rfl (.cons rfl .nil) (.agg .nil) (Wf.cons rfl rfl Wf.nil) rfl (by decide) rfl rfl fun v67 => ?_
      refine J_row .here fun hw67 a67 c67 hv67 hl67 hm67 hz67 => ?_
      subst hv67
      refine I_one (i := 0) SI (by kernel_rfl) rfl ?_
      refine x_lit (vals := []) Try.underlying142 ty184 rfl .nil .nil Wf.nil rfl (by decide) rfl rfl fun v56 => ?_
      refine J_row .here fun hw56 a56 c56 hv56 hl56 hm56 hz56 => ?_
      subst hv56
      refine I_one (i := 7) SI (by kernel_rfl) rfl ?_
      refine x_app rfl rfl Try.underlying142 ty184 rfl rfl PC (fun w H => Reads.take (i := k) (sep_reads (xs := ys.map encT) HS H) (by omega)) (by first | omega | (simp <;> omega)) (by first | omega | (simp <;> omega)) rfl fun v63 => ?_
      refine J_rowEq (ys := (ys.take k).map encT) (by simp [List.map_take]) ?_
      refine J_row .here fun hw63 a63 c63 hv63 hl63 hm63 hz63 => ?_
      subst hv63
      refine I_one (i := 12) SI (by kernel_rfl) rfl ?_
      refine x_app rfl rfl Try.underlying142 ty184 rfl rfl PC (fun w H => sep_reads HS H) (by first | omega | (simp <;> omega)) (by first | omega | (simp <;> omega)) rfl fun v68 => ?_
      refine J_rowEq (ys := (ys.take k ++ [(d, i)]).map encT) (by simp [encT]) ?_
      refine J_row .here fun hw68 a68 c68 hv68 hl68 hm68 hz68 => ?_
      subst hv68
      refine I_take (i := 13) rfl rfl rfl rfl (by kernel_rfl) (fun _ _ _ _ h => h) (fun _ => Pur.vl (p_assign rfl)) ?_
      refine I_done SI (by kernel_rfl) ?_
      refine Q_then ?_
      refine J_region ?_
      refine L_pur rfl (p_move rfl) ?_
      refine L_pur rfl (p_move rfl) ?_
      refine L_pur rfl (p_move rfl) ?_
      refine L_pur rfl (p_nilCheck rfl) ?_
      refine L_pur rfl (p_fieldAddr rfl fa144_0) ?_
      refine L_val rfl (v_loadL rfl ty142 HS rfl (by exact rfl)) ?_
      refine L_pur rfl (p_move rfl) ?_
      refine L_pur rfl (p_slice rfl Try.underlying142 ty184 rfl rfl (by omega) (by omega) (by omega)) ?_
      refine L_op (x_app rfl rfl Try.underlying142 ty184 rfl rfl PC (by first | exact fun w H => Reads.drop (a0 := a) (len := (ys.map encT).length) (cap := cap) (lo := k) (sep_reads (xs := ys.map encT) HS H) (by omega) | exact fun w H => Reads.drop (a0 := some ⟨bx, ox, none⟩) (len := (ys.map encT).length) (cap := cap) (lo := k) (sep_reads (xs := ys.map encT) HS H) (by omega)) (by first | omega | (simp <;> omega)) (by first | omega | (simp <;> omega)) rfl fun v77 => ?_)
      refine J_rowEq (ys := (hpush xs (d, i)).map encT) (by unfold hpush putT; rw [← hys, hpk]; simp) ?_
      refine J_row .here fun hw77 a77 c77 hv77 hl77 hm77 hz77 => ?_
      subst hv77
      refine L_pur rfl (p_nilCheck rfl) ?_
      refine L_pur rfl (p_fieldAddr rfl fa144_0) ?_
      refine L_op (x_storeL rfl rfl ty142 rfl (by first | rfl | (simp [*]; done)) (by first | rfl | (simp [*]; done)) rfl RO rfl PT ?_)
      refine L_nil ?_
      refine J_endnormal ?_
      refine J_hrS (b := b) (o := o) (xs := hpush xs (d, i)) _ PX (by unfold hpush; rw [← hys]; exact hs.put hne) ?_
      exact J_return (()) Try.results78 .nil rfl SU
   ·
    have hct : ltT c (d, i) = false := by simp at h29 h40; simp [ltT, h40]; omega
    refine S_off rfl rfl rfl rfl rfl ?_
    refine S_off rfl rfl rfl rfl rfl ?_
    refine S_off rfl rfl rfl rfl rfl ?_
    refine S_off rfl rfl rfl rfl rfl ?_
    refine S_off rfl rfl rfl rfl rfl ?_
    refine S_off rfl rfl rfl rfl rfl ?_
    refine S_off rfl rfl rfl rfl rfl ?_
    refine S_off rfl rfl rfl rfl rfl ?_
    refine S_off rfl rfl rfl rfl rfl ?_
    refine S_nil ?_
    refine L_op (G_off rfl rfl rfl rfl rfl rfl ?_)
    refine L_op (G_on rfl rfl rfl ?_)
    refine J_pur (p_pick_f rfl rfl) rfl rfl rfl ?_
    refine L_op (G_on rfl rfl rfl ?_)
    refine J_pur (p_pick_f rfl rfl) rfl rfl rfl ?_
    refine L_pur rfl (p_pick_t rfl rfl) ?_
    refine L_nil ?_
    refine Q_then ?_
    refine C_false rfl ?_
    refine J_exit ?_
    refine Q_then_exit ?_
    refine Q_then_exit ?_
    refine Q_blk_this ?_
    refine Q_then ?_
    refine J_seq ?_
    have hpk : place ys (d, i) = k := place_of hk hq (fun c' h => by rw [hcc] at h; cases h; exact hct)
    refine J_drawI none [fld b o [.slice (some ⟨bx, ox, none⟩) (ys.map encT).length cap], row 184 3 (.slice (some ⟨bx, ox, none⟩) (ys.map encT).length cap) (ys.map encT), blk b5 36 (encI i)] mixed ?_
    refine I_take (i := 1) rfl rfl rfl rfl (by kernel_rfl) (fun _ _ _ _ h => h) (fun _ => Pur.vl (p_move rfl)) ?_
    refine I_take (i := 2) rfl rfl rfl rfl (by kernel_rfl) (fun _ _ _ _ h => h) (fun _ => Pur.vl (p_nilCheck rfl)) ?_
    refine I_take (i := 3) rfl rfl rfl rfl (by kernel_rfl) (fun _ _ _ _ h => h) (fun _ => Pur.vl (p_fieldAddr rfl fa144_0)) ?_
    refine I_take (i := 4) rfl rfl rfl rfl (by kernel_rfl) (fun _ _ _ _ h => h) (fun _ => v_loadL rfl ty142 HS rfl (by exact rfl)) ?_
    refine I_take (i := 5) rfl rfl rfl rfl (by kernel_rfl) (fun _ _ _ _ h => h) (fun _ => Pur.vl (p_move rfl)) ?_
    refine I_take (i := 6) rfl rfl rfl rfl (by kernel_rfl) (fun _ _ _ _ h => h) (fun _ => Pur.vl (p_slice rfl Try.underlying142 ty184 rfl rfl (by omega) (by omega) (by omega))) ?_
    refine J_slot (t := 62) (v := .slice (some ⟨bx, ox, none⟩) k cap) rfl (by simp [Addr.add]) ?_
    refine I_take (i := 8) rfl rfl rfl rfl (by kernel_rfl) (fun _ _ _ _ h => h) (fun _ => Pur.vl (p_move rfl)) ?_
    refine I_take (i := 9) rfl rfl rfl rfl (by kernel_rfl) (fun _ _ _ _ h => h) (fun _ => v_loadA rfl ty36 HS CT) ?_
    refine I_take (i := 10) rfl rfl rfl rfl (by kernel_rfl) (fun _ _ _ _ h => h) (fun _ => Pur.vl (bld184 (.cons rfl (.cons rfl .nil)) (by repeat constructor))) ?_
    refine I_ready (rs := [0, 11]) SI (by kernel_rfl) (by simp) ?_
    refine (I_cons rfl ?_ (I_cons rfl ?_ I_nil))
    ·
     refine x_lit (vals := []) Try.underlying142 ty184 rfl .nil .nil Wf.nil rfl (by decide) rfl rfl fun v56 => ?_
     refine J_row .here fun hw56 a56 c56 hv56 hl56 hm56 hz56 => ?_
     subst hv56
     refine I_ready (rs := [7, 11]) SI (by kernel_rfl) (by simp) ?_
     refine (I_cons rfl ?_ (I_cons rfl ?_ I_nil))
     ·
      refine x_app rfl rfl Try.underlying142 ty184 rfl rfl PC (fun w H => Reads.take (i := k) (sep_reads (xs := ys.map encT) HS H) (by omega)) (by first | omega | (simp <;> omega)) (by first | omega | (simp <;> omega)) rfl fun v63 => ?_
      refine J_rowEq (ys := (ys.take k).map encT) (by simp [List.map_take]) ?_
      refine J_row .here fun hw63 a63 c63 hv63 hl63 hm63 hz63 => ?_
      subst hv63
      refine I_one (i := 11) SI (by kernel_rfl) rfl ?_
      refine x_lit (vals := [_]) Try.underlying142 ty184 rfl (.cons rfl .nil) (.agg .nil) (Wf.cons rfl rfl Wf.nil) rfl (by decide) rfl rfl fun v67 => ?_
      refine J_row .here fun hw67 a67 c67 hv67 hl67 hm67 hz67 => ?_
      subst hv67
      refine I_one (i := 12) SI (by kernel_rfl) rfl ?_
      refine x_app rfl rfl Try.underlying142 ty184 rfl rfl PC (fun w H => sep_reads HS H) (by first | omega | (simp <;> omega)) (by first | omega | (simp <;> omega)) rfl fun v68 => ?_
      refine J_rowEq (ys := (ys.take k ++ [(d, i)]).map encT) (by simp [encT]) ?_
      refine J_row .here fun hw68 a68 c68 hv68 hl68 hm68 hz68 => ?_
      subst hv68
      refine I_take (i := 13) rfl rfl rfl rfl (by kernel_rfl) (fun _ _ _ _ h => h) (fun _ => Pur.vl (p_assign rfl)) ?_
      refine I_done SI (by kernel_rfl) ?_
      refine Q_then ?_
      refine J_region ?_
      refine L_pur rfl (p_move rfl) ?_
      refine L_pur rfl (p_move rfl) ?_
      refine L_pur rfl (p_move rfl) ?_
      refine L_pur rfl (p_nilCheck rfl) ?_
      refine L_pur rfl (p_fieldAddr rfl fa144_0) ?_
      refine L_val rfl (v_loadL rfl ty142 HS rfl (by exact rfl)) ?_
      refine L_pur rfl (p_move rfl) ?_
      refine L_pur rfl (p_slice rfl Try.underlying142 ty184 rfl rfl (by omega) (by omega) (by omega)) ?_
      refine L_op (x_app rfl rfl Try.underlying142 ty184 rfl rfl PC (by first | exact fun w H => Reads.drop (a0 := a) (len := (ys.map encT).length) (cap := cap) (lo := k) (sep_reads (xs := ys.map encT) HS H) (by omega) | exact fun w H => Reads.drop (a0 := some ⟨bx, ox, none⟩) (len := (ys.map encT).length) (cap := cap) (lo := k) (sep_reads (xs := ys.map encT) HS H) (by omega)) (by first | omega | (simp <;> omega)) (by first | omega | (simp <;> omega)) rfl fun v77 => ?_)
      refine J_rowEq (ys := (hpush xs (d, i)).map encT) (by unfold hpush putT; rw [← hys, hpk]; simp) ?_
      refine J_row .here fun hw77 a77 c77 hv77 hl77 hm77 hz77 => ?_
      subst hv77
      refine L_pur rfl (p_nilCheck rfl) ?_
      refine L_pur rfl (p_fieldAddr rfl fa144_0) ?_
      refine L_op (x_storeL rfl rfl ty142 rfl (by first | rfl | (simp [*]; done)) (by first | rfl | (simp [*]; done)) rfl RO rfl PT ?_)
      refine L_nil ?_
      refine J_endnormal ?_
      refine J_hrS (b := b) (o := o) (xs := hpush xs (d, i)) _ PX (by unfold hpush; rw [← hys]; exact hs.put hne) ?_
      exact J_return (()) Try.results78 .nil rfl SU
     ·
      refine x_lit (vals := [_]) Try.underlying142 ty184 rfl (.cons rfl .nil) (.agg .nil) (Wf.cons rfl rfl Wf.nil) rfl (by decide) rfl rfl fun v67 => ?_
      refine J_row .here fun hw67 a67 c67 hv67 hl67 hm67 hz67 => ?_
      subst hv67
      refine I_one (i := 7) SI (by kernel_rfl) rfl ?_
      refine x_app rfl rfl Try.underlying142 ty184 rfl rfl PC (fun w H => Reads.take (i := k) (sep_reads (xs := ys.map encT) HS H) (by omega)) (by first | omega | (simp <;> omega)) (by first | omega | (simp <;> omega)) rfl fun v63 => ?_
      refine J_rowEq (ys := (ys.take k).map encT) (by simp [List.map_take]) ?_
      refine J_row .here fun hw63 a63 c63 hv63 hl63 hm63 hz63 => ?_
      subst hv63
      refine I_one (i := 12) SI (by kernel_rfl) rfl ?_
      refine x_app rfl rfl Try.underlying142 ty184 rfl rfl PC (fun w H => sep_reads HS H) (by first | omega | (simp <;> omega)) (by first | omega | (simp <;> omega)) rfl fun v68 => ?_
      refine J_rowEq (ys := (ys.take k ++ [(d, i)]).map encT) (by simp [encT]) ?_
      refine J_row .here fun hw68 a68 c68 hv68 hl68 hm68 hz68 => ?_
      subst hv68
      refine I_take (i := 13) rfl rfl rfl rfl (by kernel_rfl) (fun _ _ _ _ h => h) (fun _ => Pur.vl (p_assign rfl)) ?_
      refine I_done SI (by kernel_rfl) ?_
      refine Q_then ?_
      refine J_region ?_
      refine L_pur rfl (p_move rfl) ?_
      refine L_pur rfl (p_move rfl) ?_
      refine L_pur rfl (p_move rfl) ?_
      refine L_pur rfl (p_nilCheck rfl) ?_
      refine L_pur rfl (p_fieldAddr rfl fa144_0) ?_
      refine L_val rfl (v_loadL rfl ty142 HS rfl (by exact rfl)) ?_
      refine L_pur rfl (p_move rfl) ?_
      refine L_pur rfl (p_slice rfl Try.underlying142 ty184 rfl rfl (by omega) (by omega) (by omega)) ?_
      refine L_op (x_app rfl rfl Try.underlying142 ty184 rfl rfl PC (by first | exact fun w H => Reads.drop (a0 := a) (len := (ys.map encT).length) (cap := cap) (lo := k) (sep_reads (xs := ys.map encT) HS H) (by omega) | exact fun w H => Reads.drop (a0 := some ⟨bx, ox, none⟩) (len := (ys.map encT).length) (cap := cap) (lo := k) (sep_reads (xs := ys.map encT) HS H) (by omega)) (by first | omega | (simp <;> omega)) (by first | omega | (simp <;> omega)) rfl fun v77 => ?_)
      refine J_rowEq (ys := (hpush xs (d, i)).map encT) (by unfold hpush putT; rw [← hys, hpk]; simp) ?_
      refine J_row .here fun hw77 a77 c77 hv77 hl77 hm77 hz77 => ?_
      subst hv77
      refine L_pur rfl (p_nilCheck rfl) ?_
      refine L_pur rfl (p_fieldAddr rfl fa144_0) ?_
      refine L_op (x_storeL rfl rfl ty142 rfl (by first | rfl | (simp [*]; done)) (by first | rfl | (simp [*]; done)) rfl RO rfl PT ?_)
      refine L_nil ?_
      refine J_endnormal ?_
      refine J_hrS (b := b) (o := o) (xs := hpush xs (d, i)) _ PX (by unfold hpush; rw [← hys]; exact hs.put hne) ?_
      exact J_return (()) Try.results78 .nil rfl SU
    ·
     refine x_lit (vals := [_]) Try.underlying142 ty184 rfl (.cons rfl .nil) (.agg .nil) (Wf.cons rfl rfl Wf.nil) rfl (by decide) rfl rfl fun v67 => ?_
     refine J_row .here fun hw67 a67 c67 hv67 hl67 hm67 hz67 => ?_
     subst hv67
     refine I_one (i := 0) SI (by kernel_rfl) rfl ?_
     refine x_lit (vals := []) Try.underlying142 ty184 rfl .nil .nil Wf.nil rfl (by decide) rfl rfl fun v56 => ?_
     refine J_row .here fun hw56 a56 c56 hv56 hl56 hm56 hz56 => ?_
     subst hv56
     refine I_one (i := 7) SI (by kernel_rfl) rfl ?_
     refine x_app rfl rfl Try.underlying142 ty184 rfl rfl PC (fun w H => Reads.take (i := k) (sep_reads (xs := ys.map encT) HS H) (by omega)) (by first | omega | (simp <;> omega)) (by first | omega | (simp <;> omega)) rfl fun v63 => ?_
     refine J_rowEq (ys := (ys.take k).map encT) (by simp [List.map_take]) ?_
     refine J_row .here fun hw63 a63 c63 hv63 hl63 hm63 hz63 => ?_
     subst hv63
     refine I_one (i := 12) SI (by kernel_rfl) rfl ?_
     refine x_app rfl rfl Try.underlying142 ty184 rfl rfl PC (fun w H => sep_reads HS H) (by first | omega | (simp <;> omega)) (by first | omega | (simp <;> omega)) rfl fun v68 => ?_
     refine J_rowEq (ys := (ys.take k ++ [(d, i)]).map encT) (by simp [encT]) ?_
     refine J_row .here fun hw68 a68 c68 hv68 hl68 hm68 hz68 => ?_
     subst hv68
     refine I_take (i := 13) rfl rfl rfl rfl (by kernel_rfl) (fun _ _ _ _ h => h) (fun _ => Pur.vl (p_assign rfl)) ?_
     refine I_done SI (by kernel_rfl) ?_
     refine Q_then ?_
     refine J_region ?_
     refine L_pur rfl (p_move rfl) ?_
     refine L_pur rfl (p_move rfl) ?_
     refine L_pur rfl (p_move rfl) ?_
     refine L_pur rfl (p_nilCheck rfl) ?_
     refine L_pur rfl (p_fieldAddr rfl fa144_0) ?_
     refine L_val rfl (v_loadL rfl ty142 HS rfl (by exact rfl)) ?_
     refine L_pur rfl (p_move rfl) ?_
     refine L_pur rfl (p_slice rfl Try.underlying142 ty184 rfl rfl (by omega) (by omega) (by omega)) ?_
     refine L_op (x_app rfl rfl Try.underlying142 ty184 rfl rfl PC (by first | exact fun w H => Reads.drop (a0 := a) (len := (ys.map encT).length) (cap := cap) (lo := k) (sep_reads (xs := ys.map encT) HS H) (by omega) | exact fun w H => Reads.drop (a0 := some ⟨bx, ox, none⟩) (len := (ys.map encT).length) (cap := cap) (lo := k) (sep_reads (xs := ys.map encT) HS H) (by omega)) (by first | omega | (simp <;> omega)) (by first | omega | (simp <;> omega)) rfl fun v77 => ?_)
     refine J_rowEq (ys := (hpush xs (d, i)).map encT) (by unfold hpush putT; rw [← hys, hpk]; simp) ?_
     refine J_row .here fun hw77 a77 c77 hv77 hl77 hm77 hz77 => ?_
     subst hv77
     refine L_pur rfl (p_nilCheck rfl) ?_
     refine L_pur rfl (p_fieldAddr rfl fa144_0) ?_
     refine L_op (x_storeL rfl rfl ty142 rfl (by first | rfl | (simp [*]; done)) (by first | rfl | (simp [*]; done)) rfl RO rfl PT ?_)
     refine L_nil ?_
     refine J_endnormal ?_
     refine J_hrS (b := b) (o := o) (xs := hpush xs (d, i)) _ PX (by unfold hpush; rw [← hys]; exact hs.put hne) ?_
     exact J_return (()) Try.results78 .nil rfl SU
 ·
  have hkl : k = ys.length := by simp at h18; omega
  refine S_off rfl rfl rfl rfl rfl ?_
  refine S_off rfl rfl rfl rfl rfl ?_
  refine S_off rfl rfl rfl rfl rfl ?_
  refine S_off rfl rfl rfl rfl rfl ?_
  refine S_off rfl rfl rfl rfl rfl ?_
  refine S_off rfl rfl rfl rfl rfl ?_
  refine S_off rfl rfl rfl rfl rfl ?_
  refine S_off rfl rfl rfl rfl rfl ?_
  refine S_off rfl rfl rfl rfl rfl ?_
  refine S_off rfl rfl rfl rfl rfl ?_
  refine S_off rfl rfl rfl rfl rfl ?_
  refine S_offU rfl rfl rfl rfl ?_
  refine S_offU rfl rfl rfl rfl ?_
  refine S_offU rfl rfl rfl rfl ?_
  refine S_offU rfl rfl rfl rfl ?_
  refine S_offU rfl rfl rfl rfl ?_
  refine S_offU rfl rfl rfl rfl ?_
  refine S_offU rfl rfl rfl rfl ?_
  refine S_offU rfl rfl rfl rfl ?_
  refine S_offU rfl rfl rfl rfl ?_
  refine S_offU rfl rfl rfl rfl ?_
  refine S_offU rfl rfl rfl rfl ?_
  refine S_offU rfl rfl rfl rfl ?_
  refine S_offU rfl rfl rfl rfl ?_
  refine S_offU rfl rfl rfl rfl ?_
  refine S_offU rfl rfl rfl rfl ?_
  refine S_offU rfl rfl rfl rfl ?_
  refine S_offU rfl rfl rfl rfl ?_
  refine S_offU rfl rfl rfl rfl ?_
  refine S_offU rfl rfl rfl rfl ?_
  refine S_offU rfl rfl rfl rfl ?_
  refine S_nil ?_
  refine L_op (G_offU rfl rfl rfl rfl rfl ?_)
  refine L_op (G_offU rfl rfl rfl rfl rfl ?_)
  refine L_op (G_off rfl rfl rfl rfl rfl rfl ?_)
  refine L_pur rfl (p_pick_f rfl rfl) ?_
  refine L_nil ?_
  refine Q_then ?_
  refine C_false rfl ?_
  refine J_exit ?_
  refine Q_then_exit ?_
  refine Q_then_exit ?_
  refine Q_blk_this ?_
  refine Q_then ?_
  refine J_seq ?_
  have hpk : place ys (d, i) = k := place_of hk hq (fun c' h => by rw [hkl, List.getElem?_eq_none (Nat.le_refl _)] at h; cases h)
  refine J_drawI none [fld b o [.slice a (ys.map encT).length cap], row 184 3 (.slice a (ys.map encT).length cap) (ys.map encT), blk b5 36 (encI i)] mixed ?_
  refine I_take (i := 1) rfl rfl rfl rfl (by kernel_rfl) (fun _ _ _ _ h => h) (fun _ => Pur.vl (p_move rfl)) ?_
  refine I_take (i := 2) rfl rfl rfl rfl (by kernel_rfl) (fun _ _ _ _ h => h) (fun _ => Pur.vl (p_nilCheck rfl)) ?_
  refine I_take (i := 3) rfl rfl rfl rfl (by kernel_rfl) (fun _ _ _ _ h => h) (fun _ => Pur.vl (p_fieldAddr rfl fa144_0)) ?_
  refine I_take (i := 4) rfl rfl rfl rfl (by kernel_rfl) (fun _ _ _ _ h => h) (fun _ => v_loadL rfl ty142 HS rfl (by exact rfl)) ?_
  refine I_take (i := 5) rfl rfl rfl rfl (by kernel_rfl) (fun _ _ _ _ h => h) (fun _ => Pur.vl (p_move rfl)) ?_
  refine I_take (i := 6) rfl rfl rfl rfl (by kernel_rfl) (fun _ _ _ _ h => h) (fun _ => Pur.vl (p_slice rfl Try.underlying142 ty184 rfl rfl (by omega) (by omega) (by omega))) ?_
  refine J_slot (t := 62) (v := .slice a k cap) rfl (by cases a <;> simp [Addr.add]) ?_
  refine I_take (i := 8) rfl rfl rfl rfl (by kernel_rfl) (fun _ _ _ _ h => h) (fun _ => Pur.vl (p_move rfl)) ?_
  refine I_take (i := 9) rfl rfl rfl rfl (by kernel_rfl) (fun _ _ _ _ h => h) (fun _ => v_loadA rfl ty36 HS CT) ?_
  refine I_take (i := 10) rfl rfl rfl rfl (by kernel_rfl) (fun _ _ _ _ h => h) (fun _ => Pur.vl (bld184 (.cons rfl (.cons rfl .nil)) (by repeat constructor))) ?_
  refine I_ready (rs := [0, 11]) SI (by kernel_rfl) (by simp) ?_
  refine (I_cons rfl ?_ (I_cons rfl ?_ I_nil))
  ·
   refine x_lit (vals := []) Try.underlying142 ty184 rfl .nil .nil Wf.nil rfl (by decide) rfl rfl fun v56 => ?_
   refine J_row .here fun hw56 a56 c56 hv56 hl56 hm56 hz56 => ?_
   subst hv56
   refine I_ready (rs := [7, 11]) SI (by kernel_rfl) (by simp) ?_
   refine (I_cons rfl ?_ (I_cons rfl ?_ I_nil))
   ·
    refine x_app rfl rfl Try.underlying142 ty184 rfl rfl PC (fun w H => Reads.take (i := k) (sep_reads (xs := ys.map encT) HS H) (by omega)) (by first | omega | (simp <;> omega)) (by first | omega | (simp <;> omega)) rfl fun v63 => ?_
    refine J_rowEq (ys := (ys.take k).map encT) (by simp [List.map_take]) ?_
    refine J_row .here fun hw63 a63 c63 hv63 hl63 hm63 hz63 => ?_
    subst hv63
    refine I_one (i := 11) SI (by kernel_rfl) rfl ?_
    refine x_lit (vals := [_]) Try.underlying142 ty184 rfl (.cons rfl .nil) (.agg .nil) (Wf.cons rfl rfl Wf.nil) rfl (by decide) rfl rfl fun v67 => ?_
    refine J_row .here fun hw67 a67 c67 hv67 hl67 hm67 hz67 => ?_
    subst hv67
    refine I_one (i := 12) SI (by kernel_rfl) rfl ?_
    refine x_app rfl rfl Try.underlying142 ty184 rfl rfl PC (fun w H => sep_reads HS H) (by first | omega | (simp <;> omega)) (by first | omega | (simp <;> omega)) rfl fun v68 => ?_
    refine J_rowEq (ys := (ys.take k ++ [(d, i)]).map encT) (by simp [encT]) ?_
    refine J_row .here fun hw68 a68 c68 hv68 hl68 hm68 hz68 => ?_
    subst hv68
    refine I_take (i := 13) rfl rfl rfl rfl (by kernel_rfl) (fun _ _ _ _ h => h) (fun _ => Pur.vl (p_assign rfl)) ?_
    refine I_done SI (by kernel_rfl) ?_
    refine Q_then ?_
    refine J_region ?_
    refine L_pur rfl (p_move rfl) ?_
    refine L_pur rfl (p_move rfl) ?_
    refine L_pur rfl (p_move rfl) ?_
    refine L_pur rfl (p_nilCheck rfl) ?_
    refine L_pur rfl (p_fieldAddr rfl fa144_0) ?_
    refine L_val rfl (v_loadL rfl ty142 HS rfl (by exact rfl)) ?_
    refine L_pur rfl (p_move rfl) ?_
    refine L_pur rfl (p_slice rfl Try.underlying142 ty184 rfl rfl (by omega) (by omega) (by omega)) ?_
    refine L_op (x_app rfl rfl Try.underlying142 ty184 rfl rfl PC (by first | exact fun w H => Reads.drop (a0 := a) (len := (ys.map encT).length) (cap := cap) (lo := k) (sep_reads (xs := ys.map encT) HS H) (by omega) | exact fun w H => Reads.drop (a0 := some ⟨bx, ox, none⟩) (len := (ys.map encT).length) (cap := cap) (lo := k) (sep_reads (xs := ys.map encT) HS H) (by omega)) (by first | omega | (simp <;> omega)) (by first | omega | (simp <;> omega)) rfl fun v77 => ?_)
    refine J_rowEq (ys := (hpush xs (d, i)).map encT) (by unfold hpush putT; rw [← hys, hpk]; simp) ?_
    refine J_row .here fun hw77 a77 c77 hv77 hl77 hm77 hz77 => ?_
    subst hv77
    refine L_pur rfl (p_nilCheck rfl) ?_
    refine L_pur rfl (p_fieldAddr rfl fa144_0) ?_
    refine L_op (x_storeL rfl rfl ty142 rfl (by first | rfl | (simp [*]; done)) (by first | rfl | (simp [*]; done)) rfl RO rfl PT ?_)
    refine L_nil ?_
    refine J_endnormal ?_
    refine J_hrS (b := b) (o := o) (xs := hpush xs (d, i)) _ PX (by unfold hpush; rw [← hys]; exact hs.put hne) ?_
    exact J_return (()) Try.results78 .nil rfl SU
   ·
    refine x_lit (vals := [_]) Try.underlying142 ty184 rfl (.cons rfl .nil) (.agg .nil) (Wf.cons rfl rfl Wf.nil) rfl (by decide) rfl rfl fun v67 => ?_
    refine J_row .here fun hw67 a67 c67 hv67 hl67 hm67 hz67 => ?_
    subst hv67
    refine I_one (i := 7) SI (by kernel_rfl) rfl ?_
    refine x_app rfl rfl Try.underlying142 ty184 rfl rfl PC (fun w H => Reads.take (i := k) (sep_reads (xs := ys.map encT) HS H) (by omega)) (by first | omega | (simp <;> omega)) (by first | omega | (simp <;> omega)) rfl fun v63 => ?_
    refine J_rowEq (ys := (ys.take k).map encT) (by simp [List.map_take]) ?_
    refine J_row .here fun hw63 a63 c63 hv63 hl63 hm63 hz63 => ?_
    subst hv63
    refine I_one (i := 12) SI (by kernel_rfl) rfl ?_
    refine x_app rfl rfl Try.underlying142 ty184 rfl rfl PC (fun w H => sep_reads HS H) (by first | omega | (simp <;> omega)) (by first | omega | (simp <;> omega)) rfl fun v68 => ?_
    refine J_rowEq (ys := (ys.take k ++ [(d, i)]).map encT) (by simp [encT]) ?_
    refine J_row .here fun hw68 a68 c68 hv68 hl68 hm68 hz68 => ?_
    subst hv68
    refine I_take (i := 13) rfl rfl rfl rfl (by kernel_rfl) (fun _ _ _ _ h => h) (fun _ => Pur.vl (p_assign rfl)) ?_
    refine I_done SI (by kernel_rfl) ?_
    refine Q_then ?_
    refine J_region ?_
    refine L_pur rfl (p_move rfl) ?_
    refine L_pur rfl (p_move rfl) ?_
    refine L_pur rfl (p_move rfl) ?_
    refine L_pur rfl (p_nilCheck rfl) ?_
    refine L_pur rfl (p_fieldAddr rfl fa144_0) ?_
    refine L_val rfl (v_loadL rfl ty142 HS rfl (by exact rfl)) ?_
    refine L_pur rfl (p_move rfl) ?_
    refine L_pur rfl (p_slice rfl Try.underlying142 ty184 rfl rfl (by omega) (by omega) (by omega)) ?_
    refine L_op (x_app rfl rfl Try.underlying142 ty184 rfl rfl PC (by first | exact fun w H => Reads.drop (a0 := a) (len := (ys.map encT).length) (cap := cap) (lo := k) (sep_reads (xs := ys.map encT) HS H) (by omega) | exact fun w H => Reads.drop (a0 := some ⟨bx, ox, none⟩) (len := (ys.map encT).length) (cap := cap) (lo := k) (sep_reads (xs := ys.map encT) HS H) (by omega)) (by first | omega | (simp <;> omega)) (by first | omega | (simp <;> omega)) rfl fun v77 => ?_)
    refine J_rowEq (ys := (hpush xs (d, i)).map encT) (by unfold hpush putT; rw [← hys, hpk]; simp) ?_
    refine J_row .here fun hw77 a77 c77 hv77 hl77 hm77 hz77 => ?_
    subst hv77
    refine L_pur rfl (p_nilCheck rfl) ?_
    refine L_pur rfl (p_fieldAddr rfl fa144_0) ?_
    refine L_op (x_storeL rfl rfl ty142 rfl (by first | rfl | (simp [*]; done)) (by first | rfl | (simp [*]; done)) rfl RO rfl PT ?_)
    refine L_nil ?_
    refine J_endnormal ?_
    refine J_hrS (b := b) (o := o) (xs := hpush xs (d, i)) _ PX (by unfold hpush; rw [← hys]; exact hs.put hne) ?_
    exact J_return (()) Try.results78 .nil rfl SU
  ·
   refine x_lit (vals := [_]) Try.underlying142 ty184 rfl (.cons rfl .nil) (.agg .nil) (Wf.cons rfl rfl Wf.nil) rfl (by decide) rfl rfl fun v67 => ?_
   refine J_row .here fun hw67 a67 c67 hv67 hl67 hm67 hz67 => ?_
   subst hv67
   refine I_one (i := 0) SI (by kernel_rfl) rfl ?_
   refine x_lit (vals := []) Try.underlying142 ty184 rfl .nil .nil Wf.nil rfl (by decide) rfl rfl fun v56 => ?_
   refine J_row .here fun hw56 a56 c56 hv56 hl56 hm56 hz56 => ?_
   subst hv56
   refine I_one (i := 7) SI (by kernel_rfl) rfl ?_
   refine x_app rfl rfl Try.underlying142 ty184 rfl rfl PC (fun w H => Reads.take (i := k) (sep_reads (xs := ys.map encT) HS H) (by omega)) (by first | omega | (simp <;> omega)) (by first | omega | (simp <;> omega)) rfl fun v63 => ?_
   refine J_rowEq (ys := (ys.take k).map encT) (by simp [List.map_take]) ?_
   refine J_row .here fun hw63 a63 c63 hv63 hl63 hm63 hz63 => ?_
   subst hv63
   refine I_one (i := 12) SI (by kernel_rfl) rfl ?_
   refine x_app rfl rfl Try.underlying142 ty184 rfl rfl PC (fun w H => sep_reads HS H) (by first | omega | (simp <;> omega)) (by first | omega | (simp <;> omega)) rfl fun v68 => ?_
   refine J_rowEq (ys := (ys.take k ++ [(d, i)]).map encT) (by simp [encT]) ?_
   refine J_row .here fun hw68 a68 c68 hv68 hl68 hm68 hz68 => ?_
   subst hv68
   refine I_take (i := 13) rfl rfl rfl rfl (by kernel_rfl) (fun _ _ _ _ h => h) (fun _ => Pur.vl (p_assign rfl)) ?_
   refine I_done SI (by kernel_rfl) ?_
   refine Q_then ?_
   refine J_region ?_
   refine L_pur rfl (p_move rfl) ?_
   refine L_pur rfl (p_move rfl) ?_
   refine L_pur rfl (p_move rfl) ?_
   refine L_pur rfl (p_nilCheck rfl) ?_
   refine L_pur rfl (p_fieldAddr rfl fa144_0) ?_
   refine L_val rfl (v_loadL rfl ty142 HS rfl (by exact rfl)) ?_
   refine L_pur rfl (p_move rfl) ?_
   refine L_pur rfl (p_slice rfl Try.underlying142 ty184 rfl rfl (by omega) (by omega) (by omega)) ?_
   refine L_op (x_app rfl rfl Try.underlying142 ty184 rfl rfl PC (by first | exact fun w H => Reads.drop (a0 := a) (len := (ys.map encT).length) (cap := cap) (lo := k) (sep_reads (xs := ys.map encT) HS H) (by omega) | exact fun w H => Reads.drop (a0 := some ⟨bx, ox, none⟩) (len := (ys.map encT).length) (cap := cap) (lo := k) (sep_reads (xs := ys.map encT) HS H) (by omega)) (by first | omega | (simp <;> omega)) (by first | omega | (simp <;> omega)) rfl fun v77 => ?_)
   refine J_rowEq (ys := (hpush xs (d, i)).map encT) (by unfold hpush putT; rw [← hys, hpk]; simp) ?_
   refine J_row .here fun hw77 a77 c77 hv77 hl77 hm77 hz77 => ?_
   subst hv77
   refine L_pur rfl (p_nilCheck rfl) ?_
   refine L_pur rfl (p_fieldAddr rfl fa144_0) ?_
   refine L_op (x_storeL rfl rfl ty142 rfl (by first | rfl | (simp [*]; done)) (by first | rfl | (simp [*]; done)) rfl RO rfl PT ?_)
   refine L_nil ?_
   refine J_endnormal ?_
   refine J_hrS (b := b) (o := o) (xs := hpush xs (d, i)) _ PX (by unfold hpush; rw [← hys]; exact hs.put hne) ?_
   exact J_return (()) Try.results78 .nil rfl SU

end Go.Pse
