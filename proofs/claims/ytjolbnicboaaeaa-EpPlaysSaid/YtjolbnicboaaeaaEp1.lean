/-
  Contracts: slices.Clone, Delete, IndexFunc, DeleteFunc at messages and receivers.
-/
import Derived.Test.YtjolbnicboaaeaaTy
import Derived.Test.YtjolbnicboaaeaaMore
namespace Go.Pse
open Go.RowKit Go.Proofs

set_option maxRecDepth 100000 in
set_option maxHeartbeats 4000000 in
theorem clone87 {E : World} {l : List As} {v : Value} {xs : List (List Value)} (hr : ∀ w, Sep E w l → Reads w 5 v xs) (hb : xs.length ≤ 1000000) :
  Con Try.prog 87 #[v] E l (fun v' : Value => v') (fun v' => row 56 5 v' xs :: l) := by
 refine Con.body (vs := [v]) (n := 8) Try.func87 rfl rfl [(0, v)] (env_ok 1 rfl) ?_
 refine J_reads hr fun hw a cap hv h1 h2 h3 => ?_
 subst hv
 refine J_seq ?_
 refine J_region ?_
 refine L_pur rfl (p_assign rfl) ?_
 refine L_nil ?_
 refine Q_then ?_
 refine J_seq ?_
 refine J_seq ?_
 refine J_region ?_
 refine L_pur rfl (p_move rfl) ?_
 refine L_pur rfl (p_eqnil Try.underlying47 rfl) ?_
 refine L_nil ?_
 refine Q_then ?_
 refine C_split rfl (fun h4 => ?_) (fun h4 => ?_)
 ·
  obtain rfl : a = none := by simpa using h4
  obtain ⟨rfl, rfl⟩ := h3 rfl
  refine J_nil (el := 56) (sz := 5) ?_
  refine J_seq ?_
  refine J_region ?_
  refine L_pur rfl (p_assign rfl) ?_
  refine L_nil ?_
  refine Q_then ?_
  refine J_ret ?_
  refine Q_then_ret ?_
  exact J_return (_) Try.results87 (.tmp rfl .nil) rfl SU
 ·
  refine J_skip ?_
  refine Q_then ?_
  refine J_seq ?_
  refine J_region ?_
  refine L_op (x_lit (vals := []) Try.underlying47 ty56 rfl .nil .nil Wf.nil rfl (by decide) rfl rfl fun v5 => ?_)
  refine J_row .here fun hw5 a5 c5 hv5 hl5 hm5 hz5 => ?_
  subst hv5
  refine L_pur rfl (p_move rfl) ?_
  refine L_op (x_app rfl rfl Try.underlying47 ty56 rfl rfl PC (fun w H => hr w H.tail) (by first | omega | (simp <;> omega)) (by first | omega | (simp <;> omega)) rfl fun v7 => ?_)
  refine J_row .here fun hw7 a7 c7 hv7 hl7 hm7 hz7 => ?_
  subst hv7
  refine L_pur rfl (p_assign rfl) ?_
  refine L_nil ?_
  refine Q_then ?_
  refine J_ret ?_
  exact J_return (_) Try.results87 (.tmp rfl .nil) rfl SU

set_option maxRecDepth 100000 in
set_option maxHeartbeats 4000000 in
theorem clone88 {E : World} {l : List As} {v : Value} {xs : List (List Value)} (hr : ∀ w, Sep E w l → Reads w 3 v xs) (hb : xs.length ≤ 1000000) :
  Con Try.prog 88 #[v] E l (fun v' : Value => v') (fun v' => row 52 3 v' xs :: l) := by
 refine Con.body (vs := [v]) (n := 8) Try.func88 rfl rfl [(0, v)] (env_ok 1 rfl) ?_
 refine J_reads hr fun hw a cap hv h1 h2 h3 => ?_
 subst hv
 refine J_seq ?_
 refine J_region ?_
 refine L_pur rfl (p_assign rfl) ?_
 refine L_nil ?_
 refine Q_then ?_
 refine J_seq ?_
 refine J_seq ?_
 refine J_region ?_
 refine L_pur rfl (p_move rfl) ?_
 refine L_pur rfl (p_eqnil Try.underlying48 rfl) ?_
 refine L_nil ?_
 refine Q_then ?_
 refine C_split rfl (fun h4 => ?_) (fun h4 => ?_)
 ·
  obtain rfl : a = none := by simpa using h4
  obtain ⟨rfl, rfl⟩ := h3 rfl
  refine J_nil (el := 52) (sz := 3) ?_
  refine J_seq ?_
  refine J_region ?_
  refine L_pur rfl (p_assign rfl) ?_
  refine L_nil ?_
  refine Q_then ?_
  refine J_ret ?_
  refine Q_then_ret ?_
  exact J_return (_) Try.results88 (.tmp rfl .nil) rfl SU
 ·
  refine J_skip ?_
  refine Q_then ?_
  refine J_seq ?_
  refine J_region ?_
  refine L_op (x_lit (vals := []) Try.underlying48 ty52 rfl .nil .nil Wf.nil rfl (by decide) rfl rfl fun v5 => ?_)
  refine J_row .here fun hw5 a5 c5 hv5 hl5 hm5 hz5 => ?_
  subst hv5
  refine L_pur rfl (p_move rfl) ?_
  refine L_op (x_app rfl rfl Try.underlying48 ty52 rfl rfl PC (fun w H => hr w H.tail) (by first | omega | (simp <;> omega)) (by first | omega | (simp <;> omega)) rfl fun v7 => ?_)
  refine J_row .here fun hw7 a7 c7 hv7 hl7 hm7 hz7 => ?_
  subst hv7
  refine L_pur rfl (p_assign rfl) ?_
  refine L_nil ?_
  refine Q_then ?_
  refine J_ret ?_
  exact J_return (_) Try.results88 (.tmp rfl .nil) rfl SU

set_option maxRecDepth 100000 in
set_option maxHeartbeats 4000000 in
theorem delete85 {E : World} {l m : List As} {v : Value} {c : List Value} {xs : List (List Value)} (hp : Pick (row 52 3 v (c :: xs)) l m) :
  Con Try.prog 85 #[v, .int .i64 0, .int .i64 1] E l (fun v' : Value => v') (fun v' => row 52 3 v' xs :: m) := by
 refine Con.body (vs := [v, .int .i64 0, .int .i64 1]) (n := 33) Try.func85 rfl rfl [(0, v), (1, .int .i64 0), (2, .int .i64 1)] (env_ok 3 rfl) ?_
 refine J_pick hp ?_
 refine J_row .here fun hw a cap hv h1 h2 h3 => ?_
 obtain ⟨b, o, rfl⟩ := h3 (by simp)
 subst hv
 have hl : (c :: xs).length = xs.length + 1 := rfl
 have hm : cap ≤ 9223372036854775807 := h2
 refine J_seq ?_
 refine J_region ?_
 refine L_pur rfl (p_assign rfl) ?_
 refine L_nil ?_
 refine Q_then ?_
 refine J_seq ?_
 refine J_region ?_
 refine L_pur rfl (p_move rfl) ?_
 refine L_pur rfl (p_move rfl) ?_
 refine L_pur rfl (p_move rfl) ?_
 refine L_pur rfl (p_move rfl) ?_
 refine L_pur rfl (p_len rfl Try.underlying48) ?_
 refine L_pur rfl (p_slice3 rfl Try.underlying48 ty52 rfl rfl rfl (by omega) (by omega) (by omega) (by omega)) ?_
 refine L_nil ?_
 refine Q_then ?_
 refine J_seq ?_
 refine J_seq ?_
 refine J_region ?_
 refine L_pur rfl (p_move rfl) ?_
 refine L_pur rfl (p_move rfl) ?_
 refine L_pur rfl (p_eql rfl rfl) ?_
 refine L_nil ?_
 refine Q_then ?_
 refine J_bool (t := 16) (c := false) rfl (by decide) ?_
 refine C_false rfl ?_
 refine J_skip ?_
 refine Q_then ?_
 refine J_seq ?_
 refine J_region ?_
 refine L_pur rfl (p_move rfl) ?_
 refine L_pur rfl (p_len rfl Try.underlying48) ?_
 refine L_pur rfl (p_assign rfl) ?_
 refine L_nil ?_
 refine Q_then ?_
 refine J_seq ?_
 refine J_drawT 6 mixed (by kernel_rfl) ?_
 refine S_val rfl (Pur.vl (p_move rfl)) ?_
 refine S_val rfl (Pur.vl (p_move rfl)) ?_
 refine S_val rfl (Pur.vl (p_slice rfl Try.underlying48 ty52 rfl rfl (by omega) (by omega) (by omega))) ?_
 refine J_slot (t := 22) (v := .slice (some ⟨b, o, none⟩) 0 cap) rfl (by simp [Addr.add]) ?_
 refine S_val rfl (Pur.vl (p_move rfl)) ?_
 refine S_val rfl (Pur.vl (p_move rfl)) ?_
 refine S_val rfl (Pur.vl (p_slice rfl Try.underlying48 ty52 rfl rfl (by omega) (by omega) (by omega))) ?_
 refine S_nil ?_
 refine L_op (x_appIn (ys := xs) (len := (c :: xs).length) rfl rfl Try.underlying48 ty52 PC (fun w H => (sep_reads HS H).drop (lo := 1) (by omega)) (by omega) rfl ?_)
 refine L_pur rfl (p_assign rfl) ?_
 refine L_nil ?_
 refine Q_then ?_
 refine J_seq ?_
 refine J_region ?_
 refine L_pur rfl (p_move rfl) ?_
 refine L_pur rfl (p_move rfl) ?_
 refine L_pur rfl (p_len rfl Try.underlying48) ?_
 refine L_pur rfl (p_move rfl) ?_
 refine L_pur rfl (p_slice rfl Try.underlying48 ty52 rfl rfl (by omega) (by omega) (by omega)) ?_
 refine L_op (x_clear (len := (c :: xs).length) rfl Try.underlying48 ty52 rfl rfl PC (by simp) ?_)
 refine J_take (k := 0 + xs.length) (by simp) ?_
 refine J_rowEq (ys := xs) (by simp) ?_
 refine L_nil ?_
 refine Q_then ?_
 refine J_seq ?_
 refine J_region ?_
 refine L_pur rfl (p_move rfl) ?_
 refine L_pur rfl (p_assign rfl) ?_
 refine L_nil ?_
 refine Q_then ?_
 refine J_ret ?_
 exact J_return (_) Try.results85 (.tmp rfl .nil) rfl SU

set_option maxRecDepth 100000 in
set_option maxHeartbeats 4000000 in
theorem delete86 {E : World} {l m : List As} {v : Value} {c : List Value} {xs : List (List Value)} (hp : Pick (row 56 5 v (c :: xs)) l m) :
  Con Try.prog 86 #[v, .int .i64 0, .int .i64 1] E l (fun v' : Value => v') (fun v' => row 56 5 v' xs :: m) := by
 refine Con.body (vs := [v, .int .i64 0, .int .i64 1]) (n := 33) Try.func86 rfl rfl [(0, v), (1, .int .i64 0), (2, .int .i64 1)] (env_ok 3 rfl) ?_
 refine J_pick hp ?_
 refine J_row .here fun hw a cap hv h1 h2 h3 => ?_
 obtain ⟨b, o, rfl⟩ := h3 (by simp)
 subst hv
 have hl : (c :: xs).length = xs.length + 1 := rfl
 have hm : cap ≤ 9223372036854775807 := h2
 refine J_seq ?_
 refine J_region ?_
 refine L_pur rfl (p_assign rfl) ?_
 refine L_nil ?_
 refine Q_then ?_
 refine J_seq ?_
 refine J_region ?_
 refine L_pur rfl (p_move rfl) ?_
 refine L_pur rfl (p_move rfl) ?_
 refine L_pur rfl (p_move rfl) ?_
 refine L_pur rfl (p_move rfl) ?_
 refine L_pur rfl (p_len rfl Try.underlying47) ?_
 refine L_pur rfl (p_slice3 rfl Try.underlying47 ty56 rfl rfl rfl (by omega) (by omega) (by omega) (by omega)) ?_
 refine L_nil ?_
 refine Q_then ?_
 refine J_seq ?_
 refine J_seq ?_
 refine J_region ?_
 refine L_pur rfl (p_move rfl) ?_
 refine L_pur rfl (p_move rfl) ?_
 refine L_pur rfl (p_eql rfl rfl) ?_
 refine L_nil ?_
 refine Q_then ?_
 refine J_bool (t := 16) (c := false) rfl (by decide) ?_
 refine C_false rfl ?_
 refine J_skip ?_
 refine Q_then ?_
 refine J_seq ?_
 refine J_region ?_
 refine L_pur rfl (p_move rfl) ?_
 refine L_pur rfl (p_len rfl Try.underlying47) ?_
 refine L_pur rfl (p_assign rfl) ?_
 refine L_nil ?_
 refine Q_then ?_
 refine J_seq ?_
 refine J_drawT 6 mixed (by kernel_rfl) ?_
 refine S_val rfl (Pur.vl (p_move rfl)) ?_
 refine S_val rfl (Pur.vl (p_move rfl)) ?_
 refine S_val rfl (Pur.vl (p_slice rfl Try.underlying47 ty56 rfl rfl (by omega) (by omega) (by omega))) ?_
 refine J_slot (t := 22) (v := .slice (some ⟨b, o, none⟩) 0 cap) rfl (by simp [Addr.add]) ?_
 refine S_val rfl (Pur.vl (p_move rfl)) ?_
 refine S_val rfl (Pur.vl (p_move rfl)) ?_
 refine S_val rfl (Pur.vl (p_slice rfl Try.underlying47 ty56 rfl rfl (by omega) (by omega) (by omega))) ?_
 refine S_nil ?_
 refine L_op (x_appIn (ys := xs) (len := (c :: xs).length) rfl rfl Try.underlying47 ty56 PC (fun w H => (sep_reads HS H).drop (lo := 1) (by omega)) (by omega) rfl ?_)
 refine L_pur rfl (p_assign rfl) ?_
 refine L_nil ?_
 refine Q_then ?_
 refine J_seq ?_
 refine J_region ?_
 refine L_pur rfl (p_move rfl) ?_
 refine L_pur rfl (p_move rfl) ?_
 refine L_pur rfl (p_len rfl Try.underlying47) ?_
 refine L_pur rfl (p_move rfl) ?_
 refine L_pur rfl (p_slice rfl Try.underlying47 ty56 rfl rfl (by omega) (by omega) (by omega)) ?_
 refine L_op (x_clear (len := (c :: xs).length) rfl Try.underlying47 ty56 rfl rfl PC (by simp) ?_)
 refine J_take (k := 0 + xs.length) (by simp) ?_
 refine J_rowEq (ys := xs) (by simp) ?_
 refine L_nil ?_
 refine Q_then ?_
 refine J_seq ?_
 refine J_region ?_
 refine L_pur rfl (p_move rfl) ?_
 refine L_pur rfl (p_assign rfl) ?_
 refine L_nil ?_
 refine Q_then ?_
 refine J_ret ?_
 exact J_return (_) Try.results86 (.tmp rfl .nil) rfl SU

set_option maxRecDepth 100000 in
set_option maxHeartbeats 4000000 in
theorem indexfunc113 {E : World} {l : List As} {v : Value} {α : Type} {enc : α → List Value} {xs : List α} {g : FuncId} {caps : Array Value} {fn : Func} (hf : Try.prog.funcs[g]? = some fn) (hn : (fn.name == "runtime.NumGoroutine") = false) (hb : fn.body.isNone = false) {q : α → Bool} {C : As} (hg : ∀ (l' : List As) (c : α), Has C l' → Con Try.prog g (#[.agg (enc c).toArray] ++ caps) E l' (fun _ : Unit => .bool (q c)) (fun _ => l')) (hv : Has (row 56 5 v (xs.map enc)) l) (hc : Has C l) :
    Con Try.prog 113 #[v, .func (.func g) #[] caps] E l (fun _ : Unit => .int .i64 (idx q xs)) (fun _ => l) := by
  refine Con.body (vs := [v, .func (.func g) #[] caps]) (n := 19) Try.func113 rfl rfl [(0, v), (1, .func (.func g) #[] caps)] (env_ok 2 rfl) ?_
  refine J_row hv fun hw a cap hv h1 h2 h3 => ?_
  subst hv
  have hm : cap ≤ 9223372036854775807 := h2
  have hml : (xs.map enc).length = xs.length := List.length_map _
  refine J_seq ?_
  refine J_region ?_
  refine L_pur rfl (p_assign rfl) ?_
  refine L_nil ?_
  refine Q_then ?_
  refine J_seq ?_
  refine J_seq ?_
  refine J_region ?_
  refine L_pur rfl (p_move rfl) ?_
  refine L_pur rfl (p_len rfl Try.underlying47) ?_
  refine L_pur rfl (p_move rfl) ?_
  refine L_nil ?_
  refine Q_then ?_
  refine J_block ?_
  refine J_loop (α := Nat) (fun i => i ≤ xs.length ∧ ∀ c ∈ xs.take i, q c = false) (fun _ => l) (fun i => [(8, .int .i64 (i : Int)), (7, .int .i64 (xs.map enc).length), (0, .slice a (xs.map enc).length cap), (1, .func (.func g) #[] caps)]) (fun i => xs.length - i) 0 ⟨by omega, by simp⟩ SU KE ?_
  intro i ⟨hi, hq⟩
  refine J_seq ?_
  refine J_region ?_
  refine L_pur rfl (p_lss rfl rfl) ?_
  refine L_nil ?_
  refine Q_then ?_
  refine J_seq ?_
  refine C_dec rfl (fun h9 => ?_) (fun h9 => ?_)
  ·
    have hlt : i < xs.length := by omega
    obtain ⟨b, o, rfl⟩ := h3 (by intro h; rw [h] at hml; simp at hml; omega)
    obtain ⟨c, hcc⟩ : ∃ c, xs[i]? = some c := ⟨_, List.getElem?_eq_getElem hlt⟩
    refine J_skip ?_
    refine Q_then ?_
    refine J_seq ?_
    refine J_block ?_
    refine J_seq ?_
    refine J_region ?_
    refine L_pur rfl (p_move rfl) ?_
    refine L_pur rfl (p_assign rfl) ?_
    refine L_nil ?_
    refine Q_then ?_
    refine J_seq ?_
    refine J_region ?_
    refine L_pur rfl (p_move rfl) ?_
    refine L_pur rfl (p_move rfl) ?_
    refine L_pur rfl (p_move rfl) ?_
    refine L_pur rfl (p_indexAddr rfl rfl Try.underlying47 ty56 (by omega) (by omega)) ?_
    refine L_val rfl (v_loadE rfl ty56 HS (by simp only [Int.toNat_natCast, List.getElem?_map, hcc]; rfl)) ?_
    refine L_op (x_callc rfl hf hn hb (.cons rfl .nil) rfl (hg _ c hc) fun _ => ?_)
    refine L_nil ?_
    refine Q_then ?_
    refine C_split rfl (fun h16 => ?_) (fun h16 => ?_)
    ·
      have hidx := idx_here hq hcc h16
      refine J_seq ?_
      refine J_region ?_
      refine L_pur rfl (p_move rfl) ?_
      refine L_pur rfl (p_assign rfl) ?_
      refine L_nil ?_
      refine Q_then ?_
      refine J_ret ?_
      refine Q_blk_ret ?_
      refine Q_then_ret ?_
      refine Q_then_ret ?_
      refine Q_blk_ret ?_
      refine Q_then_ret ?_
      refine J_return (()) Try.results113 (.tmp rfl .nil) ?_ ?_
      · simp [one, hidx]
      · exact SU
    ·
      refine J_skip ?_
      refine Q_blk_normal ?_
      refine Q_then ?_
      refine J_region ?_
      refine L_pur rfl (p_add64 rfl rfl (by omega)) ?_
      refine L_pur rfl (p_move rfl) ?_
      refine L_nil ?_
      refine Q_then ?_
      exact J_again (i + 1) (by omega) (⟨by omega, take_false_succ hq hcc h16⟩) SU KE
  ·
    have hix : i = xs.length := by omega
    rw [hix, List.take_length] at hq
    have hidx := idx_none hq
    refine J_exit ?_
    refine Q_then_exit ?_
    refine Q_then_exit ?_
    refine Q_blk_this ?_
    refine Q_then ?_
    refine J_seq ?_
    refine J_region ?_
    refine L_pur rfl (p_assign rfl) ?_
    refine L_nil ?_
    refine Q_then ?_
    refine J_ret ?_
    refine J_return (()) Try.results113 (.tmp rfl .nil) ?_ ?_
    · simp [one, hidx]
    · exact SU

set_option maxRecDepth 100000 in
set_option maxHeartbeats 4000000 in
theorem indexfunc114 {E : World} {l : List As} {v : Value} {α : Type} {enc : α → List Value} {xs : List α} {g : FuncId} {caps : Array Value} {fn : Func} (hf : Try.prog.funcs[g]? = some fn) (hn : (fn.name == "runtime.NumGoroutine") = false) (hb : fn.body.isNone = false) {q : α → Bool} {C : As} (hg : ∀ (l' : List As) (c : α), Has C l' → Con Try.prog g (#[.agg (enc c).toArray] ++ caps) E l' (fun _ : Unit => .bool (q c)) (fun _ => l')) (hv : Has (row 52 3 v (xs.map enc)) l) (hc : Has C l) :
    Con Try.prog 114 #[v, .func (.func g) #[] caps] E l (fun _ : Unit => .int .i64 (idx q xs)) (fun _ => l) := by
  refine Con.body (vs := [v, .func (.func g) #[] caps]) (n := 19) Try.func114 rfl rfl [(0, v), (1, .func (.func g) #[] caps)] (env_ok 2 rfl) ?_
  refine J_row hv fun hw a cap hv h1 h2 h3 => ?_
  subst hv
  have hm : cap ≤ 9223372036854775807 := h2
  have hml : (xs.map enc).length = xs.length := List.length_map _
  refine J_seq ?_
  refine J_region ?_
  refine L_pur rfl (p_assign rfl) ?_
  refine L_nil ?_
  refine Q_then ?_
  refine J_seq ?_
  refine J_seq ?_
  refine J_region ?_
  refine L_pur rfl (p_move rfl) ?_
  refine L_pur rfl (p_len rfl Try.underlying48) ?_
  refine L_pur rfl (p_move rfl) ?_
  refine L_nil ?_
  refine Q_then ?_
  refine J_block ?_
  refine J_loop (α := Nat) (fun i => i ≤ xs.length ∧ ∀ c ∈ xs.take i, q c = false) (fun _ => l) (fun i => [(8, .int .i64 (i : Int)), (7, .int .i64 (xs.map enc).length), (0, .slice a (xs.map enc).length cap), (1, .func (.func g) #[] caps)]) (fun i => xs.length - i) 0 ⟨by omega, by simp⟩ SU KE ?_
  intro i ⟨hi, hq⟩
  refine J_seq ?_
  refine J_region ?_
  refine L_pur rfl (p_lss rfl rfl) ?_
  refine L_nil ?_
  refine Q_then ?_
  refine J_seq ?_
  refine C_dec rfl (fun h9 => ?_) (fun h9 => ?_)
  ·
    have hlt : i < xs.length := by omega
    obtain ⟨b, o, rfl⟩ := h3 (by intro h; rw [h] at hml; simp at hml; omega)
    obtain ⟨c, hcc⟩ : ∃ c, xs[i]? = some c := ⟨_, List.getElem?_eq_getElem hlt⟩
    refine J_skip ?_
    refine Q_then ?_
    refine J_seq ?_
    refine J_block ?_
    refine J_seq ?_
    refine J_region ?_
    refine L_pur rfl (p_move rfl) ?_
    refine L_pur rfl (p_assign rfl) ?_
    refine L_nil ?_
    refine Q_then ?_
    refine J_seq ?_
    refine J_region ?_
    refine L_pur rfl (p_move rfl) ?_
    refine L_pur rfl (p_move rfl) ?_
    refine L_pur rfl (p_move rfl) ?_
    refine L_pur rfl (p_indexAddr rfl rfl Try.underlying48 ty52 (by omega) (by omega)) ?_
    refine L_val rfl (v_loadE rfl ty52 HS (by simp only [Int.toNat_natCast, List.getElem?_map, hcc]; rfl)) ?_
    refine L_op (x_callc rfl hf hn hb (.cons rfl .nil) rfl (hg _ c hc) fun _ => ?_)
    refine L_nil ?_
    refine Q_then ?_
    refine C_split rfl (fun h16 => ?_) (fun h16 => ?_)
    ·
      have hidx := idx_here hq hcc h16
      refine J_seq ?_
      refine J_region ?_
      refine L_pur rfl (p_move rfl) ?_
      refine L_pur rfl (p_assign rfl) ?_
      refine L_nil ?_
      refine Q_then ?_
      refine J_ret ?_
      refine Q_blk_ret ?_
      refine Q_then_ret ?_
      refine Q_then_ret ?_
      refine Q_blk_ret ?_
      refine Q_then_ret ?_
      refine J_return (()) Try.results114 (.tmp rfl .nil) ?_ ?_
      · simp [one, hidx]
      · exact SU
    ·
      refine J_skip ?_
      refine Q_blk_normal ?_
      refine Q_then ?_
      refine J_region ?_
      refine L_pur rfl (p_add64 rfl rfl (by omega)) ?_
      refine L_pur rfl (p_move rfl) ?_
      refine L_nil ?_
      refine Q_then ?_
      exact J_again (i + 1) (by omega) (⟨by omega, take_false_succ hq hcc h16⟩) SU KE
  ·
    have hix : i = xs.length := by omega
    rw [hix, List.take_length] at hq
    have hidx := idx_none hq
    refine J_exit ?_
    refine Q_then_exit ?_
    refine Q_then_exit ?_
    refine Q_blk_this ?_
    refine Q_then ?_
    refine J_seq ?_
    refine J_region ?_
    refine L_pur rfl (p_assign rfl) ?_
    refine L_nil ?_
    refine Q_then ?_
    refine J_ret ?_
    refine J_return (()) Try.results114 (.tmp rfl .nil) ?_ ?_
    · simp [one, hidx]
    · exact SU

set_option maxRecDepth 100000 in
set_option maxHeartbeats 4000000 in
theorem deletefunc99 {E : World} {l m : List As} {v : Value} {α : Type} {enc : α → List Value} {xs : List α} {g : FuncId} {caps : Array Value} {fn : Func} (hf : Try.prog.funcs[g]? = some fn) (hn : (fn.name == "runtime.NumGoroutine") = false) (hb : fn.body.isNone = false) {q : α → Bool} {C : As} (hg : ∀ (l' : List As) (c : α), Has C l' → Con Try.prog g (#[.agg (enc c).toArray] ++ caps) E l' (fun _ : Unit => .bool (q c)) (fun _ => l')) (hv : Pick (row 56 5 v (xs.map enc)) l m) (hc : Has C m) (hone : ∀ c, ones (enc c) = true) (hlen : ∀ c, (enc c).length = 5) :
  Con Try.prog 99 #[v, .func (.func g) #[] caps] E l (fun v' : Value => v') (fun v' => row 56 5 v' ((xs.filter fun c => !q c).map enc) :: m) := by
 rcases idx_cases q xs with ⟨hi0, hall⟩ | ⟨i0, hi0, hlt0, hpre, c0, hc0, hq0⟩
 ·
  refine Con.body (vs := [v, .func (.func g) #[] caps]) (n := 42) Try.func99 rfl rfl [(0, v), (1, .func (.func g) #[] caps)] (env_ok 2 rfl) ?_
  refine J_pick hv ?_
  refine J_seq ?_
  refine J_region ?_
  refine L_pur rfl (p_assign rfl) ?_
  refine L_nil ?_
  refine Q_then ?_
  refine J_seq ?_
  refine J_region ?_
  refine L_pur rfl (p_move rfl) ?_
  refine L_pur rfl (p_move rfl) ?_
  refine L_op (x_call Try.func113 nm113 bd113 (.cons rfl (.cons rfl .nil)) rfl (indexfunc113 hf hn hb hg .here (.there hc)) fun _ => ?_)
  refine L_pur rfl (p_assign rfl) ?_
  refine L_nil ?_
  refine Q_then ?_
  refine J_seq ?_
  refine J_seq ?_
  refine J_region ?_
  refine L_pur rfl (p_move rfl) ?_
  refine L_pur rfl (p_eql rfl rfl) ?_
  refine L_nil ?_
  refine Q_then ?_
  refine J_bool (t := 12) (c := true) rfl (by simp [hi0]) ?_
  refine C_true rfl ?_
  refine J_seq ?_
  refine J_region ?_
  refine J_rowEq (ys := (xs.filter fun c => !q c).map enc) (by rw [List.filter_eq_self.2 (fun c hc => by simp [hall c hc])]) ?_
  refine L_pur rfl (p_move rfl) ?_
  refine L_pur rfl (p_assign rfl) ?_
  refine L_nil ?_
  refine Q_then ?_
  refine J_ret ?_
  refine Q_then_ret ?_
  exact J_return (_) Try.results99 (.tmp rfl .nil) rfl SU
 ·
  refine Con.body (vs := [v, .func (.func g) #[] caps]) (n := 42) Try.func99 rfl rfl [(0, v), (1, .func (.func g) #[] caps)] (env_ok 2 rfl) ?_
  refine J_pick hv ?_
  refine J_row .here fun hw a cap hv h1 h2 h3 => ?_
  obtain ⟨b, o, rfl⟩ := h3 (by intro h; have := congrArg List.length h; simp at this; subst this; simp at hlt0)
  subst hv
  have hm : cap ≤ 9223372036854775807 := h2
  have hml : (xs.map enc).length = xs.length := List.length_map _
  have hk0 : kept q xs (i0 + 1) = xs.take i0 := kept_first hpre hc0 hq0
  have hl0 : (xs.take i0).length = i0 := by simp; omega
  refine J_seq ?_
  refine J_region ?_
  refine L_pur rfl (p_assign rfl) ?_
  refine L_nil ?_
  refine Q_then ?_
  refine J_seq ?_
  refine J_region ?_
  refine L_pur rfl (p_move rfl) ?_
  refine L_pur rfl (p_move rfl) ?_
  refine L_op (x_call Try.func113 nm113 bd113 (.cons rfl (.cons rfl .nil)) rfl (indexfunc113 hf hn hb hg .here (.there hc)) fun _ => ?_)
  refine J_slot (t := 10) (v := .int .i64 (i0 : Int)) rfl (by rw [hi0]) ?_
  refine L_pur rfl (p_assign rfl) ?_
  refine L_nil ?_
  refine Q_then ?_
  refine J_seq ?_
  refine J_seq ?_
  refine J_region ?_
  refine L_pur rfl (p_move rfl) ?_
  refine L_pur rfl (p_eql rfl rfl) ?_
  refine L_nil ?_
  refine Q_then ?_
  refine J_bool (t := 12) (c := false) rfl (by simp) ?_
  refine C_false rfl ?_
  refine J_skip ?_
  refine Q_then ?_
  refine J_seq ?_
  refine J_seq ?_
  refine J_region ?_
  refine L_pur rfl (p_move rfl) ?_
  refine L_pur rfl (p_add64 rfl rfl (by omega)) ?_
  refine L_pur rfl (p_assign rfl) ?_
  refine L_nil ?_
  refine Q_then ?_
  refine J_block ?_
  refine J_rowEq (ys := (kept q xs (i0 + 1) ++ xs.drop (kept q xs (i0 + 1)).length).map enc) (by rw [hk0, hl0, List.take_append_drop]) ?_
  refine J_slot (t := 5) (v := .int .i64 ((kept q xs (i0 + 1)).length : Int)) rfl (by rw [hk0, hl0]) ?_
  refine J_loop (α := Nat) (fun j => j ≤ xs.length) (fun j => row 56 5 (.slice (some ⟨b, o, none⟩) (xs.map enc).length cap) ((kept q xs j ++ xs.drop (kept q xs j).length).map enc) :: m) (fun j => [(6, .int .i64 (j : Int)), (5, .int .i64 ((kept q xs j).length : Int)), (0, .slice (some ⟨b, o, none⟩) (xs.map enc).length cap), (1, .func (.func g) #[] caps)]) (fun j => xs.length - j) (i0 + 1) (by omega) SU KE ?_
  intro j hj
  have hkl := kept_le q xs j
  refine J_seq ?_
  refine J_seq ?_
  refine J_region ?_
  refine L_pur rfl (p_move rfl) ?_
  refine L_pur rfl (p_move rfl) ?_
  refine L_pur rfl (p_len rfl Try.underlying47) ?_
  refine L_pur rfl (p_lss rfl rfl) ?_
  refine L_nil ?_
  refine Q_then ?_
  refine C_dec rfl (fun h19 => ?_) (fun h19 => ?_)
  ·
   have hlt : j < xs.length := by omega
   obtain ⟨c, hcc⟩ : ∃ c, xs[j]? = some c := ⟨_, List.getElem?_eq_getElem hlt⟩
   refine J_skip ?_
   refine Q_then ?_
   refine J_seq ?_
   refine J_block ?_
   refine J_seq ?_
   refine J_region ?_
   refine L_pur rfl (p_move rfl) ?_
   refine L_pur rfl (p_move rfl) ?_
   refine L_pur rfl (p_indexAddr rfl rfl Try.underlying47 ty56 (by omega) (by omega)) ?_
   refine L_val rfl (v_loadE rfl ty56 HS (by simp only [Int.toNat_natCast, List.getElem?_map, kept_get, hcc]; rfl)) ?_
   refine L_op (x_alloc ty56 rfl fun b7 => ?_)
   refine L_op (x_store rfl rfl ty56 rfl (by first | rfl | (simp [*]; done)) (by first | rfl | (simp [*]; done)) RO PT ?_)
   refine L_nil ?_
   refine Q_then ?_
   refine J_seq ?_
   refine J_region ?_
   refine L_pur rfl (p_move rfl) ?_
   refine L_val rfl (v_loadA rfl ty56 HS CT) ?_
   refine L_op (x_callc rfl hf hn hb (.cons rfl .nil) rfl (hg _ c (.there (.there hc))) fun _ => ?_)
   refine L_pur rfl (p_not rfl) ?_
   refine L_nil ?_
   refine Q_then ?_
   refine C_split rfl (fun h29 => ?_) (fun h29 => ?_)
   ·
    have hqc : q c = false := by simpa using h29
    have hks := kept_set hcc hqc
    have hkl1 : (kept q xs (j + 1)).length = (kept q xs j).length + 1 := by rw [kept_succ hcc, hqc]; simp
    refine J_seq ?_
    refine J_region ?_
    refine L_pur rfl (p_move rfl) ?_
    refine L_pur rfl (p_move rfl) ?_
    refine L_val rfl (v_loadA rfl ty56 HS CT) ?_
    refine L_pur rfl (p_indexAddr rfl rfl Try.underlying47 ty56 (by omega) (by omega)) ?_
    refine L_op (x_storeE (vs := enc c) rfl rfl ty56 rfl (hlen c) (hone c) PC (by first | omega | (simp <;> omega)) ?_)
    refine J_rowEq (ys := (kept q xs (j + 1) ++ xs.drop (kept q xs (j + 1)).length).map enc) (by rw [← hks, List.map_set]; simp) ?_
    refine L_nil ?_
    refine Q_then ?_
    refine J_region ?_
    refine L_pur rfl (p_move rfl) ?_
    refine L_pur rfl (p_add64 rfl rfl (by omega)) ?_
    refine L_pur rfl (p_assign rfl) ?_
    refine L_nil ?_
    refine Q_blk_normal ?_
    refine Q_then ?_
    refine J_region ?_
    refine L_pur rfl (p_move rfl) ?_
    refine L_pur rfl (p_add64 rfl rfl (by omega)) ?_
    refine L_pur rfl (p_assign rfl) ?_
    refine L_nil ?_
    refine Q_then ?_
    refine J_slot (t := 5) (v := .int .i64 ((kept q xs (j + 1)).length : Int)) rfl (by rw [hkl1]; rfl) ?_
    exact J_again (j + 1) (by omega) (by omega) SU KE
   ·
    have hqc : q c = true := by simpa using h29
    have hks : kept q xs (j + 1) = kept q xs j := by rw [kept_succ hcc, hqc]; simp
    refine J_skip ?_
    refine Q_blk_normal ?_
    refine Q_then ?_
    refine J_region ?_
    refine L_pur rfl (p_move rfl) ?_
    refine L_pur rfl (p_add64 rfl rfl (by omega)) ?_
    refine L_pur rfl (p_assign rfl) ?_
    refine L_nil ?_
    refine Q_then ?_
    refine J_slot (t := 5) (v := .int .i64 ((kept q xs (j + 1)).length : Int)) rfl (by rw [hks]) ?_
    refine J_pick (A := row 56 5 (.slice (some ⟨b, o, none⟩) (xs.map enc).length cap) ((kept q xs j ++ xs.drop (kept q xs j).length).map enc)) PC ?_
    refine J_rowEq (ys := (kept q xs (j + 1) ++ xs.drop (kept q xs (j + 1)).length).map enc) (by rw [hks]) ?_
    exact J_again (j + 1) (by omega) (by omega) SU KE
  ·
   have hjx : j = xs.length := by omega
   have hka : kept q xs j = xs.filter fun c => !q c := kept_all (by omega)
   refine J_exit ?_
   refine Q_then_exit ?_
   refine Q_then_exit ?_
   refine Q_blk_this ?_
   refine Q_then ?_
   refine J_seq ?_
   refine J_region ?_
   refine L_pur rfl (p_move rfl) ?_
   refine L_pur rfl (p_move rfl) ?_
   refine L_pur rfl (p_slice rfl Try.underlying47 ty56 rfl rfl (by omega) (by omega) (by omega)) ?_
   refine L_op (x_clear (len := (xs.map enc).length) rfl Try.underlying47 ty56 rfl rfl PC (by first | omega | (simp <;> omega)) ?_)
   refine L_nil ?_
   refine Q_then ?_
   refine J_seq ?_
   refine J_region ?_
   refine L_pur rfl (p_move rfl) ?_
   refine L_pur rfl (p_move rfl) ?_
   refine L_pur rfl (p_slice rfl Try.underlying47 ty56 rfl rfl (by omega) (by omega) (by omega)) ?_
   refine J_take (k := (kept q xs j).length) (by first | omega | (simp <;> omega)) ?_
   refine J_rowTo (v' := .slice (some ⟨b, o, none⟩) (kept q xs j).length cap) (ys := (xs.filter fun c => !q c).map enc) (by simp [hka]) rfl ?_
   refine J_slot (t := 41) (v := .slice (some ⟨b, o, none⟩) (kept q xs j).length cap) rfl (by simp [Addr.add]) ?_
   refine L_pur rfl (p_assign rfl) ?_
   refine L_nil ?_
   refine Q_then ?_
   refine J_ret ?_
   exact J_return (_) Try.results99 (.tmp rfl .nil) rfl SU

set_option maxRecDepth 100000 in
set_option maxHeartbeats 4000000 in
theorem deletefunc101 {E : World} {l m : List As} {v : Value} {α : Type} {enc : α → List Value} {xs : List α} {g : FuncId} {caps : Array Value} {fn : Func} (hf : Try.prog.funcs[g]? = some fn) (hn : (fn.name == "runtime.NumGoroutine") = false) (hb : fn.body.isNone = false) {q : α → Bool} {C : As} (hg : ∀ (l' : List As) (c : α), Has C l' → Con Try.prog g (#[.agg (enc c).toArray] ++ caps) E l' (fun _ : Unit => .bool (q c)) (fun _ => l')) (hv : Pick (row 52 3 v (xs.map enc)) l m) (hc : Has C m) (hone : ∀ c, ones (enc c) = true) (hlen : ∀ c, (enc c).length = 3) :
  Con Try.prog 101 #[v, .func (.func g) #[] caps] E l (fun v' : Value => v') (fun v' => row 52 3 v' ((xs.filter fun c => !q c).map enc) :: m) := by
 rcases idx_cases q xs with ⟨hi0, hall⟩ | ⟨i0, hi0, hlt0, hpre, c0, hc0, hq0⟩
 ·
  refine Con.body (vs := [v, .func (.func g) #[] caps]) (n := 42) Try.func101 rfl rfl [(0, v), (1, .func (.func g) #[] caps)] (env_ok 2 rfl) ?_
  refine J_pick hv ?_
  refine J_seq ?_
  refine J_region ?_
  refine L_pur rfl (p_assign rfl) ?_
  refine L_nil ?_
  refine Q_then ?_
  refine J_seq ?_
  refine J_region ?_
  refine L_pur rfl (p_move rfl) ?_
  refine L_pur rfl (p_move rfl) ?_
  refine L_op (x_call Try.func114 nm114 bd114 (.cons rfl (.cons rfl .nil)) rfl (indexfunc114 hf hn hb hg .here (.there hc)) fun _ => ?_)
  refine L_pur rfl (p_assign rfl) ?_
  refine L_nil ?_
  refine Q_then ?_
  refine J_seq ?_
  refine J_seq ?_
  refine J_region ?_
  refine L_pur rfl (p_move rfl) ?_
  refine L_pur rfl (p_eql rfl rfl) ?_
  refine L_nil ?_
  refine Q_then ?_
  refine J_bool (t := 12) (c := true) rfl (by simp [hi0]) ?_
  refine C_true rfl ?_
  refine J_seq ?_
  refine J_region ?_
  refine J_rowEq (ys := (xs.filter fun c => !q c).map enc) (by rw [List.filter_eq_self.2 (fun c hc => by simp [hall c hc])]) ?_
  refine L_pur rfl (p_move rfl) ?_
  refine L_pur rfl (p_assign rfl) ?_
  refine L_nil ?_
  refine Q_then ?_
  refine J_ret ?_
  refine Q_then_ret ?_
  exact J_return (_) Try.results101 (.tmp rfl .nil) rfl SU
 ·
  refine Con.body (vs := [v, .func (.func g) #[] caps]) (n := 42) Try.func101 rfl rfl [(0, v), (1, .func (.func g) #[] caps)] (env_ok 2 rfl) ?_
  refine J_pick hv ?_
  refine J_row .here fun hw a cap hv h1 h2 h3 => ?_
  obtain ⟨b, o, rfl⟩ := h3 (by intro h; have := congrArg List.length h; simp at this; subst this; simp at hlt0)
  subst hv
  have hm : cap ≤ 9223372036854775807 := h2
  have hml : (xs.map enc).length = xs.length := List.length_map _
  have hk0 : kept q xs (i0 + 1) = xs.take i0 := kept_first hpre hc0 hq0
  have hl0 : (xs.take i0).length = i0 := by simp; omega
  refine J_seq ?_
  refine J_region ?_
  refine L_pur rfl (p_assign rfl) ?_
  refine L_nil ?_
  refine Q_then ?_
  refine J_seq ?_
  refine J_region ?_
  refine L_pur rfl (p_move rfl) ?_
  refine L_pur rfl (p_move rfl) ?_
  refine L_op (x_call Try.func114 nm114 bd114 (.cons rfl (.cons rfl .nil)) rfl (indexfunc114 hf hn hb hg .here (.there hc)) fun _ => ?_)
  refine J_slot (t := 10) (v := .int .i64 (i0 : Int)) rfl (by rw [hi0]) ?_
  refine L_pur rfl (p_assign rfl) ?_
  refine L_nil ?_
  refine Q_then ?_
  refine J_seq ?_
  refine J_seq ?_
  refine J_region ?_
  refine L_pur rfl (p_move rfl) ?_
  refine L_pur rfl (p_eql rfl rfl) ?_
  refine L_nil ?_
  refine Q_then ?_
  refine J_bool (t := 12) (c := false) rfl (by simp) ?_
  refine C_false rfl ?_
  refine J_skip ?_
  refine Q_then ?_
  refine J_seq ?_
  refine J_seq ?_
  refine J_region ?_
  refine L_pur rfl (p_move rfl) ?_
  refine L_pur rfl (p_add64 rfl rfl (by omega)) ?_
  refine L_pur rfl (p_assign rfl) ?_
  refine L_nil ?_
  refine Q_then ?_
  refine J_block ?_
  refine J_rowEq (ys := (kept q xs (i0 + 1) ++ xs.drop (kept q xs (i0 + 1)).length).map enc) (by rw [hk0, hl0, List.take_append_drop]) ?_
  refine J_slot (t := 5) (v := .int .i64 ((kept q xs (i0 + 1)).length : Int)) rfl (by rw [hk0, hl0]) ?_
  refine J_loop (α := Nat) (fun j => j ≤ xs.length) (fun j => row 52 3 (.slice (some ⟨b, o, none⟩) (xs.map enc).length cap) ((kept q xs j ++ xs.drop (kept q xs j).length).map enc) :: m) (fun j => [(6, .int .i64 (j : Int)), (5, .int .i64 ((kept q xs j).length : Int)), (0, .slice (some ⟨b, o, none⟩) (xs.map enc).length cap), (1, .func (.func g) #[] caps)]) (fun j => xs.length - j) (i0 + 1) (by omega) SU KE ?_
  intro j hj
  have hkl := kept_le q xs j
  refine J_seq ?_
  refine J_seq ?_
  refine J_region ?_
  refine L_pur rfl (p_move rfl) ?_
  refine L_pur rfl (p_move rfl) ?_
  refine L_pur rfl (p_len rfl Try.underlying48) ?_
  refine L_pur rfl (p_lss rfl rfl) ?_
  refine L_nil ?_
  refine Q_then ?_
  refine C_dec rfl (fun h19 => ?_) (fun h19 => ?_)
  ·
   have hlt : j < xs.length := by omega
   obtain ⟨c, hcc⟩ : ∃ c, xs[j]? = some c := ⟨_, List.getElem?_eq_getElem hlt⟩
   refine J_skip ?_
   refine Q_then ?_
   refine J_seq ?_
   refine J_block ?_
   refine J_seq ?_
   refine J_region ?_
   refine L_pur rfl (p_move rfl) ?_
   refine L_pur rfl (p_move rfl) ?_
   refine L_pur rfl (p_indexAddr rfl rfl Try.underlying48 ty52 (by omega) (by omega)) ?_
   refine L_val rfl (v_loadE rfl ty52 HS (by simp only [Int.toNat_natCast, List.getElem?_map, kept_get, hcc]; rfl)) ?_
   refine L_op (x_alloc ty52 rfl fun b7 => ?_)
   refine L_op (x_store rfl rfl ty52 rfl (by first | rfl | (simp [*]; done)) (by first | rfl | (simp [*]; done)) RO PT ?_)
   refine L_nil ?_
   refine Q_then ?_
   refine J_seq ?_
   refine J_region ?_
   refine L_pur rfl (p_move rfl) ?_
   refine L_val rfl (v_loadA rfl ty52 HS CT) ?_
   refine L_op (x_callc rfl hf hn hb (.cons rfl .nil) rfl (hg _ c (.there (.there hc))) fun _ => ?_)
   refine L_pur rfl (p_not rfl) ?_
   refine L_nil ?_
   refine Q_then ?_
   refine C_split rfl (fun h29 => ?_) (fun h29 => ?_)
   ·
    have hqc : q c = false := by simpa using h29
    have hks := kept_set hcc hqc
    have hkl1 : (kept q xs (j + 1)).length = (kept q xs j).length + 1 := by rw [kept_succ hcc, hqc]; simp
    refine J_seq ?_
    refine J_region ?_
    refine L_pur rfl (p_move rfl) ?_
    refine L_pur rfl (p_move rfl) ?_
    refine L_val rfl (v_loadA rfl ty52 HS CT) ?_
    refine L_pur rfl (p_indexAddr rfl rfl Try.underlying48 ty52 (by omega) (by omega)) ?_
    refine L_op (x_storeE (vs := enc c) rfl rfl ty52 rfl (hlen c) (hone c) PC (by first | omega | (simp <;> omega)) ?_)
    refine J_rowEq (ys := (kept q xs (j + 1) ++ xs.drop (kept q xs (j + 1)).length).map enc) (by rw [← hks, List.map_set]; simp) ?_
    refine L_nil ?_
    refine Q_then ?_
    refine J_region ?_
    refine L_pur rfl (p_move rfl) ?_
    refine L_pur rfl (p_add64 rfl rfl (by omega)) ?_
    refine L_pur rfl (p_assign rfl) ?_
    refine L_nil ?_
    refine Q_blk_normal ?_
    refine Q_then ?_
    refine J_region ?_
    refine L_pur rfl (p_move rfl) ?_
    refine L_pur rfl (p_add64 rfl rfl (by omega)) ?_
    refine L_pur rfl (p_assign rfl) ?_
    refine L_nil ?_
    refine Q_then ?_
    refine J_slot (t := 5) (v := .int .i64 ((kept q xs (j + 1)).length : Int)) rfl (by rw [hkl1]; rfl) ?_
    exact J_again (j + 1) (by omega) (by omega) SU KE
   ·
    have hqc : q c = true := by simpa using h29
    have hks : kept q xs (j + 1) = kept q xs j := by rw [kept_succ hcc, hqc]; simp
    refine J_skip ?_
    refine Q_blk_normal ?_
    refine Q_then ?_
    refine J_region ?_
    refine L_pur rfl (p_move rfl) ?_
    refine L_pur rfl (p_add64 rfl rfl (by omega)) ?_
    refine L_pur rfl (p_assign rfl) ?_
    refine L_nil ?_
    refine Q_then ?_
    refine J_slot (t := 5) (v := .int .i64 ((kept q xs (j + 1)).length : Int)) rfl (by rw [hks]) ?_
    refine J_pick (A := row 52 3 (.slice (some ⟨b, o, none⟩) (xs.map enc).length cap) ((kept q xs j ++ xs.drop (kept q xs j).length).map enc)) PC ?_
    refine J_rowEq (ys := (kept q xs (j + 1) ++ xs.drop (kept q xs (j + 1)).length).map enc) (by rw [hks]) ?_
    exact J_again (j + 1) (by omega) (by omega) SU KE
  ·
   have hjx : j = xs.length := by omega
   have hka : kept q xs j = xs.filter fun c => !q c := kept_all (by omega)
   refine J_exit ?_
   refine Q_then_exit ?_
   refine Q_then_exit ?_
   refine Q_blk_this ?_
   refine Q_then ?_
   refine J_seq ?_
   refine J_region ?_
   refine L_pur rfl (p_move rfl) ?_
   refine L_pur rfl (p_move rfl) ?_
   refine L_pur rfl (p_slice rfl Try.underlying48 ty52 rfl rfl (by omega) (by omega) (by omega)) ?_
   refine L_op (x_clear (len := (xs.map enc).length) rfl Try.underlying48 ty52 rfl rfl PC (by first | omega | (simp <;> omega)) ?_)
   refine L_nil ?_
   refine Q_then ?_
   refine J_seq ?_
   refine J_region ?_
   refine L_pur rfl (p_move rfl) ?_
   refine L_pur rfl (p_move rfl) ?_
   refine L_pur rfl (p_slice rfl Try.underlying48 ty52 rfl rfl (by omega) (by omega) (by omega)) ?_
   refine J_take (k := (kept q xs j).length) (by first | omega | (simp <;> omega)) ?_
   refine J_rowTo (v' := .slice (some ⟨b, o, none⟩) (kept q xs j).length cap) (ys := (xs.filter fun c => !q c).map enc) (by simp [hka]) rfl ?_
   refine J_slot (t := 41) (v := .slice (some ⟨b, o, none⟩) (kept q xs j).length cap) rfl (by simp [Addr.add]) ?_
   refine L_pur rfl (p_assign rfl) ?_
   refine L_nil ?_
   refine Q_then ?_
   refine J_ret ?_
   exact J_return (_) Try.results101 (.tmp rfl .nil) rfl SU

end Go.Pse
