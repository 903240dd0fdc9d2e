/-
  Own texts, merged: C23, C24, C25, C26, C27, Arg, C28, C29, C30, C31, C32, C33, C34, InvP, C50, C14, C51, C52, C53, C60.
-/
import Derived.Test.YtjhbhjenmijmfaaGreatBC2
import Derived.Test.YtjhbhjenmijmfaaGreatBC0
import Derived.Deep.Slices
import Derived.ChangeSame
import Derived.Carry
set_option linter.unusedVariables false
set_option linter.unusedSimpArgs false
set_option maxRecDepth 100000
set_option maxHeartbeats 4000000
namespace Go.Pse
open Go.RowKit Go.Proofs
theorem ringPost {E : World} {l m : List As} {b mb : Nat} {r : Rg} {ms : List (List Int)} (hp : Picks [rgA b mb r, memA mb ms] l m) {c : Cqe} (hl : r.over.length ≤ 100000) (hR : RgOk r) (hM : MemOk ms) :
    Con Tryz.prog 136 #[.pointer (some ⟨b, 0, none⟩), .agg (encX c).toArray] E l (fun _ : Unit => .bool (postOk r ms)) (fun _ => rgA b mb (postR r ms c) :: memA mb (postM r ms c) :: m) := by
  refine Con.body (vs := [.pointer (some ⟨b, 0, none⟩), .agg (encX c).toArray]) (n := 26) Tryz.func136 rfl rfl [(0, .pointer (some ⟨b, 0, none⟩)), (1, .agg (encX c).toArray)] (env_ok 2 rfl) <| J_picks2 hp <| J_rgO fun v _ => J_row (.there .here) fun hw a cap hv h1 h2 h3 => ?_
  subst hv
  have hm : cap ≤ 9223372036854775807 := h2
  have hml : (r.over.map encX).length = r.over.length := List.length_map _
  refine sr <| L_op <| x_box rfl rfl rfl fun b3 => ag rfl rfl <| nxx <| mv rfl rfl <| nc rfl rfl <| fa rfl rfl fa320_7 ?_
  refine L_val rfl (v_load rfl ty226 HS (by exact rfl)) ?_
  refine L_pur rfl (p_len rfl Tryz.underlying226) <| L_pur rfl (p_eql rfl rfl) <| mv rfl rfl ?_
  refine J_gsplit (t := 11) rfl (fun h11 => ?_) (fun h11 => ?_)
  have he : r.over = [] := by simpa using h11
  refine L_op <| G_on rfl rfl rfl <| J_pur (p_move rfl) rfl rfl rfl <| L_op <| G_on rfl rfl rfl <| J_val (v_loadA rfl ty298 HS CT) rfl rfl rfl ?_
  refine L_op <| G_on rfl rfl rfl <| xc fc194 (.cons rfl (.cons rfl .nil)) rfl (ringWrites (c := c) (r := r) (ms := ms) PX hR hM) fun _ => ?_
  refine L_pur rfl (p_pick_t rfl rfl) <| nq ?_
  refine C_split rfl (fun h15 => ?_) (fun h15 => ?_)
  have hok : postOk r ms = true := by unfold postOk; rw [he, h15]; rfl
  refine sr <| ag rfl rfl <| nq <| J_ret <| Q_then_ret <| J_pick (A := row 298 4 _ _) PC ?_
  refine J_rowEq (ys := (rgUp r).over.map encX) (by rfl) <| J_pick (A := blk b _ _) PC ?_
  refine J_asTo (B := blk b 320 [.pointer (some ⟨mb, 0, none⟩), .int .i64 (rgUp r).sq, .int .i64 (rgUp r).cq, .int .i64 (rgUp r).sb, .int .i64 (rgUp r).cb, .int .u32 (rgUp r).head, .int .u32 (rgUp r).tail, (.slice a (r.over.map encX).length cap)]) (by rw [h15, if_pos rfl]) <| J_pick (A := memA mb _) PC ?_
  refine J_asTo (B := memA mb (ms.set (r.cq - 1).toNat (rgRow r ms c))) (by rw [h15, if_pos rfl]) <| J_rgS (b := b) (mb := mb) (r := rgUp r) _ PX trivial ?_
  refine J_asTo (B := rgA b mb (postR r ms c)) (by rw [postR, hok]; rfl) <| J_pick (A := memA mb _) PC ?_
  refine J_asTo (B := memA mb (postM r ms c)) (by rw [postM, hok]; rfl) ?_
  refine J_return (()) Tryz.results136 (.tmp rfl .nil) ?_ ?_
  · simp [one, hok]
  · exact SU
  have hno : rgWrOk r ms = false := h15
  have hok : postOk r ms = false := by unfold postOk; rw [hno, Bool.and_false]
  refine J_skip <| Q_then <| J_seq <| J_pick (A := blk b _ _) PC ?_
  refine J_asTo (B := blk b 320 [.pointer (some ⟨mb, 0, none⟩), .int .i64 r.sq, .int .i64 r.cq, .int .i64 r.sb, .int .i64 r.cb, .int .u32 r.head, .int .u32 r.tail, (.slice a (r.over.map encX).length cap)]) (by rw [hno, if_neg (by decide)]) <| J_pick (A := memA mb _) PC ?_
  refine J_asTo (B := memA mb ms) (by rw [hno, if_neg (by decide)]) <| J_drawL (some 7) mixed <| ip 0 rfl rfl rfl rfl (p_move rfl) <| ip 1 rfl rfl rfl rfl (p_move rfl) <| ip 2 rfl rfl rfl rfl (p_nilCheck rfl) <| ip 3 rfl rfl rfl rfl (p_fieldAddr rfl fa320_7) <| iv 4 rfl rfl rfl rfl (fun _ => v_load rfl ty226 HS (by exact rfl)) ?_
  refine iv 5 rfl rfl rfl rfl (fun _ => v_loadA rfl ty298 HS CT) ?_
  refine i1 6 rfl <| x_lit (vals := [_]) Tryz.underlying226 ty298 rfl (.cons rfl .nil) (.agg .nil) (Wf.cons rfl rfl Wf.nil) rfl (by decide) rfl rfl <| JR fun a22 c22 hw22 hl22 hm22 hz22 => i1 7 rfl <| x_app rfl rfl Tryz.underlying226 ty298 rfl rfl PC (fun w H => sep_reads HS H) (by simp; omega) (by simp; omega) rfl <| JE ((r.over ++ [c]).map encX) (by simp) fun a23 c23 hw23 hl23 hm23 hz23 => ip 8 rfl rfl rfl rfl (p_nilCheck rfl) <| ip 9 rfl rfl rfl rfl (p_fieldAddr rfl fa320_7) ?_
  refine i1 10 rfl <| x_store rfl rfl ty226 rfl SM SM RO PT ?_
  refine i0 <| qx <| ag rfl rfl <| nq <| J_ret <| J_rgS (b := b) (mb := mb) (r := { r with over := r.over ++ [c] }) _ PX trivial ?_
  refine J_asTo (B := rgA b mb (postR r ms c)) (by rw [postR, hok]; rfl) <| J_pick (A := memA mb _) PC ?_
  refine J_asTo (B := memA mb (postM r ms c)) (by rw [postM, hok]; rfl) ?_
  refine J_return (()) Tryz.results136 (.tmp rfl .nil) ?_ ?_
  · simp [one, hok]
  · exact SU
  have he : r.over.isEmpty = false := by
    cases hov : r.over with
    | nil => rw [hov] at h11; simp at h11
    | cons x xs => rfl
  refine L_op <| G_off rfl rfl rfl rfl rfl rfl <| L_op <| G_off rfl rfl rfl rfl rfl rfl <| L_op <| G_off rfl rfl rfl rfl rfl rfl <| L_pur rfl (p_pick_f rfl rfl) <| nq ?_
  refine C_false rfl <| J_skip <| Q_then <| J_seq ?_
  have hok : postOk r ms = false := by unfold postOk; rw [he]; rfl
  refine J_drawL (some 7) mixed <| ip 0 rfl rfl rfl rfl (p_move rfl) <| ip 1 rfl rfl rfl rfl (p_move rfl) <| ip 2 rfl rfl rfl rfl (p_nilCheck rfl) <| ip 3 rfl rfl rfl rfl (p_fieldAddr rfl fa320_7) <| iv 4 rfl rfl rfl rfl (fun _ => v_load rfl ty226 HS (by exact rfl)) ?_
  refine iv 5 rfl rfl rfl rfl (fun _ => v_loadA rfl ty298 HS CT) ?_
  refine i1 6 rfl <| x_lit (vals := [_]) Tryz.underlying226 ty298 rfl (.cons rfl .nil) (.agg .nil) (Wf.cons rfl rfl Wf.nil) rfl (by decide) rfl rfl <| JR fun a22 c22 hw22 hl22 hm22 hz22 => i1 7 rfl <| x_app rfl rfl Tryz.underlying226 ty298 rfl rfl PC (fun w H => sep_reads HS H) (by simp; omega) (by simp; omega) rfl <| JE ((r.over ++ [c]).map encX) (by simp) fun a23 c23 hw23 hl23 hm23 hz23 => ip 8 rfl rfl rfl rfl (p_nilCheck rfl) <| ip 9 rfl rfl rfl rfl (p_fieldAddr rfl fa320_7) ?_
  refine i1 10 rfl <| x_store rfl rfl ty226 rfl SM SM RO PT ?_
  refine i0 <| qx <| ag rfl rfl <| nq <| J_ret <| J_rgS (b := b) (mb := mb) (r := { r with over := r.over ++ [c] }) _ PX trivial ?_
  refine J_asTo (B := rgA b mb (postR r ms c)) (by rw [postR, hok]; rfl) <| J_pick (A := memA mb _) PC ?_
  refine J_asTo (B := memA mb (postM r ms c)) (by rw [postM, hok]; rfl) ?_
  refine J_return (()) Tryz.results136 (.tmp rfl .nil) ?_ ?_
  · simp [one, hok]
  · exact SU
theorem ringClear {E : World} {l m : List As} {b mb : Nat} {r : Rg} (hp : Pick (rgA b mb r) l m) :
    Con Tryz.prog 303 #[.pointer (some ⟨b, 0, none⟩)] E l (fun _ : Unit => .int .i64 (r.over.length : Int)) (fun _ => rgA b mb { r with over := [] } :: m) := by
  refine Con.body (vs := [.pointer (some ⟨b, 0, none⟩)]) (n := 13) Tryz.func303 rfl rfl [(0, .pointer (some ⟨b, 0, none⟩))] (env_ok 1 rfl) <| J_pick hp <| J_rgO fun v _ => J_row (.there .here) fun hw a cap hv h1 h2 h3 => ?_
  subst hv
  refine sr <| ag rfl rfl <| nx <| mv rfl rfl <| nc rfl rfl <| fa rfl rfl fa320_7 <| L_val rfl (v_load rfl ty226 HS (by exact rfl)) ?_
  refine L_pur rfl (p_len rfl Tryz.underlying226) <| ag rfl rfl <| nx <| mv rfl rfl <| nc rfl rfl <| fa rfl rfl fa320_7 <| L_op <| x_store rfl rfl ty226 rfl SM SM RO PT ?_
  refine nx <| mv rfl rfl <| ag rfl rfl <| nq <| J_ret <| J_nil (el := 298) (sz := 4) <| J_asTo (B := row 298 4 (.slice none 0 0) (({ r with over := [] } : Rg).over.map encX)) (by rfl) <| J_rgS (b := b) (mb := mb) (r := { r with over := [] }) (.slice none 0 0) PX trivial ?_
  refine J_return (()) Tryz.results303 (.tmp rfl .nil) ?_ ?_
  · simp [one]
  · exact SU
theorem jnlAdd {E : World} {l m : List As} {b o : Nat} {xs : List Deed} (hp : Pick (jnlA b o xs) l m) (hb : xs.length ≤ 200000) {d : Deed} :
    Con Tryz.prog 134 #[.pointer (some ⟨b, o, none⟩), .agg (encD d).toArray] E l (fun _ : Unit => .tuple #[]) (fun _ => jnlA b o (xs ++ [d]) :: m) := by
  refine Con.body (vs := [.pointer (some ⟨b, o, none⟩), .agg (encD d).toArray]) (n := 14) Tryz.func134 rfl rfl [(0, .pointer (some ⟨b, o, none⟩)), (1, .agg (encD d).toArray)] (env_ok 2 rfl) <| J_pick hp <| J_jnlO fun v _ => J_row (.there .here) fun hw a cap hv h1 h2 h3 => ?_
  subst hv
  have hm : cap ≤ 9223372036854775807 := h2
  have hml : (xs.map encD).length = xs.length := List.length_map _
  refine sr <| L_op <| x_box rfl rfl rfl fun b3 => nq <| J_drawL (some 7) mixed <| ip 0 rfl rfl rfl rfl (p_move rfl) <| ip 1 rfl rfl rfl rfl (p_move rfl) <| ip 2 rfl rfl rfl rfl (p_nilCheck rfl) ?_
  refine ip 3 rfl rfl rfl rfl (p_fieldAddr rfl fa125_0) <| iv 4 rfl rfl rfl rfl (fun _ => v_loadL rfl ty32 HS rfl (by exact rfl)) ?_
  refine iv 5 rfl rfl rfl rfl (fun _ => v_loadA rfl ty41 HS CT) ?_
  refine i1 6 rfl <| x_lit (vals := [_]) Tryz.underlying32 ty41 rfl (.cons rfl .nil) (.agg .nil) (Wf.cons rfl rfl Wf.nil) rfl (by decide) rfl rfl <| JR fun a10 c10 hw10 hl10 hm10 hz10 => i1 7 rfl <| x_app rfl rfl Tryz.underlying32 ty41 rfl rfl PC (fun w H => sep_reads HS H) (by simp; omega) (by simp; omega) rfl <| JE ((xs ++ [d]).map encD) (by simp) fun a11 c11 hw11 hl11 hm11 hz11 => ip 8 rfl rfl rfl rfl (p_nilCheck rfl) <| ip 9 rfl rfl rfl rfl (p_fieldAddr rfl fa125_0) ?_
  refine i1 10 rfl <| x_storeL rfl rfl ty32 rfl SM SM rfl RO rfl PT ?_
  refine i0 <| J_endnormal <| J_jnlS (b := b) (o := o) (xs := xs ++ [d]) _ PX trivial ?_
  exact J_return (()) Tryz.results134 .nil rfl SU
theorem clone47 {E : World} {l : List As} {v : Value} {xs : List (List Value)} (hr : ∀ w, Sep E w l → Reads w 7 v xs) (hb : xs.length ≤ 1000000) :
    Con Tryz.prog 47 #[v] E l (fun v' : Value => v') (fun v' => row 41 7 v' xs :: l) := by
  refine Con.body (vs := [v]) (n := 8) Tryz.func47 rfl rfl [(0, v)] (env_ok 1 rfl) <| J_reads hr fun hw a cap hv h1 h2 h3 => ?_
  subst hv
  refine sr <| ag rfl rfl <| nxx <| mv rfl rfl <| L_pur rfl (p_eqnil Tryz.underlying32 rfl) <| nq ?_
  refine C_split rfl (fun h4 => ?_) (fun h4 => ?_)
  obtain rfl : a = none := by simpa using h4
  obtain ⟨rfl, rfl⟩ := h3 rfl
  refine J_nil (el := 41) (sz := 7) <| sr <| ag rfl rfl <| nq <| J_ret <| Q_then_ret ?_
  exact J_return (_) Tryz.results47 (.tmp rfl .nil) rfl SU
  refine J_skip <| qx <| L_op <| x_lit (vals := []) Tryz.underlying32 ty41 rfl .nil .nil Wf.nil rfl (by decide) rfl rfl <| JR fun a5 c5 hw5 hl5 hm5 hz5 => mv rfl rfl <| L_op <| x_app rfl rfl Tryz.underlying32 ty41 rfl rfl PC (fun w H => hr w H.tail) (OM) (OM) rfl ?_
  refine JR fun a7 c7 hw7 hl7 hm7 hz7 => ag rfl rfl <| nq <| J_ret ?_
  exact J_return (_) Tryz.results47 (.tmp rfl .nil) rfl SU
theorem jnlAll {E : World} {l m : List As} {b o : Nat} {xs : List Deed} (hp : Pick (jnlA b o xs) l m) (hb : xs.length ≤ 200000) :
    Con Tryz.prog 18 #[.pointer (some ⟨b, o, none⟩)] E l (fun v : Value => v) (fun v => row 41 7 v (xs.map encD) :: jnlA b o xs :: m) := by
  refine Con.body (vs := [.pointer (some ⟨b, o, none⟩)]) (n := 8) Tryz.func18 rfl rfl [(0, .pointer (some ⟨b, o, none⟩))] (env_ok 1 rfl) <| J_pick hp <| J_jnlO fun v _ => J_row (.there .here) fun hw a cap hv h1 h2 h3 => ?_
  subst hv
  have hm : cap ≤ 9223372036854775807 := h2
  have hml : (xs.map encD).length = xs.length := List.length_map _
  refine sr <| ag rfl rfl <| nx <| mv rfl rfl <| nc rfl rfl <| fa rfl rfl fa125_0 <| L_val rfl (v_loadL rfl ty32 HS rfl (by exact rfl)) ?_
  refine L_op <| xc fc47 (.cons rfl .nil) rfl (clone47 (xs := xs.map encD) (fun w H => sep_reads (xs := xs.map encD) HS H) (by simp; omega)) <| JR fun a7 c7 hw7 hl7 hm7 hz7 => ag rfl rfl <| nq <| J_ret <| J_jnlS (b := b) (o := o) (xs := xs) _ PX trivial ?_
  exact J_return (_) Tryz.results18 (.tmp rfl .nil) rfl SU
/-! ### plain: who waits, in order -/
theorem encI_one (c : ID) : ones (encI c) = true := rfl
theorem encI_len (c : ID) : (encI c).length = 2 := rfl
def isI (i c : ID) : Bool := decide (c.1 = i.1 ∧ c.2 = i.2)
theorem isI_iff {i c : ID} : isI i c = true ↔ c = i := by unfold isI; rw [decide_eq_true_eq, Prod.ext_iff]
theorem isI_eq (i c : ID) : isI i c = decide (c = i) := by rw [Bool.eq_iff_iff, isI_iff, decide_eq_true_eq]
def lpush (xs : List ID) (i : ID) : List ID := if i ∈ xs then xs else xs ++ [i]
def ldrop (xs : List ID) (i : ID) : List ID := xs.filter fun c => !isI i c
theorem ldrop_len (xs : List ID) (i : ID) : (ldrop xs i).length ≤ xs.length := List.length_filter_le _ _
theorem lpush_len (xs : List ID) (i : ID) : (lpush xs i).length ≤ xs.length + 1 := by unfold lpush; split <;> simp
theorem ldrop_mem {xs : List ID} {i c : ID} : c ∈ ldrop xs i ↔ c ∈ xs ∧ ¬ c = i := by
  unfold ldrop; rw [List.mem_filter]; simp [isI_eq]
theorem ldrop_no {xs : List ID} {i : ID} (h : i ∉ xs) : ldrop xs i = xs := by
  unfold ldrop; rw [List.filter_eq_self]; intro c hc; have : ¬ c = i := fun e => h (e ▸ hc); simp [isI_eq, this]
theorem ldrop_nodup {xs : List ID} (h : xs.Nodup) (i : ID) : (ldrop xs i).Nodup := List.Nodup.sublist List.filter_sublist h
theorem lpush_nodup {xs : List ID} (h : xs.Nodup) (i : ID) : (lpush xs i).Nodup := by
  unfold lpush; split
  · exact h
  · rename_i hi
    rw [List.nodup_append]
    refine ⟨h, by simp, fun x hx y hy => ?_⟩
    simp at hy; subst hy; exact fun e => hi (e ▸ hx)
theorem ldrop_head {x : ID} {xs : List ID} (h : (x :: xs).Nodup) : ldrop (x :: xs) x = xs := by
  have h1 := List.nodup_cons.1 h
  unfold ldrop
  rw [List.filter_cons, if_neg (by simp [isI_eq])]
  exact ldrop_no h1.1
theorem Who.push {xs : List ID} {ps : List (ID × Bool)} (h : Who xs ps) {i : ID} (hi : i ∉ xs) : Who (xs ++ [i]) (ins ps i true) := by
  refine ⟨by have := lpush_nodup h.1 i; unfold lpush at this; rwa [if_neg hi] at this, fun c => ?_⟩
  rw [look_ins, h.2]
  by_cases hc : i = c
  · subst hc; simp
  · have hc' : ¬ c = i := fun e => hc e.symm
    simp [hc, hc']
theorem Who.drop {xs : List ID} {ps : List (ID × Bool)} (h : Who xs ps) (i : ID) : Who (ldrop xs i) (del ps i) := by
  refine ⟨ldrop_nodup h.1 i, fun c => ?_⟩
  rw [look_del, h.2]
  by_cases hc : i = c
  · subst hc; simp [ldrop_mem]
  · have hc' : ¬ c = i := fun e => hc e.symm
    simp [hc, hc', ldrop_mem]
theorem Who.says {xs : List ID} {ps : List (ID × Bool)} (h : Who xs ps) (i : ID) : zof evB (.bool false) (look ps i) = .bool (decide (i ∈ xs)) := by
  rw [h.2]; by_cases hi : i ∈ xs <;> simp [zof, hi]
theorem clone314 {E : World} {l : List As} {v : Value} {xs : List (List Value)} (hr : ∀ w, Sep E w l → Reads w 2 v xs) (hb : xs.length ≤ 1000000) :
    Con Tryz.prog 314 #[v] E l (fun v' : Value => v') (fun v' => row 39 2 v' xs :: l) := by
  refine Con.body (vs := [v]) (n := 8) Tryz.func314 rfl rfl [(0, v)] (env_ok 1 rfl) <| J_reads hr fun hw a cap hv h1 h2 h3 => ?_
  subst hv
  refine sr <| ag rfl rfl <| nxx <| mv rfl rfl <| L_pur rfl (p_eqnil Tryz.underlying208 rfl) <| nq ?_
  refine C_split rfl (fun h4 => ?_) (fun h4 => ?_)
  obtain rfl : a = none := by simpa using h4
  obtain ⟨rfl, rfl⟩ := h3 rfl
  refine J_nil (el := 39) (sz := 2) <| sr <| ag rfl rfl <| nq <| J_ret <| Q_then_ret ?_
  exact J_return (_) Tryz.results314 (.tmp rfl .nil) rfl SU
  refine J_skip <| qx <| L_op <| x_lit (vals := []) Tryz.underlying208 ty39 rfl .nil .nil Wf.nil rfl (by decide) rfl rfl <| JR fun a5 c5 hw5 hl5 hm5 hz5 => mv rfl rfl <| L_op <| x_app rfl rfl Tryz.underlying208 ty39 rfl rfl PC (fun w H => hr w H.tail) (OM) (OM) rfl ?_
  refine JR fun a7 c7 hw7 hl7 hm7 hz7 => ag rfl rfl <| nq <| J_ret ?_
  exact J_return (_) Tryz.results314 (.tmp rfl .nil) rfl SU
theorem indexfunc276 {E : World} {l : List As} {v : Value} {α : Type} {enc : α → List Value} {xs : List α} {g : FuncId} {caps : Array Value} {fn : Func} (hf : Tryz.prog.funcs[g]? = some fn) (hn : (fn.name == "runtime.NumGoroutine") = false) (hb : fn.body.isNone = false) {q : α → Bool} {C : As} (hg : ∀ (l' : List As) (c : α), Has C l' → Con Tryz.prog g (#[.agg (enc c).toArray] ++ caps) E l' (fun _ : Unit => .bool (q c)) (fun _ => l')) (hv : Has (row 39 2 v (xs.map enc)) l) (hc : Has C l) :
    Con Tryz.prog 276 #[v, .func (.func g) #[] caps] E l (fun _ : Unit => .int .i64 (idx q xs)) (fun _ => l) := by
  refine Con.body (vs := [v, .func (.func g) #[] caps]) (n := 19) Tryz.func276 rfl rfl [(0, v), (1, .func (.func g) #[] caps)] (env_ok 2 rfl) <| J_row hv fun hw a cap hv h1 h2 h3 => ?_
  subst hv
  have hm : cap ≤ 9223372036854775807 := h2
  have hml : (xs.map enc).length = xs.length := List.length_map _
  refine sr <| ag rfl rfl <| nxx <| mv rfl rfl <| L_pur rfl (p_len rfl Tryz.underlying208) <| mv rfl rfl <| nq <| J_block ?_
  refine J_loop (α := Nat) (fun i => i ≤ xs.length ∧ ∀ c ∈ xs.take i, q c = false) (fun _ => l) (fun i => [(8, .int .i64 (i : Int)), (7, .int .i64 (xs.map enc).length), (0, .slice a (xs.map enc).length cap), (1, .func (.func g) #[] caps)]) (fun i => xs.length - i) 0 ⟨by omega, by simp⟩ SU KE ?_
  intro i ⟨hi, hq⟩
  refine sr <| L_pur rfl (p_lss rfl rfl) <| nq <| J_seq ?_
  refine C_dec rfl (fun h9 => ?_) (fun h9 => ?_)
  have hlt : i < xs.length := by omega
  obtain ⟨b, o, rfl⟩ := h3 (by intro h; rw [h] at hml; simp at hml; omega)
  obtain ⟨c, hcc⟩ : ∃ c, xs[i]? = some c := ⟨_, List.getElem?_eq_getElem hlt⟩
  refine J_skip <| Q_then <| J_seq <| J_block <| sr <| mv rfl rfl <| ag rfl rfl <| nx ?_
  refine mv rfl rfl <| mv rfl rfl <| mv rfl rfl <| L_pur rfl (p_indexAddr rfl rfl Tryz.underlying208 ty39 (by omega) (by omega)) ?_
  refine L_val rfl (v_loadE rfl ty39 HS (by simp only [Int.toNat_natCast, List.getElem?_map, hcc]; rfl)) ?_
  refine L_op <| x_callc rfl hf hn hb (.cons rfl .nil) rfl (hg _ c hc) fun _ => nq ?_
  refine C_split rfl (fun h16 => ?_) (fun h16 => ?_)
  have hidx := idx_here hq hcc h16
  refine sr <| mv rfl rfl <| ag rfl rfl <| nq <| J_ret <| Q_blk_ret <| Q_then_ret <| Q_then_ret ?_
  refine Q_blk_ret <| Q_then_ret ?_
  refine J_return (()) Tryz.results276 (.tmp rfl .nil) ?_ ?_
  · simp [one, hidx]
  · exact SU
  refine J_skip <| Q_blk_normal <| qr <| L_pur rfl (p_add64 rfl rfl (by omega)) <| mv rfl rfl <| nq ?_
  exact J_again (i + 1) (by omega) (⟨by omega, take_false_succ hq hcc h16⟩) SU KE
  have hix : i = xs.length := by omega
  rw [hix, List.take_length] at hq
  have hidx := idx_none hq
  refine J_exit <| Q_then_exit <| Q_then_exit <| Q_blk_this <| qx <| ag rfl rfl <| nq <| J_ret ?_
  refine J_return (()) Tryz.results276 (.tmp rfl .nil) ?_ ?_
  · simp [one, hidx]
  · exact SU
theorem deletefunc250 {E : World} {l m : List As} {v : Value} {α : Type} {enc : α → List Value} {xs : List α} {g : FuncId} {caps : Array Value} {fn : Func} (hf : Tryz.prog.funcs[g]? = some fn) (hn : (fn.name == "runtime.NumGoroutine") = false) (hb : fn.body.isNone = false) {q : α → Bool} {C : As} (hg : ∀ (l' : List As) (c : α), Has C l' → Con Tryz.prog g (#[.agg (enc c).toArray] ++ caps) E l' (fun _ : Unit => .bool (q c)) (fun _ => l')) (hv : Pick (row 39 2 v (xs.map enc)) l m) (hc : Has C m) (hone : ∀ c, ones (enc c) = true) (hlen : ∀ c, (enc c).length = 2) :
  Con Tryz.prog 250 #[v, .func (.func g) #[] caps] E l (fun v' : Value => v') (fun v' => row 39 2 v' ((xs.filter fun c => !q c).map enc) :: m) := by
 rcases idx_cases q xs with ⟨hi0, hall⟩ | ⟨i0, hi0, hlt0, hpre, c0, hc0, hq0⟩
 ·
  refine Con.body (vs := [v, .func (.func g) #[] caps]) (n := 42) Tryz.func250 rfl rfl [(0, v), (1, .func (.func g) #[] caps)] (env_ok 2 rfl) <| J_pick hv <| sr <| ag rfl rfl <| nx <| mv rfl rfl <| mv rfl rfl <| L_op <| xc fc276 (.cons rfl (.cons rfl .nil)) rfl (indexfunc276 hf hn hb hg .here (.there hc)) fun _ => ?_
  refine ag rfl rfl <| nxx <| mv rfl rfl <| L_pur rfl (p_eql rfl rfl) <| nq <| J_bool (t := 12) (c := true) rfl (by simp [hi0]) <| C_true rfl <| sr ?_
  refine J_rowEq (ys := (xs.filter fun c => !q c).map enc) (by rw [List.filter_eq_self.2 (fun c hc => by simp [hall c hc])]) <| mv rfl rfl <| ag rfl rfl <| nq <| J_ret <| Q_then_ret ?_
  exact J_return (_) Tryz.results250 (.tmp rfl .nil) rfl SU
 ·
  refine Con.body (vs := [v, .func (.func g) #[] caps]) (n := 42) Tryz.func250 rfl rfl [(0, v), (1, .func (.func g) #[] caps)] (env_ok 2 rfl) <| J_pick hv <| J_row .here fun hw a cap hv h1 h2 h3 => ?_
  obtain ⟨b, o, rfl⟩ := h3 (by intro h; have := congrArg List.length h; simp at this; subst this; simp at hlt0)
  subst hv
  have hm : cap ≤ 9223372036854775807 := h2
  have hml : (xs.map enc).length = xs.length := List.length_map _
  have hk0 : kept q xs (i0 + 1) = xs.take i0 := kept_first hpre hc0 hq0
  have hl0 : (xs.take i0).length = i0 := by simp; omega
  refine sr <| ag rfl rfl <| nx <| mv rfl rfl <| mv rfl rfl <| L_op <| xc fc276 (.cons rfl (.cons rfl .nil)) rfl (indexfunc276 hf hn hb hg .here (.there hc)) fun _ => J_slot (t := 10) (v := .int .i64 (i0 : Int)) rfl (by rw [hi0]) ?_
  refine ag rfl rfl <| nxx <| mv rfl rfl <| L_pur rfl (p_eql rfl rfl) <| nq <| J_bool (t := 12) (c := false) rfl (by simp) <| C_false rfl <| J_skip ?_
  refine Q_then <| J_seq <| sr <| mv rfl rfl <| L_pur rfl (p_add64 rfl rfl (by omega)) <| ag rfl rfl <| nq <| J_block ?_
  refine J_rowEq (ys := (kept q xs (i0 + 1) ++ xs.drop (kept q xs (i0 + 1)).length).map enc) (by rw [hk0, hl0, List.take_append_drop]) <| J_slot (t := 5) (v := .int .i64 ((kept q xs (i0 + 1)).length : Int)) rfl (by rw [hk0, hl0]) <| J_loop (α := Nat) (fun j => j ≤ xs.length) (fun j => row 39 2 (.slice (some ⟨b, o, none⟩) (xs.map enc).length cap) ((kept q xs j ++ xs.drop (kept q xs j).length).map enc) :: m) (fun j => [(6, .int .i64 (j : Int)), (5, .int .i64 ((kept q xs j).length : Int)), (0, .slice (some ⟨b, o, none⟩) (xs.map enc).length cap), (1, .func (.func g) #[] caps)]) (fun j => xs.length - j) (i0 + 1) (by omega) SU KE ?_
  intro j hj
  have hkl := kept_le q xs j
  refine J_seq <| sr <| mv rfl rfl <| mv rfl rfl <| L_pur rfl (p_len rfl Tryz.underlying208) <| L_pur rfl (p_lss rfl rfl) <| nq ?_
  refine C_dec rfl (fun h19 => ?_) (fun h19 => ?_)
  have hlt : j < xs.length := by omega
  obtain ⟨c, hcc⟩ : ∃ c, xs[j]? = some c := ⟨_, List.getElem?_eq_getElem hlt⟩
  refine J_skip <| Q_then <| J_seq <| J_block <| sr <| mv rfl rfl <| mv rfl rfl <| L_pur rfl (p_indexAddr rfl rfl Tryz.underlying208 ty39 (by omega) (by omega)) ?_
  refine L_val rfl (v_loadE rfl ty39 HS (by simp only [Int.toNat_natCast, List.getElem?_map, kept_get, hcc]; rfl)) ?_
  refine L_op <| x_alloc ty39 rfl fun b7 => L_op <| x_store rfl rfl ty39 rfl SM SM RO PT ?_
  refine nx <| mv rfl rfl <| L_val rfl (v_loadA rfl ty39 HS CT) ?_
  refine L_op <| x_callc rfl hf hn hb (.cons rfl .nil) rfl (hg _ c (.there (.there hc))) fun _ => L_pur rfl (p_not rfl) <| nq ?_
  refine C_split rfl (fun h29 => ?_) (fun h29 => ?_)
  have hqc : q c = false := by simpa using h29
  have hks := kept_set hcc hqc
  have hkl1 : (kept q xs (j + 1)).length = (kept q xs j).length + 1 := by rw [kept_succ hcc, hqc]; simp
  refine sr <| mv rfl rfl <| mv rfl rfl <| L_val rfl (v_loadA rfl ty39 HS CT) ?_
  refine L_pur rfl (p_indexAddr rfl rfl Tryz.underlying208 ty39 (by omega) (by omega)) <| L_op <| x_storeE (vs := enc c) rfl rfl ty39 rfl (hlen c) (hone c) PC (OM) ?_
  refine J_rowEq (ys := (kept q xs (j + 1) ++ xs.drop (kept q xs (j + 1)).length).map enc) (by rw [← hks, List.map_set]; simp) <| ny <| mv rfl rfl <| L_pur rfl (p_add64 rfl rfl (by omega)) <| ag rfl rfl <| L_nil <| Q_blk_normal <| qr ?_
  refine mv rfl rfl <| L_pur rfl (p_add64 rfl rfl (by omega)) <| ag rfl rfl <| nq <| J_slot (t := 5) (v := .int .i64 ((kept q xs (j + 1)).length : Int)) rfl (by rw [hkl1]; rfl) ?_
  exact J_again (j + 1) (by omega) (by omega) SU KE
  have hqc : q c = true := by simpa using h29
  have hks : kept q xs (j + 1) = kept q xs j := by rw [kept_succ hcc, hqc]; simp
  refine J_skip <| Q_blk_normal <| qr <| mv rfl rfl <| L_pur rfl (p_add64 rfl rfl (by omega)) <| ag rfl rfl <| nq <| J_slot (t := 5) (v := .int .i64 ((kept q xs (j + 1)).length : Int)) rfl (by rw [hks]) ?_
  refine J_pick (A := row 39 2 (.slice (some ⟨b, o, none⟩) (xs.map enc).length cap) ((kept q xs j ++ xs.drop (kept q xs j).length).map enc)) PC ?_
  refine J_rowEq (ys := (kept q xs (j + 1) ++ xs.drop (kept q xs (j + 1)).length).map enc) (by rw [hks]) ?_
  exact J_again (j + 1) (by omega) (by omega) SU KE
  have hjx : j = xs.length := by omega
  have hka : kept q xs j = xs.filter fun c => !q c := kept_all (by omega)
  refine J_exit <| Q_then_exit <| Q_then_exit <| Q_blk_this <| qx <| mv rfl rfl <| mv rfl rfl <| L_pur rfl (p_slice rfl Tryz.underlying208 ty39 rfl rfl (by omega) (by omega) (by omega)) ?_
  refine L_op <| x_clear (len := (xs.map enc).length) rfl Tryz.underlying208 ty39 rfl rfl PC (OM) ?_
  refine nx <| mv rfl rfl <| mv rfl rfl <| L_pur rfl (p_slice rfl Tryz.underlying208 ty39 rfl rfl (by omega) (by omega) (by omega)) <| J_take (k := (kept q xs j).length) (OM) <| J_rowTo (v' := .slice (some ⟨b, o, none⟩) (kept q xs j).length cap) (ys := (xs.filter fun c => !q c).map enc) (by simp [hka]) rfl <| J_slot (t := 41) (v := .slice (some ⟨b, o, none⟩) (kept q xs j).length cap) rfl (by simp [Addr.add]) <| ag rfl rfl ?_
  refine nq <| J_ret ?_
  exact J_return (_) Tryz.results250 (.tmp rfl .nil) rfl SU
theorem clo251 {E : World} {l : List As} {bc : Nat} {i : ID} {c : ID} (hc : Has (blk bc 39 (encI i)) l) :
    Con Tryz.prog 251 #[.agg (encI c).toArray, .pointer (some ⟨bc, 0, none⟩)] E l (fun _ : Unit => .bool (isI i c)) (fun _ => l) := by
  refine Con.body (vs := [.agg (encI c).toArray, .pointer (some ⟨bc, 0, none⟩)]) (n := 7) Tryz.func251 rfl rfl [(0, .agg (encI c).toArray), (1, .pointer (some ⟨bc, 0, none⟩))] (env_ok 2 rfl) <| sr <| L_op <| x_box rfl rfl rfl fun b2 => ag rfl rfl <| nx <| L_val rfl (v_loadA rfl ty39 HS CT) ?_
  refine L_val rfl (v_loadA rfl ty39 HS CT) ?_
  refine L_pur rfl (p_eqv rfl rfl (fun w => eg39 _ _ _ _ _ w) (fun w => eqv39 _ _ _ _ w)) <| ag rfl rfl <| nq <| J_ret ?_
  exact J_return (()) Tryz.results251 (.tmp rfl .nil) rfl SU
theorem lAll {E : World} {l m : List As} {b o : Nat} {xs : List ID} (hp : Pick (lsA b o xs) l m) (hb : xs.length ≤ 100000) :
    Con Tryz.prog 309 #[.pointer (some ⟨b, o, none⟩)] E l (fun v : Value => v) (fun v => row 39 2 v (xs.map encI) :: lsA b o xs :: m) := by
  refine Con.body (vs := [.pointer (some ⟨b, o, none⟩)]) (n := 8) Tryz.func309 rfl rfl [(0, .pointer (some ⟨b, o, none⟩))] (env_ok 1 rfl) <| J_pick hp <| J_lsO fun v ob ps hw => sr <| ag rfl rfl <| nx <| mv rfl rfl <| nc rfl rfl ?_
  refine fa rfl rfl fa211_0 <| L_val rfl (v_loadL rfl ty208 HS rfl (by exact rfl)) ?_
  refine L_op <| xc fc314 (.cons rfl .nil) rfl (clone314 (xs := xs.map encI) (fun w H => sep_reads (xs := xs.map encI) HS H) (by simp; omega)) <| JR fun a7 c7 hw7 hl7 hm7 hz7 => ag rfl rfl <| nq <| J_ret <| J_lsS (b := b) (o := o) (xs := xs) _ _ _ PX (hw) ?_
  exact J_return (_) Tryz.results309 (.tmp rfl .nil) rfl SU
theorem lDrop {E : World} {l m : List As} {b o : Nat} {xs : List ID} (hp : Pick (lsA b o xs) l m) (hb : xs.length ≤ 100000) {i : ID} :
    Con Tryz.prog 193 #[.pointer (some ⟨b, o, none⟩), .agg (encI i).toArray] E l (fun _ : Unit => .bool (decide (i ∈ xs))) (fun _ => lsA b o (ldrop xs i) :: m) := by
  refine Con.body (vs := [.pointer (some ⟨b, o, none⟩), .agg (encI i).toArray]) (n := 26) Tryz.func193 rfl rfl [(0, .pointer (some ⟨b, o, none⟩)), (1, .agg (encI i).toArray)] (env_ok 2 rfl) <| J_pick hp <| J_lsO fun v ob ps hw => sr <| L_op <| x_box rfl rfl rfl fun b3 => ag rfl rfl <| nq ?_
  refine J_seq <| J_seq <| J_drawS mixed (by kernel_rfl) <| sm rfl rfl <| sp rfl (p_nilCheck rfl) <| sp rfl (p_fieldAddr rfl fa211_1) <| S_val rfl (v_loadL rfl ty209 HS rfl (by exact rfl)) ?_
  refine S_val rfl (v_loadA rfl ty39 HS CT) ?_
  refine S_val rfl (v_look (ek := kI) (ev := evB) (a := i) rfl rfl ky39 Tryz.underlying209 zv4 HS) ?_
  refine J_slot (t := 10) (v := .bool (decide (i ∈ xs))) rfl (hw.says i) <| sp rfl (p_not rfl) <| sq ?_
  refine C_split rfl (fun h11 => ?_) (fun h11 => ?_)
  have hi : i ∉ xs := by simpa using h11
  refine sr <| ag rfl rfl <| nq <| J_ret <| Q_then_ret <| J_lsS (b := b) (o := o) (xs := xs) _ _ _ PX (hw) ?_
  refine J_asTo (B := lsA b o (ldrop xs i)) (by rw [ldrop_no hi]) ?_
  refine J_return (()) Tryz.results193 (.tmp rfl .nil) ?_ ?_
  · simp [one, hi]
  · exact SU
  have hi : i ∈ xs := by simpa using h11
  refine J_skip <| Q_then <| J_seq <| J_drawT 5 mixed (by kernel_rfl) <| sm rfl rfl <| sp rfl (p_nilCheck rfl) <| sp rfl (p_fieldAddr rfl fa211_1) <| S_val rfl (v_loadL rfl ty209 HS rfl (by exact rfl)) ?_
  refine S_val rfl (v_loadA rfl ty39 HS CT) ?_
  refine S_nil <| L_op <| x_delete (ek := kI) (ev := evB) (a := i) rfl rfl ky39 Tryz.underlying209 PC ?_
  refine nx <| mv rfl rfl <| mv rfl rfl <| nc rfl rfl <| fa rfl rfl fa211_0 <| L_val rfl (v_loadL rfl ty208 HS rfl (by exact rfl)) ?_
  refine L_pur rfl (p_makeFunc (.cons rfl .nil)) <| L_op <| xc fc250 (.cons rfl (.cons rfl .nil)) rfl (deletefunc250 (xs := xs) (enc := encI) (q := isI i) (C := blk b3 39 (encI i)) Tryz.func251 nm251 bd251 (fun l' c hc => clo251 hc) PC HS encI_one encI_len) <| JR fun a23 c23 hw23 hl23 hm23 hz23 => nc rfl rfl <| fa rfl rfl fa211_0 <| L_op <| x_storeL rfl rfl ty208 rfl SM SM rfl RO rfl PT ?_
  refine nx <| ag rfl rfl <| nq <| J_ret <| J_lsS (b := b) (o := o) (xs := xs.filter fun c => !isI i c) _ _ _ PX (hw.drop i) ?_
  refine J_return (()) Tryz.results193 (.tmp rfl .nil) ?_ ?_
  · simp [one, hi]
  · exact SU
theorem lPop {E : World} {l m : List As}{b o : Nat} {xs : List ID} (hp : Pick (lsA b o xs) l m) (hb : xs.length ≤ 100000) :
  Con Tryz.prog 195 #[.pointer (some ⟨b, o, none⟩)] E l (fun _ : Unit => .tuple #[.agg (encI (xs.headD (0, 0))).toArray, .bool (!xs.isEmpty)]) (fun _ => lsA b o xs.tail :: m) := by
 rcases xs with _ | ⟨x, r⟩
 ·
  refine Con.body (vs := [.pointer (some ⟨b, o, none⟩)]) (n := 22) Tryz.func195 rfl rfl [(0, .pointer (some ⟨b, o, none⟩))] (env_ok 1 rfl) <| J_pick hp <| J_lsO fun v ob ps hw => J_row (.there .here) fun hwf a cap hv h1 h2 h3 => ?_
  subst hv
  refine sr <| L_op <| x_alloc ty39 rfl fun b2 => ag rfl rfl <| nxx <| mv rfl rfl <| nc rfl rfl <| fa rfl rfl fa211_0 ?_
  refine L_val rfl (v_loadL rfl ty208 HS rfl (by exact rfl)) ?_
  refine L_pur rfl (p_len rfl Tryz.underlying208) <| L_pur rfl (p_eql rfl rfl) <| nq <| J_bool (t := 10) (c := true) rfl (by simp) <| C_true rfl <| sr <| L_pur rfl (bld39 .nil (by repeat constructor)) <| L_op <| x_store rfl rfl ty39 rfl SM SM RO PT ?_
  refine ag rfl rfl <| nq <| J_ret <| Q_then_ret <| J_lsS (b := b) (o := o) (xs := []) _ _ _ PX (hw) ?_
  exact J_return (()) Tryz.results195 (.cellA rfl ty39 HS CT (.tmp rfl .nil)) rfl SU
 ·
  refine Con.body (vs := [.pointer (some ⟨b, o, none⟩)]) (n := 22) Tryz.func195 rfl rfl [(0, .pointer (some ⟨b, o, none⟩))] (env_ok 1 rfl) <| J_pick hp <| J_lsO fun v ob ps hw => ?_
  have hnd := hw.1
  refine J_row (.there .here) fun hwf a cap hv h1 h2 h3 => ?_
  obtain ⟨bi, oi, rfl⟩ := h3 (by simp)
  subst hv
  refine sr <| L_op <| x_alloc ty39 rfl fun b2 => ag rfl rfl <| nxx <| mv rfl rfl <| nc rfl rfl <| fa rfl rfl fa211_0 ?_
  refine L_val rfl (v_loadL rfl ty208 HS rfl (by exact rfl)) ?_
  refine L_pur rfl (p_len rfl Tryz.underlying208) <| L_pur rfl (p_eql rfl rfl) <| nq <| J_bool (t := 10) (c := false) rfl (by simp; omega) <| C_false rfl <| J_skip <| qx <| mv rfl rfl ?_
  refine nc rfl rfl <| fa rfl rfl fa211_0 <| L_val rfl (v_loadL rfl ty208 HS rfl (by exact rfl)) ?_
  refine L_pur rfl (p_indexAddr rfl rfl Tryz.underlying208 ty39 (by omega) (by simp)) <| L_val rfl (v_loadE rfl ty39 HS (by rfl)) ?_
  refine L_op <| x_alloc ty39 rfl fun b4 => L_op <| x_store rfl rfl ty39 rfl SM SM RO PT ?_
  refine nx <| J_lsS (b := b) (o := o) (xs := x :: r) _ _ _ PX (hw) ?_
  refine mv rfl rfl <| L_val rfl (v_loadA rfl ty39 HS CT) ?_
  refine L_op <| xc fc193 (.cons rfl (.cons rfl .nil)) rfl (lDrop (i := x) PC (by omega)) fun _ => ?_
  refine J_asTo (B := lsA b o r) (by rw [ldrop_head hnd]) <| nx <| L_val rfl (v_loadA rfl ty39 HS CT) ?_
  refine L_op <| x_store rfl rfl ty39 rfl SM SM RO PT ?_
  refine ag rfl rfl <| nq <| J_ret ?_
  exact J_return (()) Tryz.results195 (.cellA rfl ty39 HS CT (.tmp rfl .nil)) rfl SU
abbrev orb (w x : Int) : Int := bits .or .u32 w x
def woke (w : Int) (xs : List ID) (x : Int) : Bool := !decide (orb w x = 0) && !xs.isEmpty
def sigI (w : Int) (xs : List ID) (x : Int) : ID := if woke w xs x then xs.headD (0, 0) else (0, 0)
def sigV (w : Int) (xs : List ID) (x : Int) : Int := if woke w xs x then orb w x else 0
def sigW (w : Int) (xs : List ID) (x : Int) : Int := if woke w xs x then 0 else orb w x
def sigL (w : Int) (xs : List ID) (x : Int) : List ID := if woke w xs x then xs.tail else xs
def waitL (w : Int) (xs : List ID) (i : ID) : List ID := if w = 0 then lpush xs i else xs
theorem sigL_len (w : Int) (xs : List ID) (x : Int) : (sigL w xs x).length ≤ xs.length := by unfold sigL; split <;> simp
theorem waitL_len (w : Int) (xs : List ID) (i : ID) : (waitL w xs i).length ≤ xs.length + 1 := by
  unfold waitL; split
  · exact lpush_len xs i
  · omega
theorem ntWaits {E : World} {l m : List As} {b o : Nat} {w : Int} {xs : List ID} (hp : Pick (ntA b o w xs) l m) (hb : xs.length ≤ 100000) :
    Con Tryz.prog 301 #[.pointer (some ⟨b, o, none⟩)] E l (fun v : Value => v) (fun v => row 39 2 v (xs.map encI) :: ntA b o w xs :: m) := by
  refine Con.body (vs := [.pointer (some ⟨b, o, none⟩)]) (n := 7) Tryz.func301 rfl rfl [(0, .pointer (some ⟨b, o, none⟩))] (env_ok 1 rfl) <| J_pick hp <| J_ntO fun _ _ => sr <| ag rfl rfl <| nx <| mv rfl rfl <| nc rfl rfl ?_
  refine fa rfl rfl fa213_1 <| L_op <| xc fc309 (.cons rfl .nil) rfl (lAll (xs := xs) PC (by omega)) <| JR fun a6 c6 hw6 hl6 hm6 hz6 => ag rfl rfl <| nq <| J_ret <| J_ntS (b := b) (o := o) (w := w) (xs := xs) PX trivial ?_
  exact J_return (_) Tryz.results301 (.tmp rfl .nil) rfl SU
theorem ntDropC {E : World} {l m : List As} {b o : Nat} {w : Int} {xs : List ID} (hp : Pick (ntA b o w xs) l m) (hb : xs.length ≤ 100000) {i : ID} :
    Con Tryz.prog 132 #[.pointer (some ⟨b, o, none⟩), .agg (encI i).toArray] E l (fun _ : Unit => .bool (decide (i ∈ xs))) (fun _ => ntA b o w (ldrop xs i) :: m) := by
  refine Con.body (vs := [.pointer (some ⟨b, o, none⟩), .agg (encI i).toArray]) (n := 10) Tryz.func132 rfl rfl [(0, .pointer (some ⟨b, o, none⟩)), (1, .agg (encI i).toArray)] (env_ok 2 rfl) <| J_pick hp <| J_ntO fun _ _ => sr <| L_op <| x_box rfl rfl rfl fun b3 => ag rfl rfl <| nq ?_
  refine J_seq <| J_drawT 4 mixed (by kernel_rfl) <| sm rfl rfl <| sp rfl (p_nilCheck rfl) <| sp rfl (p_fieldAddr rfl fa213_1) <| S_val rfl (v_loadA rfl ty39 HS CT) ?_
  refine S_nil <| L_op <| xc fc193 (.cons rfl (.cons rfl .nil)) rfl (lDrop (xs := xs) (i := i) PC (by omega)) fun _ => ?_
  refine ag rfl rfl <| nq <| J_ret <| J_ntS (b := b) (o := o) (w := w) (xs := ldrop xs i) PX trivial ?_
  exact J_return (()) Tryz.results132 (.tmp rfl .nil) rfl SU
theorem ntSignal {E : World} {l m : List As} {b o : Nat} {w : Int} {xs : List ID} (hp : Pick (ntA b o w xs) l m) (hb : xs.length ≤ 100000) {x : Int} :
    Con Tryz.prog 139 #[.pointer (some ⟨b, o, none⟩), .int .u32 x] E l (fun _ : Unit => .tuple #[.agg (encI (sigI w xs x)).toArray, .int .u32 (sigV w xs x), .bool (woke w xs x)]) (fun _ => ntA b o (sigW w xs x) (sigL w xs x) :: m) := by
  refine Con.body (vs := [.pointer (some ⟨b, o, none⟩), .int .u32 x]) (n := 43) Tryz.func139 rfl rfl [(0, .pointer (some ⟨b, o, none⟩)), (1, .int .u32 x)] (env_ok 2 rfl) <| J_pick hp <| J_ntO fun _ _ => sr <| L_op <| x_alloc ty39 rfl fun b4 => ag rfl rfl <| ag rfl rfl ?_
  refine nx <| mv rfl rfl <| nc rfl rfl <| fa rfl rfl fa213_0 <| L_val rfl (v_loadL rfl ty22 HS rfl (by exact rfl)) ?_
  refine mv rfl rfl <| L_pur rfl (p_or rfl rfl) <| nc rfl rfl <| fa rfl rfl fa213_0 <| L_op <| x_storeL rfl rfl ty22 rfl SM SM rfl RO rfl PT ?_
  refine nxx <| mv rfl rfl <| nc rfl rfl <| fa rfl rfl fa213_0 <| L_val rfl (v_loadL rfl ty22 HS rfl (by exact rfl)) ?_
  refine L_pur rfl (p_eql rfl rfl) <| nq ?_
  refine C_dec rfl (fun h22 => ?_) (fun h22 => ?_)
  have h22' : orb w x = 0 := h22
  have hwk : woke w xs x = false := by simp [woke, h22']
  have e1 : sigI w xs x = (0, 0) := by simp [sigI, hwk]
  have e2 : sigV w xs x = 0 := by simp [sigV, hwk]
  have e3 : sigW w xs x = orb w x := by simp [sigW, hwk]
  have e4 : sigL w xs x = xs := by simp [sigL, hwk]
  refine sr <| L_pur rfl (bld39 .nil (by repeat constructor)) <| L_op <| x_store rfl rfl ty39 rfl SM SM RO PT ?_
  refine ag rfl rfl <| ag rfl rfl <| nq <| J_ret <| Q_then_ret <| J_ntS (b := b) (o := o) (w := orb w x) (xs := xs) PX trivial ?_
  refine J_asTo (B := ntA b o (sigW w xs x) (sigL w xs x)) (by first | (rw [e3, e4]; done) | (rw [e3, e4]; rfl)) ?_
  refine J_return (()) Tryz.results139 (.cellA rfl ty39 HS CT (.tmp rfl (.tmp rfl .nil))) ?_ ?_
  · rw [e1, e2, hwk]; rfl
  · exact SU
  have h22' : ¬ orb w x = 0 := h22
  refine J_skip <| qx <| mv rfl rfl <| nc rfl rfl <| fa rfl rfl fa213_1 <| L_op <| xc fc195 (.cons rfl .nil) rfl (lPop (xs := xs) PC (by omega)) fun _ => ?_
  refine mv rfl rfl <| L_pur rfl (p_extract rfl rfl) <| L_pur rfl (p_extract rfl rfl) <| L_op <| x_alloc ty39 rfl fun b7 => L_op <| x_store rfl rfl ty39 rfl SM SM RO PT ?_
  refine ag rfl rfl <| nxx <| mv rfl rfl <| L_pur rfl (p_not rfl) <| nq ?_
  refine C_split rfl (fun h32 => ?_) (fun h32 => ?_)
  have hnil : xs = [] := by simpa using h32
  subst hnil
  have hwk : woke w [] x = false := by simp [woke, h22']
  have e1 : sigI w [] x = (0, 0) := by simp [sigI, hwk]
  have e2 : sigV w [] x = 0 := by simp [sigV, hwk]
  have e3 : sigW w [] x = orb w x := by simp [sigW, hwk]
  have e4 : sigL w [] x = [] := by simp [sigL, hwk]
  refine sr <| L_pur rfl (bld39 .nil (by repeat constructor)) <| L_op <| x_store rfl rfl ty39 rfl SM SM RO PT ?_
  refine ag rfl rfl <| ag rfl rfl <| nq <| J_ret <| Q_then_ret <| J_ntS (b := b) (o := o) (w := orb w x) (xs := List.tail []) PX trivial ?_
  refine J_asTo (B := ntA b o (sigW w [] x) (sigL w [] x)) (by first | (rw [e3, e4]; done) | (rw [e3, e4]; rfl)) ?_
  refine J_return (()) Tryz.results139 (.cellA rfl ty39 HS CT (.tmp rfl (.tmp rfl .nil))) ?_ ?_
  · rw [e1, e2, hwk]; rfl
  · exact SU
  have hne : xs.isEmpty = false := by simpa using h32
  have hwk : woke w xs x = true := by simp [woke, h22', hne]
  have e1 : sigI w xs x = xs.headD (0, 0) := by simp [sigI, hwk]
  have e2 : sigV w xs x = orb w x := by simp [sigV, hwk]
  have e3 : sigW w xs x = 0 := by simp [sigW, hwk]
  have e4 : sigL w xs x = xs.tail := by simp [sigL, hwk]
  refine J_skip <| qx <| mv rfl rfl <| nc rfl rfl <| fa rfl rfl fa213_0 <| L_val rfl (v_loadL rfl ty22 HS rfl (by exact rfl)) ?_
  refine ag rfl rfl <| nx <| mv rfl rfl <| nc rfl rfl <| fa rfl rfl fa213_0 <| L_op <| x_storeL rfl rfl ty22 rfl SM SM rfl RO rfl PT ?_
  refine nx <| L_val rfl (v_loadA rfl ty39 HS CT) ?_
  refine mv rfl rfl <| L_op <| x_store rfl rfl ty39 rfl SM SM RO PT ?_
  refine ag rfl rfl <| ag rfl rfl <| nq <| J_ret <| J_ntS (b := b) (o := o) (w := 0) (xs := xs.tail) PX trivial ?_
  refine J_asTo (B := ntA b o (sigW w xs x) (sigL w xs x)) (by first | (rw [e3, e4]; done) | (rw [e3, e4]; rfl)) ?_
  refine J_return (()) Tryz.results139 (.cellA rfl ty39 HS CT (.tmp rfl (.tmp rfl .nil))) ?_ ?_
  · rw [e1, e2, hwk]; rfl
  · exact SU
def isM (i : ID) (m : Msg) : Bool := decide (m.1.1 = i.1 ∧ m.1.2 = i.2)
def isR (i : ID) (r : Rcv) : Bool := decide (r.1.1 = i.1 ∧ r.1.2 = i.2)
abbrev mdrop (xs : List Msg) (i : ID) : List Msg := xs.filter fun c => !isM i c
abbrev rdrop (xs : List Rcv) (i : ID) : List Rcv := xs.filter fun c => !isR i c
theorem encM_one (c : Msg) : ones (encM c) = true := rfl
theorem encM_len (c : Msg) : (encM c).length = 5 := rfl
theorem encR_one (c : Rcv) : ones (encR c) = true := rfl
theorem encR_len (c : Rcv) : (encR c).length = 3 := rfl
theorem encT_one (c : Tm) : ones (encT c) = true := rfl
theorem encT_len (c : Tm) : (encT c).length = 3 := rfl
def isTm (i : ID) (c : Tm) : Bool := decide (c.2.1 = i.1 ∧ c.2.2 = i.2)
abbrev tdrop (xs : List Tm) (i : ID) : List Tm := xs.filter fun c => !isTm i c
theorem indexfunc248 {E : World} {l : List As} {v : Value} {α : Type} {enc : α → List Value} {xs : List α} {g : FuncId} {caps : Array Value} {fn : Func} (hf : Tryz.prog.funcs[g]? = some fn) (hn : (fn.name == "runtime.NumGoroutine") = false) (hb : fn.body.isNone = false) {q : α → Bool} {C : As} (hg : ∀ (l' : List As) (c : α), Has C l' → Con Tryz.prog g (#[.agg (enc c).toArray] ++ caps) E l' (fun _ : Unit => .bool (q c)) (fun _ => l')) (hv : Has (row 340 5 v (xs.map enc)) l) (hc : Has C l) :
    Con Tryz.prog 248 #[v, .func (.func g) #[] caps] E l (fun _ : Unit => .int .i64 (idx q xs)) (fun _ => l) := by
  refine Con.body (vs := [v, .func (.func g) #[] caps]) (n := 19) Tryz.func248 rfl rfl [(0, v), (1, .func (.func g) #[] caps)] (env_ok 2 rfl) <| J_row hv fun hw a cap hv h1 h2 h3 => ?_
  subst hv
  have hm : cap ≤ 9223372036854775807 := h2
  have hml : (xs.map enc).length = xs.length := List.length_map _
  refine sr <| ag rfl rfl <| nxx <| mv rfl rfl <| L_pur rfl (p_len rfl Tryz.underlying177) <| mv rfl rfl <| nq <| J_block ?_
  refine J_loop (α := Nat) (fun i => i ≤ xs.length ∧ ∀ c ∈ xs.take i, q c = false) (fun _ => l) (fun i => [(8, .int .i64 (i : Int)), (7, .int .i64 (xs.map enc).length), (0, .slice a (xs.map enc).length cap), (1, .func (.func g) #[] caps)]) (fun i => xs.length - i) 0 ⟨by omega, by simp⟩ SU KE ?_
  intro i ⟨hi, hq⟩
  refine sr <| L_pur rfl (p_lss rfl rfl) <| nq <| J_seq ?_
  refine C_dec rfl (fun h9 => ?_) (fun h9 => ?_)
  have hlt : i < xs.length := by omega
  obtain ⟨b, o, rfl⟩ := h3 (by intro h; rw [h] at hml; simp at hml; omega)
  obtain ⟨c, hcc⟩ : ∃ c, xs[i]? = some c := ⟨_, List.getElem?_eq_getElem hlt⟩
  refine J_skip <| Q_then <| J_seq <| J_block <| sr <| mv rfl rfl <| ag rfl rfl <| nx ?_
  refine mv rfl rfl <| mv rfl rfl <| mv rfl rfl <| L_pur rfl (p_indexAddr rfl rfl Tryz.underlying177 ty340 (by omega) (by omega)) ?_
  refine L_val rfl (v_loadE rfl ty340 HS (by simp only [Int.toNat_natCast, List.getElem?_map, hcc]; rfl)) ?_
  refine L_op <| x_callc rfl hf hn hb (.cons rfl .nil) rfl (hg _ c hc) fun _ => nq ?_
  refine C_split rfl (fun h16 => ?_) (fun h16 => ?_)
  have hidx := idx_here hq hcc h16
  refine sr <| mv rfl rfl <| ag rfl rfl <| nq <| J_ret <| Q_blk_ret <| Q_then_ret <| Q_then_ret ?_
  refine Q_blk_ret <| Q_then_ret ?_
  refine J_return (()) Tryz.results248 (.tmp rfl .nil) ?_ ?_
  · simp [one, hidx]
  · exact SU
  refine J_skip <| Q_blk_normal <| qr <| L_pur rfl (p_add64 rfl rfl (by omega)) <| mv rfl rfl <| nq ?_
  exact J_again (i + 1) (by omega) (⟨by omega, take_false_succ hq hcc h16⟩) SU KE
  have hix : i = xs.length := by omega
  rw [hix, List.take_length] at hq
  have hidx := idx_none hq
  refine J_exit <| Q_then_exit <| Q_then_exit <| Q_blk_this <| qx <| ag rfl rfl <| nq <| J_ret ?_
  refine J_return (()) Tryz.results248 (.tmp rfl .nil) ?_ ?_
  · simp [one, hidx]
  · exact SU
theorem indexfunc249 {E : World} {l : List As} {v : Value} {α : Type} {enc : α → List Value} {xs : List α} {g : FuncId} {caps : Array Value} {fn : Func} (hf : Tryz.prog.funcs[g]? = some fn) (hn : (fn.name == "runtime.NumGoroutine") = false) (hb : fn.body.isNone = false) {q : α → Bool} {C : As} (hg : ∀ (l' : List As) (c : α), Has C l' → Con Tryz.prog g (#[.agg (enc c).toArray] ++ caps) E l' (fun _ : Unit => .bool (q c)) (fun _ => l')) (hv : Has (row 176 3 v (xs.map enc)) l) (hc : Has C l) :
    Con Tryz.prog 249 #[v, .func (.func g) #[] caps] E l (fun _ : Unit => .int .i64 (idx q xs)) (fun _ => l) := by
  refine Con.body (vs := [v, .func (.func g) #[] caps]) (n := 19) Tryz.func249 rfl rfl [(0, v), (1, .func (.func g) #[] caps)] (env_ok 2 rfl) <| J_row hv fun hw a cap hv h1 h2 h3 => ?_
  subst hv
  have hm : cap ≤ 9223372036854775807 := h2
  have hml : (xs.map enc).length = xs.length := List.length_map _
  refine sr <| ag rfl rfl <| nxx <| mv rfl rfl <| L_pur rfl (p_len rfl Tryz.underlying59) <| mv rfl rfl <| nq <| J_block ?_
  refine J_loop (α := Nat) (fun i => i ≤ xs.length ∧ ∀ c ∈ xs.take i, q c = false) (fun _ => l) (fun i => [(8, .int .i64 (i : Int)), (7, .int .i64 (xs.map enc).length), (0, .slice a (xs.map enc).length cap), (1, .func (.func g) #[] caps)]) (fun i => xs.length - i) 0 ⟨by omega, by simp⟩ SU KE ?_
  intro i ⟨hi, hq⟩
  refine sr <| L_pur rfl (p_lss rfl rfl) <| nq <| J_seq ?_
  refine C_dec rfl (fun h9 => ?_) (fun h9 => ?_)
  have hlt : i < xs.length := by omega
  obtain ⟨b, o, rfl⟩ := h3 (by intro h; rw [h] at hml; simp at hml; omega)
  obtain ⟨c, hcc⟩ : ∃ c, xs[i]? = some c := ⟨_, List.getElem?_eq_getElem hlt⟩
  refine J_skip <| Q_then <| J_seq <| J_block <| sr <| mv rfl rfl <| ag rfl rfl <| nx ?_
  refine mv rfl rfl <| mv rfl rfl <| mv rfl rfl <| L_pur rfl (p_indexAddr rfl rfl Tryz.underlying59 ty176 (by omega) (by omega)) ?_
  refine L_val rfl (v_loadE rfl ty176 HS (by simp only [Int.toNat_natCast, List.getElem?_map, hcc]; rfl)) ?_
  refine L_op <| x_callc rfl hf hn hb (.cons rfl .nil) rfl (hg _ c hc) fun _ => nq ?_
  refine C_split rfl (fun h16 => ?_) (fun h16 => ?_)
  have hidx := idx_here hq hcc h16
  refine sr <| mv rfl rfl <| ag rfl rfl <| nq <| J_ret <| Q_blk_ret <| Q_then_ret <| Q_then_ret ?_
  refine Q_blk_ret <| Q_then_ret ?_
  refine J_return (()) Tryz.results249 (.tmp rfl .nil) ?_ ?_
  · simp [one, hidx]
  · exact SU
  refine J_skip <| Q_blk_normal <| qr <| L_pur rfl (p_add64 rfl rfl (by omega)) <| mv rfl rfl <| nq ?_
  exact J_again (i + 1) (by omega) (⟨by omega, take_false_succ hq hcc h16⟩) SU KE
  have hix : i = xs.length := by omega
  rw [hix, List.take_length] at hq
  have hidx := idx_none hq
  refine J_exit <| Q_then_exit <| Q_then_exit <| Q_blk_this <| qx <| ag rfl rfl <| nq <| J_ret ?_
  refine J_return (()) Tryz.results249 (.tmp rfl .nil) ?_ ?_
  · simp [one, hidx]
  · exact SU
theorem deletefunc189 {E : World} {l m : List As} {v : Value} {α : Type} {enc : α → List Value} {xs : List α} {g : FuncId} {caps : Array Value} {fn : Func} (hf : Tryz.prog.funcs[g]? = some fn) (hn : (fn.name == "runtime.NumGoroutine") = false) (hb : fn.body.isNone = false) {q : α → Bool} {C : As} (hg : ∀ (l' : List As) (c : α), Has C l' → Con Tryz.prog g (#[.agg (enc c).toArray] ++ caps) E l' (fun _ : Unit => .bool (q c)) (fun _ => l')) (hv : Pick (row 340 5 v (xs.map enc)) l m) (hc : Has C m) (hone : ∀ c, ones (enc c) = true) (hlen : ∀ c, (enc c).length = 5) :
  Con Tryz.prog 189 #[v, .func (.func g) #[] caps] E l (fun v' : Value => v') (fun v' => row 340 5 v' ((xs.filter fun c => !q c).map enc) :: m) := by
 rcases idx_cases q xs with ⟨hi0, hall⟩ | ⟨i0, hi0, hlt0, hpre, c0, hc0, hq0⟩
 ·
  refine Con.body (vs := [v, .func (.func g) #[] caps]) (n := 42) Tryz.func189 rfl rfl [(0, v), (1, .func (.func g) #[] caps)] (env_ok 2 rfl) <| J_pick hv <| sr <| ag rfl rfl <| nx <| mv rfl rfl <| mv rfl rfl <| L_op <| xc fc248 (.cons rfl (.cons rfl .nil)) rfl (indexfunc248 hf hn hb hg .here (.there hc)) fun _ => ?_
  refine ag rfl rfl <| nxx <| mv rfl rfl <| L_pur rfl (p_eql rfl rfl) <| nq <| J_bool (t := 12) (c := true) rfl (by simp [hi0]) <| C_true rfl <| sr ?_
  refine J_rowEq (ys := (xs.filter fun c => !q c).map enc) (by rw [List.filter_eq_self.2 (fun c hc => by simp [hall c hc])]) <| mv rfl rfl <| ag rfl rfl <| nq <| J_ret <| Q_then_ret ?_
  exact J_return (_) Tryz.results189 (.tmp rfl .nil) rfl SU
 ·
  refine Con.body (vs := [v, .func (.func g) #[] caps]) (n := 42) Tryz.func189 rfl rfl [(0, v), (1, .func (.func g) #[] caps)] (env_ok 2 rfl) <| J_pick hv <| J_row .here fun hw a cap hv h1 h2 h3 => ?_
  obtain ⟨b, o, rfl⟩ := h3 (by intro h; have := congrArg List.length h; simp at this; subst this; simp at hlt0)
  subst hv
  have hm : cap ≤ 9223372036854775807 := h2
  have hml : (xs.map enc).length = xs.length := List.length_map _
  have hk0 : kept q xs (i0 + 1) = xs.take i0 := kept_first hpre hc0 hq0
  have hl0 : (xs.take i0).length = i0 := by simp; omega
  refine sr <| ag rfl rfl <| nx <| mv rfl rfl <| mv rfl rfl <| L_op <| xc fc248 (.cons rfl (.cons rfl .nil)) rfl (indexfunc248 hf hn hb hg .here (.there hc)) fun _ => J_slot (t := 10) (v := .int .i64 (i0 : Int)) rfl (by rw [hi0]) ?_
  refine ag rfl rfl <| nxx <| mv rfl rfl <| L_pur rfl (p_eql rfl rfl) <| nq <| J_bool (t := 12) (c := false) rfl (by simp) <| C_false rfl <| J_skip ?_
  refine Q_then <| J_seq <| sr <| mv rfl rfl <| L_pur rfl (p_add64 rfl rfl (by omega)) <| ag rfl rfl <| nq <| J_block ?_
  refine J_rowEq (ys := (kept q xs (i0 + 1) ++ xs.drop (kept q xs (i0 + 1)).length).map enc) (by rw [hk0, hl0, List.take_append_drop]) <| J_slot (t := 5) (v := .int .i64 ((kept q xs (i0 + 1)).length : Int)) rfl (by rw [hk0, hl0]) <| J_loop (α := Nat) (fun j => j ≤ xs.length) (fun j => row 340 5 (.slice (some ⟨b, o, none⟩) (xs.map enc).length cap) ((kept q xs j ++ xs.drop (kept q xs j).length).map enc) :: m) (fun j => [(6, .int .i64 (j : Int)), (5, .int .i64 ((kept q xs j).length : Int)), (0, .slice (some ⟨b, o, none⟩) (xs.map enc).length cap), (1, .func (.func g) #[] caps)]) (fun j => xs.length - j) (i0 + 1) (by omega) SU KE ?_
  intro j hj
  have hkl := kept_le q xs j
  refine J_seq <| sr <| mv rfl rfl <| mv rfl rfl <| L_pur rfl (p_len rfl Tryz.underlying177) <| L_pur rfl (p_lss rfl rfl) <| nq ?_
  refine C_dec rfl (fun h19 => ?_) (fun h19 => ?_)
  have hlt : j < xs.length := by omega
  obtain ⟨c, hcc⟩ : ∃ c, xs[j]? = some c := ⟨_, List.getElem?_eq_getElem hlt⟩
  refine J_skip <| Q_then <| J_seq <| J_block <| sr <| mv rfl rfl <| mv rfl rfl <| L_pur rfl (p_indexAddr rfl rfl Tryz.underlying177 ty340 (by omega) (by omega)) ?_
  refine L_val rfl (v_loadE rfl ty340 HS (by simp only [Int.toNat_natCast, List.getElem?_map, kept_get, hcc]; rfl)) ?_
  refine L_op <| x_alloc ty340 rfl fun b7 => L_op <| x_store rfl rfl ty340 rfl SM SM RO PT ?_
  refine nx <| mv rfl rfl <| L_val rfl (v_loadA rfl ty340 HS CT) ?_
  refine L_op <| x_callc rfl hf hn hb (.cons rfl .nil) rfl (hg _ c (.there (.there hc))) fun _ => L_pur rfl (p_not rfl) <| nq ?_
  refine C_split rfl (fun h29 => ?_) (fun h29 => ?_)
  have hqc : q c = false := by simpa using h29
  have hks := kept_set hcc hqc
  have hkl1 : (kept q xs (j + 1)).length = (kept q xs j).length + 1 := by rw [kept_succ hcc, hqc]; simp
  refine sr <| mv rfl rfl <| mv rfl rfl <| L_val rfl (v_loadA rfl ty340 HS CT) ?_
  refine L_pur rfl (p_indexAddr rfl rfl Tryz.underlying177 ty340 (by omega) (by omega)) <| L_op <| x_storeE (vs := enc c) rfl rfl ty340 rfl (hlen c) (hone c) PC (OM) ?_
  refine J_rowEq (ys := (kept q xs (j + 1) ++ xs.drop (kept q xs (j + 1)).length).map enc) (by rw [← hks, List.map_set]; simp) <| ny <| mv rfl rfl <| L_pur rfl (p_add64 rfl rfl (by omega)) <| ag rfl rfl <| L_nil <| Q_blk_normal <| qr ?_
  refine mv rfl rfl <| L_pur rfl (p_add64 rfl rfl (by omega)) <| ag rfl rfl <| nq <| J_slot (t := 5) (v := .int .i64 ((kept q xs (j + 1)).length : Int)) rfl (by rw [hkl1]; rfl) ?_
  exact J_again (j + 1) (by omega) (by omega) SU KE
  have hqc : q c = true := by simpa using h29
  have hks : kept q xs (j + 1) = kept q xs j := by rw [kept_succ hcc, hqc]; simp
  refine J_skip <| Q_blk_normal <| qr <| mv rfl rfl <| L_pur rfl (p_add64 rfl rfl (by omega)) <| ag rfl rfl <| nq <| J_slot (t := 5) (v := .int .i64 ((kept q xs (j + 1)).length : Int)) rfl (by rw [hks]) ?_
  refine J_pick (A := row 340 5 (.slice (some ⟨b, o, none⟩) (xs.map enc).length cap) ((kept q xs j ++ xs.drop (kept q xs j).length).map enc)) PC ?_
  refine J_rowEq (ys := (kept q xs (j + 1) ++ xs.drop (kept q xs (j + 1)).length).map enc) (by rw [hks]) ?_
  exact J_again (j + 1) (by omega) (by omega) SU KE
  have hjx : j = xs.length := by omega
  have hka : kept q xs j = xs.filter fun c => !q c := kept_all (by omega)
  refine J_exit <| Q_then_exit <| Q_then_exit <| Q_blk_this <| qx <| mv rfl rfl <| mv rfl rfl <| L_pur rfl (p_slice rfl Tryz.underlying177 ty340 rfl rfl (by omega) (by omega) (by omega)) ?_
  refine L_op <| x_clear (len := (xs.map enc).length) rfl Tryz.underlying177 ty340 rfl rfl PC (OM) ?_
  refine nx <| mv rfl rfl <| mv rfl rfl <| L_pur rfl (p_slice rfl Tryz.underlying177 ty340 rfl rfl (by omega) (by omega) (by omega)) <| J_take (k := (kept q xs j).length) (OM) <| J_rowTo (v' := .slice (some ⟨b, o, none⟩) (kept q xs j).length cap) (ys := (xs.filter fun c => !q c).map enc) (by simp [hka]) rfl <| J_slot (t := 41) (v := .slice (some ⟨b, o, none⟩) (kept q xs j).length cap) rfl (by simp [Addr.add]) <| ag rfl rfl ?_
  refine nq <| J_ret ?_
  exact J_return (_) Tryz.results189 (.tmp rfl .nil) rfl SU
theorem deletefunc191 {E : World} {l m : List As} {v : Value} {α : Type} {enc : α → List Value} {xs : List α} {g : FuncId} {caps : Array Value} {fn : Func} (hf : Tryz.prog.funcs[g]? = some fn) (hn : (fn.name == "runtime.NumGoroutine") = false) (hb : fn.body.isNone = false) {q : α → Bool} {C : As} (hg : ∀ (l' : List As) (c : α), Has C l' → Con Tryz.prog g (#[.agg (enc c).toArray] ++ caps) E l' (fun _ : Unit => .bool (q c)) (fun _ => l')) (hv : Pick (row 176 3 v (xs.map enc)) l m) (hc : Has C m) (hone : ∀ c, ones (enc c) = true) (hlen : ∀ c, (enc c).length = 3) :
  Con Tryz.prog 191 #[v, .func (.func g) #[] caps] E l (fun v' : Value => v') (fun v' => row 176 3 v' ((xs.filter fun c => !q c).map enc) :: m) := by
 rcases idx_cases q xs with ⟨hi0, hall⟩ | ⟨i0, hi0, hlt0, hpre, c0, hc0, hq0⟩
 ·
  refine Con.body (vs := [v, .func (.func g) #[] caps]) (n := 42) Tryz.func191 rfl rfl [(0, v), (1, .func (.func g) #[] caps)] (env_ok 2 rfl) <| J_pick hv <| sr <| ag rfl rfl <| nx <| mv rfl rfl <| mv rfl rfl <| L_op <| xc fc249 (.cons rfl (.cons rfl .nil)) rfl (indexfunc249 hf hn hb hg .here (.there hc)) fun _ => ?_
  refine ag rfl rfl <| nxx <| mv rfl rfl <| L_pur rfl (p_eql rfl rfl) <| nq <| J_bool (t := 12) (c := true) rfl (by simp [hi0]) <| C_true rfl <| sr ?_
  refine J_rowEq (ys := (xs.filter fun c => !q c).map enc) (by rw [List.filter_eq_self.2 (fun c hc => by simp [hall c hc])]) <| mv rfl rfl <| ag rfl rfl <| nq <| J_ret <| Q_then_ret ?_
  exact J_return (_) Tryz.results191 (.tmp rfl .nil) rfl SU
 ·
  refine Con.body (vs := [v, .func (.func g) #[] caps]) (n := 42) Tryz.func191 rfl rfl [(0, v), (1, .func (.func g) #[] caps)] (env_ok 2 rfl) <| J_pick hv <| J_row .here fun hw a cap hv h1 h2 h3 => ?_
  obtain ⟨b, o, rfl⟩ := h3 (by intro h; have := congrArg List.length h; simp at this; subst this; simp at hlt0)
  subst hv
  have hm : cap ≤ 9223372036854775807 := h2
  have hml : (xs.map enc).length = xs.length := List.length_map _
  have hk0 : kept q xs (i0 + 1) = xs.take i0 := kept_first hpre hc0 hq0
  have hl0 : (xs.take i0).length = i0 := by simp; omega
  refine sr <| ag rfl rfl <| nx <| mv rfl rfl <| mv rfl rfl <| L_op <| xc fc249 (.cons rfl (.cons rfl .nil)) rfl (indexfunc249 hf hn hb hg .here (.there hc)) fun _ => J_slot (t := 10) (v := .int .i64 (i0 : Int)) rfl (by rw [hi0]) ?_
  refine ag rfl rfl <| nxx <| mv rfl rfl <| L_pur rfl (p_eql rfl rfl) <| nq <| J_bool (t := 12) (c := false) rfl (by simp) <| C_false rfl <| J_skip ?_
  refine Q_then <| J_seq <| sr <| mv rfl rfl <| L_pur rfl (p_add64 rfl rfl (by omega)) <| ag rfl rfl <| nq <| J_block ?_
  refine J_rowEq (ys := (kept q xs (i0 + 1) ++ xs.drop (kept q xs (i0 + 1)).length).map enc) (by rw [hk0, hl0, List.take_append_drop]) <| J_slot (t := 5) (v := .int .i64 ((kept q xs (i0 + 1)).length : Int)) rfl (by rw [hk0, hl0]) <| J_loop (α := Nat) (fun j => j ≤ xs.length) (fun j => row 176 3 (.slice (some ⟨b, o, none⟩) (xs.map enc).length cap) ((kept q xs j ++ xs.drop (kept q xs j).length).map enc) :: m) (fun j => [(6, .int .i64 (j : Int)), (5, .int .i64 ((kept q xs j).length : Int)), (0, .slice (some ⟨b, o, none⟩) (xs.map enc).length cap), (1, .func (.func g) #[] caps)]) (fun j => xs.length - j) (i0 + 1) (by omega) SU KE ?_
  intro j hj
  have hkl := kept_le q xs j
  refine J_seq <| sr <| mv rfl rfl <| mv rfl rfl <| L_pur rfl (p_len rfl Tryz.underlying59) <| L_pur rfl (p_lss rfl rfl) <| nq ?_
  refine C_dec rfl (fun h19 => ?_) (fun h19 => ?_)
  have hlt : j < xs.length := by omega
  obtain ⟨c, hcc⟩ : ∃ c, xs[j]? = some c := ⟨_, List.getElem?_eq_getElem hlt⟩
  refine J_skip <| Q_then <| J_seq <| J_block <| sr <| mv rfl rfl <| mv rfl rfl <| L_pur rfl (p_indexAddr rfl rfl Tryz.underlying59 ty176 (by omega) (by omega)) ?_
  refine L_val rfl (v_loadE rfl ty176 HS (by simp only [Int.toNat_natCast, List.getElem?_map, kept_get, hcc]; rfl)) ?_
  refine L_op <| x_alloc ty176 rfl fun b7 => L_op <| x_store rfl rfl ty176 rfl SM SM RO PT ?_
  refine nx <| mv rfl rfl <| L_val rfl (v_loadA rfl ty176 HS CT) ?_
  refine L_op <| x_callc rfl hf hn hb (.cons rfl .nil) rfl (hg _ c (.there (.there hc))) fun _ => L_pur rfl (p_not rfl) <| nq ?_
  refine C_split rfl (fun h29 => ?_) (fun h29 => ?_)
  have hqc : q c = false := by simpa using h29
  have hks := kept_set hcc hqc
  have hkl1 : (kept q xs (j + 1)).length = (kept q xs j).length + 1 := by rw [kept_succ hcc, hqc]; simp
  refine sr <| mv rfl rfl <| mv rfl rfl <| L_val rfl (v_loadA rfl ty176 HS CT) ?_
  refine L_pur rfl (p_indexAddr rfl rfl Tryz.underlying59 ty176 (by omega) (by omega)) <| L_op <| x_storeE (vs := enc c) rfl rfl ty176 rfl (hlen c) (hone c) PC (OM) ?_
  refine J_rowEq (ys := (kept q xs (j + 1) ++ xs.drop (kept q xs (j + 1)).length).map enc) (by rw [← hks, List.map_set]; simp) <| ny <| mv rfl rfl <| L_pur rfl (p_add64 rfl rfl (by omega)) <| ag rfl rfl <| L_nil <| Q_blk_normal <| qr ?_
  refine mv rfl rfl <| L_pur rfl (p_add64 rfl rfl (by omega)) <| ag rfl rfl <| nq <| J_slot (t := 5) (v := .int .i64 ((kept q xs (j + 1)).length : Int)) rfl (by rw [hkl1]; rfl) ?_
  exact J_again (j + 1) (by omega) (by omega) SU KE
  have hqc : q c = true := by simpa using h29
  have hks : kept q xs (j + 1) = kept q xs j := by rw [kept_succ hcc, hqc]; simp
  refine J_skip <| Q_blk_normal <| qr <| mv rfl rfl <| L_pur rfl (p_add64 rfl rfl (by omega)) <| ag rfl rfl <| nq <| J_slot (t := 5) (v := .int .i64 ((kept q xs (j + 1)).length : Int)) rfl (by rw [hks]) ?_
  refine J_pick (A := row 176 3 (.slice (some ⟨b, o, none⟩) (xs.map enc).length cap) ((kept q xs j ++ xs.drop (kept q xs j).length).map enc)) PC ?_
  refine J_rowEq (ys := (kept q xs (j + 1) ++ xs.drop (kept q xs (j + 1)).length).map enc) (by rw [hks]) ?_
  exact J_again (j + 1) (by omega) (by omega) SU KE
  have hjx : j = xs.length := by omega
  have hka : kept q xs j = xs.filter fun c => !q c := kept_all (by omega)
  refine J_exit <| Q_then_exit <| Q_then_exit <| Q_blk_this <| qx <| mv rfl rfl <| mv rfl rfl <| L_pur rfl (p_slice rfl Tryz.underlying59 ty176 rfl rfl (by omega) (by omega) (by omega)) ?_
  refine L_op <| x_clear (len := (xs.map enc).length) rfl Tryz.underlying59 ty176 rfl rfl PC (OM) ?_
  refine nx <| mv rfl rfl <| mv rfl rfl <| L_pur rfl (p_slice rfl Tryz.underlying59 ty176 rfl rfl (by omega) (by omega) (by omega)) <| J_take (k := (kept q xs j).length) (OM) <| J_rowTo (v' := .slice (some ⟨b, o, none⟩) (kept q xs j).length cap) (ys := (xs.filter fun c => !q c).map enc) (by simp [hka]) rfl <| J_slot (t := 41) (v := .slice (some ⟨b, o, none⟩) (kept q xs j).length cap) rfl (by simp [Addr.add]) <| ag rfl rfl ?_
  refine nq <| J_ret ?_
  exact J_return (_) Tryz.results191 (.tmp rfl .nil) rfl SU
theorem clone308 {E : World} {l : List As} {v : Value} {xs : List (List Value)} (hr : ∀ w, Sep E w l → Reads w 5 v xs) (hb : xs.length ≤ 1000000) :
    Con Tryz.prog 308 #[v] E l (fun v' : Value => v') (fun v' => row 340 5 v' xs :: l) := by
  refine Con.body (vs := [v]) (n := 8) Tryz.func308 rfl rfl [(0, v)] (env_ok 1 rfl) <| J_reads hr fun hw a cap hv h1 h2 h3 => ?_
  subst hv
  refine sr <| ag rfl rfl <| nxx <| mv rfl rfl <| L_pur rfl (p_eqnil Tryz.underlying177 rfl) <| nq ?_
  refine C_split rfl (fun h4 => ?_) (fun h4 => ?_)
  obtain rfl : a = none := by simpa using h4
  obtain ⟨rfl, rfl⟩ := h3 rfl
  refine J_nil (el := 340) (sz := 5) <| sr <| ag rfl rfl <| nq <| J_ret <| Q_then_ret ?_
  exact J_return (_) Tryz.results308 (.tmp rfl .nil) rfl SU
  refine J_skip <| qx <| L_op <| x_lit (vals := []) Tryz.underlying177 ty340 rfl .nil .nil Wf.nil rfl (by decide) rfl rfl <| JR fun a5 c5 hw5 hl5 hm5 hz5 => mv rfl rfl <| L_op <| x_app rfl rfl Tryz.underlying177 ty340 rfl rfl PC (fun w H => hr w H.tail) (OM) (OM) rfl ?_
  refine JR fun a7 c7 hw7 hl7 hm7 hz7 => ag rfl rfl <| nq <| J_ret ?_
  exact J_return (_) Tryz.results308 (.tmp rfl .nil) rfl SU
theorem clone58 {E : World} {l : List As} {v : Value} {xs : List (List Value)} (hr : ∀ w, Sep E w l → Reads w 3 v xs) (hb : xs.length ≤ 1000000) :
    Con Tryz.prog 58 #[v] E l (fun v' : Value => v') (fun v' => row 176 3 v' xs :: l) := by
  refine Con.body (vs := [v]) (n := 8) Tryz.func58 rfl rfl [(0, v)] (env_ok 1 rfl) <| J_reads hr fun hw a cap hv h1 h2 h3 => ?_
  subst hv
  refine sr <| ag rfl rfl <| nxx <| mv rfl rfl <| L_pur rfl (p_eqnil Tryz.underlying59 rfl) <| nq ?_
  refine C_split rfl (fun h4 => ?_) (fun h4 => ?_)
  obtain rfl : a = none := by simpa using h4
  obtain ⟨rfl, rfl⟩ := h3 rfl
  refine J_nil (el := 176) (sz := 3) <| sr <| ag rfl rfl <| nq <| J_ret <| Q_then_ret ?_
  exact J_return (_) Tryz.results58 (.tmp rfl .nil) rfl SU
  refine J_skip <| qx <| L_op <| x_lit (vals := []) Tryz.underlying59 ty176 rfl .nil .nil Wf.nil rfl (by decide) rfl rfl <| JR fun a5 c5 hw5 hl5 hm5 hz5 => mv rfl rfl <| L_op <| x_app rfl rfl Tryz.underlying59 ty176 rfl rfl PC (fun w H => hr w H.tail) (OM) (OM) rfl ?_
  refine JR fun a7 c7 hw7 hl7 hm7 hz7 => ag rfl rfl <| nq <| J_ret ?_
  exact J_return (_) Tryz.results58 (.tmp rfl .nil) rfl SU
theorem clo190 {E : World} {l : List As} {bc : Nat} {i : ID} {c : Msg} (hc : Has (blk bc 39 (encI i)) l) :
    Con Tryz.prog 190 #[.agg (encM c).toArray, .pointer (some ⟨bc, 0, none⟩)] E l (fun _ : Unit => .bool (isM i c)) (fun _ => l) := by
  refine Con.body (vs := [.agg (encM c).toArray, .pointer (some ⟨bc, 0, none⟩)]) (n := 8) Tryz.func190 rfl rfl [(0, .agg (encM c).toArray), (1, .pointer (some ⟨bc, 0, none⟩))] (env_ok 2 rfl) <| sr <| L_op <| x_box rfl rfl rfl fun b2 => ag rfl rfl <| nx <| fa rfl rfl fa340_0 <| L_val rfl (v_loadA rfl ty39 HS CT) ?_
  refine L_val rfl (v_loadA rfl ty39 HS CT) ?_
  refine L_pur rfl (p_eqv rfl rfl (fun w => eg39 _ _ _ _ _ w) (fun w => eqv39 _ _ _ _ w)) <| ag rfl rfl <| nq <| J_ret ?_
  exact J_return (()) Tryz.results190 (.tmp rfl .nil) rfl SU
theorem clo192 {E : World} {l : List As} {bc : Nat} {i : ID} {c : Rcv} (hc : Has (blk bc 39 (encI i)) l) :
    Con Tryz.prog 192 #[.agg (encR c).toArray, .pointer (some ⟨bc, 0, none⟩)] E l (fun _ : Unit => .bool (isR i c)) (fun _ => l) := by
  refine Con.body (vs := [.agg (encR c).toArray, .pointer (some ⟨bc, 0, none⟩)]) (n := 8) Tryz.func192 rfl rfl [(0, .agg (encR c).toArray), (1, .pointer (some ⟨bc, 0, none⟩))] (env_ok 2 rfl) <| sr <| L_op <| x_box rfl rfl rfl fun b2 => ag rfl rfl <| nx <| fa rfl rfl fa176_0 <| L_val rfl (v_loadA rfl ty39 HS CT) ?_
  refine L_val rfl (v_loadA rfl ty39 HS CT) ?_
  refine L_pur rfl (p_eqv rfl rfl (fun w => eg39 _ _ _ _ _ w) (fun w => eqv39 _ _ _ _ w)) <| ag rfl rfl <| nq <| J_ret ?_
  exact J_return (()) Tryz.results192 (.tmp rfl .nil) rfl SU
theorem epDropC {E : World} {l m : List As} {b : Nat} {out : List Msg} {inn : List Rcv} (hp : Pick (epA b out inn) l m) (hbo : out.length ≤ 100000) (hbi : inn.length ≤ 100000) {i : ID} :
    Con Tryz.prog 131 #[.pointer (some ⟨b, 0, none⟩), .agg (encI i).toArray] E l (fun _ : Unit => .bool (decide ((mdrop out i).length + (rdrop inn i).length < out.length + inn.length))) (fun _ => epA b (mdrop out i) (rdrop inn i) :: m) := by
  refine Con.body (vs := [.pointer (some ⟨b, 0, none⟩), .agg (encI i).toArray]) (n := 48) Tryz.func131 rfl rfl [(0, .pointer (some ⟨b, 0, none⟩)), (1, .agg (encI i).toArray)] (env_ok 2 rfl) <| J_pick hp <| J_epO fun vo vi _ => J_row (.there .here) fun hw a cap hv h1 h2 h3 => ?_
  subst hv
  refine J_row (.there (.there .here)) fun hw' a' cap' hv h1' h2' h3' => ?_
  subst hv
  refine sr <| L_op <| x_box rfl rfl rfl fun b3 => ag rfl rfl <| nq <| J_seq <| J_drawS mixed (by kernel_rfl) <| sm rfl rfl ?_
  refine sp rfl (p_nilCheck rfl) <| sp rfl (p_fieldAddr rfl fa179_0) <| S_val rfl (v_load rfl ty177 HS (by exact rfl)) ?_
  refine sp rfl (p_len rfl Tryz.underlying177) <| sm rfl rfl <| sp rfl (p_nilCheck rfl) <| sp rfl (p_fieldAddr rfl fa179_1) <| S_val rfl (v_load rfl ty59 HS (by exact rfl)) ?_
  refine sp rfl (p_len rfl Tryz.underlying59) <| sp rfl (p_add64 rfl rfl (by simp; omega)) <| sp rfl (p_assign rfl) <| sq <| sr <| mv rfl rfl <| mv rfl rfl <| nc rfl rfl ?_
  refine fa rfl rfl fa179_0 <| L_val rfl (v_load rfl ty177 HS (by exact rfl)) ?_
  refine L_pur rfl (p_makeFunc (.cons rfl .nil)) <| L_op <| xc fc189 (.cons rfl (.cons rfl .nil)) rfl (deletefunc189 (xs := out) (enc := encM) (q := isM i) (C := blk b3 39 (encI i)) Tryz.func190 nm190 bd190 (fun l' c hc => clo190 hc) PC HS encM_one encM_len) <| JR fun a23 c23 hw23 hl23 hm23 hz23 => nc rfl rfl <| fa rfl rfl fa179_0 <| L_op <| x_store rfl rfl ty177 rfl SM SM RO PT ?_
  refine nx <| mv rfl rfl <| mv rfl rfl <| nc rfl rfl <| fa rfl rfl fa179_1 <| L_val rfl (v_load rfl ty59 HS (by exact rfl)) ?_
  refine L_pur rfl (p_makeFunc (.cons rfl .nil)) <| L_op <| xc fc191 (.cons rfl (.cons rfl .nil)) rfl (deletefunc191 (xs := inn) (enc := encR) (q := isR i) (C := blk b3 39 (encI i)) Tryz.func192 nm192 bd192 (fun l' c hc => clo192 hc) PC HS encR_one encR_len) <| JR fun a32 c32 hw32 hl32 hm32 hz32 => nc rfl rfl <| fa rfl rfl fa179_1 <| L_op <| x_store rfl rfl ty59 rfl SM SM RO PT ?_
  refine nq <| J_seq <| J_drawS mixed (by kernel_rfl) <| sm rfl rfl <| sp rfl (p_nilCheck rfl) <| sp rfl (p_fieldAddr rfl fa179_0) <| S_val rfl (v_load rfl ty177 HS (by exact rfl)) ?_
  refine sp rfl (p_len rfl Tryz.underlying177) <| sm rfl rfl <| sp rfl (p_nilCheck rfl) <| sp rfl (p_fieldAddr rfl fa179_1) <| S_val rfl (v_load rfl ty59 HS (by exact rfl)) ?_
  refine sp rfl (p_len rfl Tryz.underlying59) <| sp rfl (p_add64 rfl rfl (by have := List.length_filter_le (fun c => !isM i c) out; have := List.length_filter_le (fun c => !isR i c) inn; simp; omega)) <| sm rfl rfl <| sp rfl (p_lss rfl rfl) <| sp rfl (p_assign rfl) <| sq <| J_ret <| J_epS (b := b) (out := (mdrop out i)) (inn := (rdrop inn i)) _ _ PX trivial ?_
  refine J_return (()) Tryz.results131 (.tmp rfl .nil) ?_ ?_
  · simp only [one, List.length_map, mdrop, rdrop]; congr 1; rw [decide_eq_decide]; omega
  · exact SU
theorem epSenders {E : World} {l m : List As} {b : Nat} {out : List Msg} {inn : List Rcv} (hp : Pick (epA b out inn) l m) (hbo : out.length ≤ 100000) (hbi : inn.length ≤ 100000) :
    Con Tryz.prog 300 #[.pointer (some ⟨b, 0, none⟩)] E l (fun v : Value => v) (fun v => row 340 5 v (out.map encM) :: epA b out inn :: m) := by
  refine Con.body (vs := [.pointer (some ⟨b, 0, none⟩)]) (n := 8) Tryz.func300 rfl rfl [(0, .pointer (some ⟨b, 0, none⟩))] (env_ok 1 rfl) <| J_pick hp <| J_epO fun vo vi _ => J_row (.there .here) fun hw a cap hv h1 h2 h3 => ?_
  subst hv
  refine J_row (.there (.there .here)) fun hw' a' cap' hv h1' h2' h3' => ?_
  subst hv
  refine sr <| ag rfl rfl <| nx <| mv rfl rfl <| nc rfl rfl <| fa rfl rfl fa179_0 <| L_val rfl (v_load rfl ty177 HS (by exact rfl)) ?_
  refine L_op <| xc fc308 (.cons rfl .nil) rfl (clone308 (xs := out.map encM) (fun w H => sep_reads (xs := out.map encM) HS H) (by simp; omega)) <| JR fun a7 c7 hw7 hl7 hm7 hz7 => ag rfl rfl <| nq <| J_ret <| J_epS (b := b) (out := out) (inn := inn) _ _ PX trivial ?_
  exact J_return (_) Tryz.results300 (.tmp rfl .nil) rfl SU
theorem epReceivers {E : World} {l m : List As} {b : Nat} {out : List Msg} {inn : List Rcv} (hp : Pick (epA b out inn) l m) (hbo : out.length ≤ 100000) (hbi : inn.length ≤ 100000) :
    Con Tryz.prog 28 #[.pointer (some ⟨b, 0, none⟩)] E l (fun v : Value => v) (fun v => row 176 3 v (inn.map encR) :: epA b out inn :: m) := by
  refine Con.body (vs := [.pointer (some ⟨b, 0, none⟩)]) (n := 8) Tryz.func28 rfl rfl [(0, .pointer (some ⟨b, 0, none⟩))] (env_ok 1 rfl) <| J_pick hp <| J_epO fun vo vi _ => J_row (.there .here) fun hw a cap hv h1 h2 h3 => ?_
  subst hv
  refine J_row (.there (.there .here)) fun hw' a' cap' hv h1' h2' h3' => ?_
  subst hv
  refine sr <| ag rfl rfl <| nx <| mv rfl rfl <| nc rfl rfl <| fa rfl rfl fa179_1 <| L_val rfl (v_load rfl ty59 HS (by exact rfl)) ?_
  refine L_op <| xc fc58 (.cons rfl .nil) rfl (clone58 (xs := inn.map encR) (fun w H => sep_reads (xs := inn.map encR) HS H) (by simp; omega)) <| JR fun a7 c7 hw7 hl7 hm7 hz7 => ag rfl rfl <| nq <| J_ret <| J_epS (b := b) (out := out) (inn := inn) _ _ PX trivial ?_
  exact J_return (_) Tryz.results28 (.tmp rfl .nil) rfl SU
theorem indexfunc247 {E : World} {l : List As} {v : Value} {α : Type} {enc : α → List Value} {xs : List α} {g : FuncId} {caps : Array Value} {fn : Func} (hf : Tryz.prog.funcs[g]? = some fn) (hn : (fn.name == "runtime.NumGoroutine") = false) (hb : fn.body.isNone = false) {q : α → Bool} {C : As} (hg : ∀ (l' : List As) (c : α), Has C l' → Con Tryz.prog g (#[.agg (enc c).toArray] ++ caps) E l' (fun _ : Unit => .bool (q c)) (fun _ => l')) (hv : Has (row 350 3 v (xs.map enc)) l) (hc : Has C l) :
    Con Tryz.prog 247 #[v, .func (.func g) #[] caps] E l (fun _ : Unit => .int .i64 (idx q xs)) (fun _ => l) := by
  refine Con.body (vs := [v, .func (.func g) #[] caps]) (n := 19) Tryz.func247 rfl rfl [(0, v), (1, .func (.func g) #[] caps)] (env_ok 2 rfl) <| J_row hv fun hw a cap hv h1 h2 h3 => ?_
  subst hv
  have hm : cap ≤ 9223372036854775807 := h2
  have hml : (xs.map enc).length = xs.length := List.length_map _
  refine sr <| ag rfl rfl <| nxx <| mv rfl rfl <| L_pur rfl (p_len rfl Tryz.underlying121) <| mv rfl rfl <| nq <| J_block ?_
  refine J_loop (α := Nat) (fun i => i ≤ xs.length ∧ ∀ c ∈ xs.take i, q c = false) (fun _ => l) (fun i => [(8, .int .i64 (i : Int)), (7, .int .i64 (xs.map enc).length), (0, .slice a (xs.map enc).length cap), (1, .func (.func g) #[] caps)]) (fun i => xs.length - i) 0 ⟨by omega, by simp⟩ SU KE ?_
  intro i ⟨hi, hq⟩
  refine sr <| L_pur rfl (p_lss rfl rfl) <| nq <| J_seq ?_
  refine C_dec rfl (fun h9 => ?_) (fun h9 => ?_)
  have hlt : i < xs.length := by omega
  obtain ⟨b, o, rfl⟩ := h3 (by intro h; rw [h] at hml; simp at hml; omega)
  obtain ⟨c, hcc⟩ : ∃ c, xs[i]? = some c := ⟨_, List.getElem?_eq_getElem hlt⟩
  refine J_skip <| Q_then <| J_seq <| J_block <| sr <| mv rfl rfl <| ag rfl rfl <| nx ?_
  refine mv rfl rfl <| mv rfl rfl <| mv rfl rfl <| L_pur rfl (p_indexAddr rfl rfl Tryz.underlying121 ty350 (by omega) (by omega)) ?_
  refine L_val rfl (v_loadE rfl ty350 HS (by simp only [Int.toNat_natCast, List.getElem?_map, hcc]; rfl)) ?_
  refine L_op <| x_callc rfl hf hn hb (.cons rfl .nil) rfl (hg _ c hc) fun _ => nq ?_
  refine C_split rfl (fun h16 => ?_) (fun h16 => ?_)
  have hidx := idx_here hq hcc h16
  refine sr <| mv rfl rfl <| ag rfl rfl <| nq <| J_ret <| Q_blk_ret <| Q_then_ret <| Q_then_ret ?_
  refine Q_blk_ret <| Q_then_ret ?_
  refine J_return (()) Tryz.results247 (.tmp rfl .nil) ?_ ?_
  · simp [one, hidx]
  · exact SU
  refine J_skip <| Q_blk_normal <| qr <| L_pur rfl (p_add64 rfl rfl (by omega)) <| mv rfl rfl <| nq ?_
  exact J_again (i + 1) (by omega) (⟨by omega, take_false_succ hq hcc h16⟩) SU KE
  have hix : i = xs.length := by omega
  rw [hix, List.take_length] at hq
  have hidx := idx_none hq
  refine J_exit <| Q_then_exit <| Q_then_exit <| Q_blk_this <| qx <| ag rfl rfl <| nq <| J_ret ?_
  refine J_return (()) Tryz.results247 (.tmp rfl .nil) ?_ ?_
  · simp [one, hidx]
  · exact SU
theorem deletefunc187 {E : World} {l m : List As} {v : Value} {α : Type} {enc : α → List Value} {xs : List α} {g : FuncId} {caps : Array Value} {fn : Func} (hf : Tryz.prog.funcs[g]? = some fn) (hn : (fn.name == "runtime.NumGoroutine") = false) (hb : fn.body.isNone = false) {q : α → Bool} {C : As} (hg : ∀ (l' : List As) (c : α), Has C l' → Con Tryz.prog g (#[.agg (enc c).toArray] ++ caps) E l' (fun _ : Unit => .bool (q c)) (fun _ => l')) (hv : Pick (row 350 3 v (xs.map enc)) l m) (hc : Has C m) (hone : ∀ c, ones (enc c) = true) (hlen : ∀ c, (enc c).length = 3) :
  Con Tryz.prog 187 #[v, .func (.func g) #[] caps] E l (fun v' : Value => v') (fun v' => row 350 3 v' ((xs.filter fun c => !q c).map enc) :: m) := by
 rcases idx_cases q xs with ⟨hi0, hall⟩ | ⟨i0, hi0, hlt0, hpre, c0, hc0, hq0⟩
 ·
  refine Con.body (vs := [v, .func (.func g) #[] caps]) (n := 42) Tryz.func187 rfl rfl [(0, v), (1, .func (.func g) #[] caps)] (env_ok 2 rfl) <| J_pick hv <| sr <| ag rfl rfl <| nx <| mv rfl rfl <| mv rfl rfl <| L_op <| xc fc247 (.cons rfl (.cons rfl .nil)) rfl (indexfunc247 hf hn hb hg .here (.there hc)) fun _ => ?_
  refine ag rfl rfl <| nxx <| mv rfl rfl <| L_pur rfl (p_eql rfl rfl) <| nq <| J_bool (t := 12) (c := true) rfl (by simp [hi0]) <| C_true rfl <| sr ?_
  refine J_rowEq (ys := (xs.filter fun c => !q c).map enc) (by rw [List.filter_eq_self.2 (fun c hc => by simp [hall c hc])]) <| mv rfl rfl <| ag rfl rfl <| nq <| J_ret <| Q_then_ret ?_
  exact J_return (_) Tryz.results187 (.tmp rfl .nil) rfl SU
 ·
  refine Con.body (vs := [v, .func (.func g) #[] caps]) (n := 42) Tryz.func187 rfl rfl [(0, v), (1, .func (.func g) #[] caps)] (env_ok 2 rfl) <| J_pick hv <| J_row .here fun hw a cap hv h1 h2 h3 => ?_
  obtain ⟨b, o, rfl⟩ := h3 (by intro h; have := congrArg List.length h; simp at this; subst this; simp at hlt0)
  subst hv
  have hm : cap ≤ 9223372036854775807 := h2
  have hml : (xs.map enc).length = xs.length := List.length_map _
  have hk0 : kept q xs (i0 + 1) = xs.take i0 := kept_first hpre hc0 hq0
  have hl0 : (xs.take i0).length = i0 := by simp; omega
  refine sr <| ag rfl rfl <| nx <| mv rfl rfl <| mv rfl rfl <| L_op <| xc fc247 (.cons rfl (.cons rfl .nil)) rfl (indexfunc247 hf hn hb hg .here (.there hc)) fun _ => J_slot (t := 10) (v := .int .i64 (i0 : Int)) rfl (by rw [hi0]) ?_
  refine ag rfl rfl <| nxx <| mv rfl rfl <| L_pur rfl (p_eql rfl rfl) <| nq <| J_bool (t := 12) (c := false) rfl (by simp) <| C_false rfl <| J_skip ?_
  refine Q_then <| J_seq <| sr <| mv rfl rfl <| L_pur rfl (p_add64 rfl rfl (by omega)) <| ag rfl rfl <| nq <| J_block ?_
  refine J_rowEq (ys := (kept q xs (i0 + 1) ++ xs.drop (kept q xs (i0 + 1)).length).map enc) (by rw [hk0, hl0, List.take_append_drop]) <| J_slot (t := 5) (v := .int .i64 ((kept q xs (i0 + 1)).length : Int)) rfl (by rw [hk0, hl0]) <| J_loop (α := Nat) (fun j => j ≤ xs.length) (fun j => row 350 3 (.slice (some ⟨b, o, none⟩) (xs.map enc).length cap) ((kept q xs j ++ xs.drop (kept q xs j).length).map enc) :: m) (fun j => [(6, .int .i64 (j : Int)), (5, .int .i64 ((kept q xs j).length : Int)), (0, .slice (some ⟨b, o, none⟩) (xs.map enc).length cap), (1, .func (.func g) #[] caps)]) (fun j => xs.length - j) (i0 + 1) (by omega) SU KE ?_
  intro j hj
  have hkl := kept_le q xs j
  refine J_seq <| sr <| mv rfl rfl <| mv rfl rfl <| L_pur rfl (p_len rfl Tryz.underlying121) <| L_pur rfl (p_lss rfl rfl) <| nq ?_
  refine C_dec rfl (fun h19 => ?_) (fun h19 => ?_)
  have hlt : j < xs.length := by omega
  obtain ⟨c, hcc⟩ : ∃ c, xs[j]? = some c := ⟨_, List.getElem?_eq_getElem hlt⟩
  refine J_skip <| Q_then <| J_seq <| J_block <| sr <| mv rfl rfl <| mv rfl rfl <| L_pur rfl (p_indexAddr rfl rfl Tryz.underlying121 ty350 (by omega) (by omega)) ?_
  refine L_val rfl (v_loadE rfl ty350 HS (by simp only [Int.toNat_natCast, List.getElem?_map, kept_get, hcc]; rfl)) ?_
  refine L_op <| x_alloc ty350 rfl fun b7 => L_op <| x_store rfl rfl ty350 rfl SM SM RO PT ?_
  refine nx <| mv rfl rfl <| L_val rfl (v_loadA rfl ty350 HS CT) ?_
  refine L_op <| x_callc rfl hf hn hb (.cons rfl .nil) rfl (hg _ c (.there (.there hc))) fun _ => L_pur rfl (p_not rfl) <| nq ?_
  refine C_split rfl (fun h29 => ?_) (fun h29 => ?_)
  have hqc : q c = false := by simpa using h29
  have hks := kept_set hcc hqc
  have hkl1 : (kept q xs (j + 1)).length = (kept q xs j).length + 1 := by rw [kept_succ hcc, hqc]; simp
  refine sr <| mv rfl rfl <| mv rfl rfl <| L_val rfl (v_loadA rfl ty350 HS CT) ?_
  refine L_pur rfl (p_indexAddr rfl rfl Tryz.underlying121 ty350 (by omega) (by omega)) <| L_op <| x_storeE (vs := enc c) rfl rfl ty350 rfl (hlen c) (hone c) PC (OM) ?_
  refine J_rowEq (ys := (kept q xs (j + 1) ++ xs.drop (kept q xs (j + 1)).length).map enc) (by rw [← hks, List.map_set]; simp) <| ny <| mv rfl rfl <| L_pur rfl (p_add64 rfl rfl (by omega)) <| ag rfl rfl <| L_nil <| Q_blk_normal <| qr ?_
  refine mv rfl rfl <| L_pur rfl (p_add64 rfl rfl (by omega)) <| ag rfl rfl <| nq <| J_slot (t := 5) (v := .int .i64 ((kept q xs (j + 1)).length : Int)) rfl (by rw [hkl1]; rfl) ?_
  exact J_again (j + 1) (by omega) (by omega) SU KE
  have hqc : q c = true := by simpa using h29
  have hks : kept q xs (j + 1) = kept q xs j := by rw [kept_succ hcc, hqc]; simp
  refine J_skip <| Q_blk_normal <| qr <| mv rfl rfl <| L_pur rfl (p_add64 rfl rfl (by omega)) <| ag rfl rfl <| nq <| J_slot (t := 5) (v := .int .i64 ((kept q xs (j + 1)).length : Int)) rfl (by rw [hks]) ?_
  refine J_pick (A := row 350 3 (.slice (some ⟨b, o, none⟩) (xs.map enc).length cap) ((kept q xs j ++ xs.drop (kept q xs j).length).map enc)) PC ?_
  refine J_rowEq (ys := (kept q xs (j + 1) ++ xs.drop (kept q xs (j + 1)).length).map enc) (by rw [hks]) ?_
  exact J_again (j + 1) (by omega) (by omega) SU KE
  have hjx : j = xs.length := by omega
  have hka : kept q xs j = xs.filter fun c => !q c := kept_all (by omega)
  refine J_exit <| Q_then_exit <| Q_then_exit <| Q_blk_this <| qx <| mv rfl rfl <| mv rfl rfl <| L_pur rfl (p_slice rfl Tryz.underlying121 ty350 rfl rfl (by omega) (by omega) (by omega)) ?_
  refine L_op <| x_clear (len := (xs.map enc).length) rfl Tryz.underlying121 ty350 rfl rfl PC (OM) ?_
  refine nx <| mv rfl rfl <| mv rfl rfl <| L_pur rfl (p_slice rfl Tryz.underlying121 ty350 rfl rfl (by omega) (by omega) (by omega)) <| J_take (k := (kept q xs j).length) (OM) <| J_rowTo (v' := .slice (some ⟨b, o, none⟩) (kept q xs j).length cap) (ys := (xs.filter fun c => !q c).map enc) (by simp [hka]) rfl <| J_slot (t := 41) (v := .slice (some ⟨b, o, none⟩) (kept q xs j).length cap) rfl (by simp [Addr.add]) <| ag rfl rfl ?_
  refine nq <| J_ret ?_
  exact J_return (_) Tryz.results187 (.tmp rfl .nil) rfl SU
theorem clo188 {E : World} {l : List As} {bc : Nat} {i : ID} {c : Tm} (hc : Has (blk bc 39 (encI i)) l) :
    Con Tryz.prog 188 #[.agg (encT c).toArray, .pointer (some ⟨bc, 0, none⟩)] E l (fun _ : Unit => .bool (isTm i c)) (fun _ => l) := by
  refine Con.body (vs := [.agg (encT c).toArray, .pointer (some ⟨bc, 0, none⟩)]) (n := 8) Tryz.func188 rfl rfl [(0, .agg (encT c).toArray), (1, .pointer (some ⟨bc, 0, none⟩))] (env_ok 2 rfl) <| sr <| L_op <| x_box rfl rfl rfl fun b2 => ag rfl rfl <| nx <| fa rfl rfl fa350_1 <| L_val rfl (v_loadA rfl ty39 HS CT) ?_
  refine L_val rfl (v_loadA rfl ty39 HS CT) ?_
  refine L_pur rfl (p_eqv rfl rfl (fun w => eg39 _ _ _ _ _ w) (fun w => eqv39 _ _ _ _ w)) <| ag rfl rfl <| nq <| J_ret ?_
  exact J_return (()) Tryz.results188 (.tmp rfl .nil) rfl SU
theorem tmrDropC {E : World} {l m : List As} {b o : Nat} {xs : List Tm} (hp : Pick (tmrA b o xs) l m) (hb : xs.length ≤ 100000) {i : ID} :
    Con Tryz.prog 130 #[.pointer (some ⟨b, o, none⟩), .agg (encI i).toArray] E l (fun _ : Unit => .bool (decide ((tdrop xs i).length < xs.length))) (fun _ => tmrA b o (tdrop xs i) :: m) := by
  refine Con.body (vs := [.pointer (some ⟨b, o, none⟩), .agg (encI i).toArray]) (n := 27) Tryz.func130 rfl rfl [(0, .pointer (some ⟨b, o, none⟩)), (1, .agg (encI i).toArray)] (env_ok 2 rfl) <| J_pick hp <| J_tmrO fun v _ => J_row (.there .here) fun hw a cap hv h1 h2 h3 => ?_
  subst hv
  have hm : cap ≤ 9223372036854775807 := h2
  have hml : (xs.map encT).length = xs.length := List.length_map _
  refine sr <| L_op <| x_box rfl rfl rfl fun b3 => ag rfl rfl <| nx <| mv rfl rfl <| nc rfl rfl <| fa rfl rfl fa123_0 ?_
  refine L_val rfl (v_loadL rfl ty121 HS rfl (by exact rfl)) ?_
  refine L_pur rfl (p_len rfl Tryz.underlying121) <| ag rfl rfl <| nx <| mv rfl rfl <| mv rfl rfl <| nc rfl rfl <| fa rfl rfl fa123_0 <| L_val rfl (v_loadL rfl ty121 HS rfl (by exact rfl)) ?_
  refine L_pur rfl (p_makeFunc (.cons rfl .nil)) <| L_op <| xc fc187 (.cons rfl (.cons rfl .nil)) rfl (deletefunc187 (xs := xs) (enc := encT) (q := isTm i) (C := blk b3 39 (encI i)) Tryz.func188 nm188 bd188 (fun l' c hc => clo188 hc) PC HS encT_one encT_len) <| JR fun a17 c17 hw17 hl17 hm17 hz17 => nc rfl rfl <| fa rfl rfl fa123_0 <| L_op <| x_storeL rfl rfl ty121 rfl SM SM rfl RO rfl PT ?_
  refine nx <| mv rfl rfl <| nc rfl rfl <| fa rfl rfl fa123_0 <| L_val rfl (v_loadL rfl ty121 HS rfl (by exact rfl)) ?_
  refine L_pur rfl (p_len rfl Tryz.underlying121) <| mv rfl rfl <| L_pur rfl (p_lss rfl rfl) <| ag rfl rfl <| nq <| J_ret <| J_tmrS (b := b) (o := o) (xs := tdrop xs i) _ PX trivial ?_
  refine J_return (()) Tryz.results130 (.tmp rfl .nil) ?_ ?_
  · simp [one]
  · exact SU
def cDrop (c : ID × Bool) (i : ID) : ID × Bool := if c.2 = true ∧ c.1 = i then ((0, 0), false) else c
theorem rpDropC {E : World} {l m : List As} {b : Nat} {c : ID × Bool} (hp : Pick (rpA b c) l m) {i : ID} :
    Con Tryz.prog 133 #[.pointer (some ⟨b, 0, none⟩), .agg (encI i).toArray] E l (fun _ : Unit => .bool (decide (c.2 = true ∧ c.1 = i))) (fun _ => rpA b (cDrop c i) :: m) := by
  refine Con.body (vs := [.pointer (some ⟨b, 0, none⟩), .agg (encI i).toArray]) (n := 21) Tryz.func133 rfl rfl [(0, .pointer (some ⟨b, 0, none⟩)), (1, .agg (encI i).toArray)] (env_ok 2 rfl) <| J_pick hp <| J_asTo (B := blk b 273 [.int .i64 c.1.1, .int .i64 c.1.2, .bool c.2]) (by rfl) <| sr <| L_op <| x_box rfl rfl rfl fun b3 => ag rfl rfl <| nq ?_
  refine J_seq <| J_seq <| J_drawS mixed (by kernel_rfl) <| sm rfl rfl <| sp rfl (p_nilCheck rfl) <| sp rfl (p_fieldAddr rfl fa273_1) <| S_val rfl (v_load rfl ty4 HS (by exact rfl)) ?_
  refine sp rfl (p_not rfl) <| sm rfl rfl ?_
  refine J_gsplit (t := 10) rfl (fun h10 => ?_) (fun h10 => ?_)
  have hno : ¬ (c.2 = true ∧ c.1 = i) := fun e => by rw [e.1] at h10; simp at h10
  refine S_off rfl rfl rfl rfl rfl <| S_off rfl rfl rfl rfl rfl <| S_off rfl rfl rfl rfl rfl <| S_off rfl rfl rfl rfl rfl <| S_off rfl rfl rfl rfl rfl <| S_off rfl rfl rfl rfl rfl <| sp rfl (p_pick_t rfl rfl) <| sq ?_
  refine C_true rfl <| sr <| ag rfl rfl <| nq <| J_ret <| Q_then_ret <| J_pick (A := blk b _ _) PC ?_
  refine J_asTo (B := rpA b (cDrop c i)) (by rw [cDrop, if_neg hno]; rfl) ?_
  refine J_return (()) Tryz.results133 (.tmp rfl .nil) ?_ ?_
  · simp [one, hno]
  · exact SU
  refine S_on rfl rfl rfl rfl (Pur.vl (p_move rfl)) <| S_on rfl rfl rfl rfl (Pur.vl (p_nilCheck rfl)) <| S_on rfl rfl rfl rfl (Pur.vl (p_fieldAddr rfl fa273_0)) <| S_on rfl rfl rfl rfl (v_loadA rfl ty39 HS CT) ?_
  refine S_on rfl rfl rfl rfl (v_loadA rfl ty39 HS CT) ?_
  refine S_on rfl rfl rfl rfl (Pur.vl (p_nev rfl rfl (fun w => eg39 _ _ _ _ _ w) (fun w => nev39 _ _ _ _ w))) <| sp rfl (p_pick_f rfl rfl) <| sq ?_
  refine C_split rfl (fun h17 => ?_) (fun h17 => ?_)
  have hno : ¬ (c.2 = true ∧ c.1 = i) := fun e => by rw [← e.2] at h17; simp at h17
  refine sr <| ag rfl rfl <| nq <| J_ret <| Q_then_ret <| J_pick (A := blk b _ _) PC ?_
  refine J_asTo (B := rpA b (cDrop c i)) (by rw [cDrop, if_neg hno]; rfl) ?_
  refine J_return (()) Tryz.results133 (.tmp rfl .nil) ?_ ?_
  · simp [one, hno]
  · exact SU
  have hyes : c.2 = true ∧ c.1 = i := ⟨by simpa using h10, by simp at h17; exact Prod.ext h17.1 h17.2⟩
  refine J_skip <| qx <| mv rfl rfl <| L_pur rfl (bld273 .nil (by repeat constructor)) <| nc rfl rfl <| L_op <| x_store rfl rfl ty273 rfl SM SM RO PT ?_
  refine nx <| ag rfl rfl <| nq <| J_ret <| J_pick (A := blk b _ _) PC ?_
  refine J_asTo (B := rpA b (cDrop c i)) (by rw [cDrop, if_pos hyes]; rfl) ?_
  refine J_return (()) Tryz.results133 (.tmp rfl .nil) ?_ ?_
  · simp [one, hyes]
  · exact SU
theorem rpCaller {E : World} {l m : List As} {b : Nat} {c : ID × Bool} (hp : Pick (rpA b c) l m) :
    Con Tryz.prog 244 #[.pointer (some ⟨b, 0, none⟩)] E l (fun _ : Unit => .tuple #[.agg (encI c.1).toArray, .bool c.2]) (fun _ => rpA b c :: m) := by
  refine Con.body (vs := [.pointer (some ⟨b, 0, none⟩)]) (n := 12) Tryz.func244 rfl rfl [(0, .pointer (some ⟨b, 0, none⟩))] (env_ok 1 rfl) <| J_pick hp <| J_asTo (B := blk b 273 [.int .i64 c.1.1, .int .i64 c.1.2, .bool c.2]) (by rfl) <| sr <| L_op <| x_alloc ty39 rfl fun b2 => ag rfl rfl <| nq ?_
  refine J_seq <| J_drawL (some 8) mixed <| ip 0 rfl rfl rfl rfl (p_move rfl) <| ip 1 rfl rfl rfl rfl (p_nilCheck rfl) <| ip 2 rfl rfl rfl rfl (p_fieldAddr rfl fa273_0) <| iv 3 rfl rfl rfl rfl (fun _ => v_loadA rfl ty39 HS CT) ?_
  refine ip 4 rfl rfl rfl rfl (p_move rfl) <| ip 5 rfl rfl rfl rfl (p_nilCheck rfl) <| ip 6 rfl rfl rfl rfl (p_fieldAddr rfl fa273_1) <| I_ready (rs := [7, 8]) SI (by kernel_rfl) (by simp) ?_
  refine (I_cons rfl ?_ (I_cons rfl ?_ I_nil))
  refine J_val (v_load rfl ty4 HS (by exact rfl)) rfl rfl rfl ?_
  refine i1 8 rfl <| x_store rfl rfl ty39 rfl SM SM RO PT ?_
  refine ip 9 rfl rfl rfl rfl (p_assign rfl) <| i0 <| Q_then <| J_ret <| J_pick (A := blk b _ _) PC ?_
  refine J_asTo (B := rpA b c) (by rfl) ?_
  refine J_return (()) Tryz.results244 (.cellA rfl ty39 HS CT (.tmp rfl .nil)) ?_ ?_
  · rfl
  · exact SU
  refine x_store rfl rfl ty39 rfl SM SM RO PT ?_
  refine i1 7 rfl <| J_val (v_load rfl ty4 HS (by exact rfl)) rfl rfl rfl ?_
  refine ip 9 rfl rfl rfl rfl (p_assign rfl) <| i0 <| Q_then <| J_ret <| J_pick (A := blk b _ _) PC ?_
  refine J_asTo (B := rpA b c) (by rfl) ?_
  refine J_return (()) Tryz.results244 (.cellA rfl ty39 HS CT (.tmp rfl .nil)) ?_ ?_
  · rfl
  · exact SU
end Go.Pse
namespace Go.Pse
open Go.RowKit Go.Proofs
/-! ### plain: one object of the state is changed, all of them, those below a unit -/
section
variable {α : Type}
def updO (xs : List (Int × Nat × α)) (u : Int) (f : α → α) : List (Int × Nat × α) := xs.map fun x => if x.1 = u then (x.1, x.2.1, f x.2.2) else x
def mapTo (f : α → α) (k : Int) (xs : List (Int × Nat × α)) : List (Int × Nat × α) := xs.map fun x => if x.1 < k then (x.1, x.2.1, f x.2.2) else x
def allO (f : α → α) (xs : List (Int × Nat × α)) : List (Int × Nat × α) := xs.map fun x => (x.1, x.2.1, f x.2.2)
variable {xs : List (Int × Nat × α)} {u k : Int} {f : α → α}
theorem ptrs_updO : ptrs (updO xs u f) = ptrs xs := by
  unfold ptrs updO; rw [List.map_map]; refine List.map_congr_left fun x _ => ?_
  simp only [Function.comp]; split <;> rfl
theorem ptrs_mapTo : ptrs (mapTo f k xs) = ptrs xs := by
  unfold ptrs mapTo; rw [List.map_map]; refine List.map_congr_left fun x _ => ?_
  simp only [Function.comp]; split <;> rfl
theorem look_ptrs : ∀ {xs : List (Int × Nat × α)}, look (ptrs xs) u = (look xs u).map Prod.fst
  | [] => rfl
  | x :: xs => by
    show look ((x.1, x.2.1) :: ptrs xs) u = _
    rw [look_cons, look_cons, look_ptrs (xs := xs)]
    split <;> rfl
theorem look_got {b : Nat} (h : look (ptrs xs) u = some b) : ∃ a, look xs u = some (b, a) := by
  rw [look_ptrs] at h
  obtain ⟨⟨b', a⟩, h1, rfl⟩ := Option.map_eq_some_iff.1 h
  exact ⟨a, h1⟩
theorem look_is {b : Nat} {a : α} (h : look xs u = some (b, a)) : look (ptrs xs) u = some b := by rw [look_ptrs, h]; rfl
theorem look_ix {v : Nat × α} (h : look xs u = some v) : ∃ i : Nat, xs[i]? = some (u, v) := List.getElem?_of_mem (mem_look h)
theorem updO_set {i b : Nat} {a : α} (hK : Keyd (ptrs xs)) (hi : xs[i]? = some (u, b, a)) : updO xs u f = xs.set i (u, b, f a) := by
  have hl := (List.getElem?_eq_some_iff.1 hi).1
  refine List.ext_getElem? fun j => ?_
  unfold updO
  rw [List.getElem?_map, List.getElem?_set]
  by_cases hij : i = j
  · subst hij
    rw [hi, if_pos rfl, if_pos hl]; simp
  · rw [if_neg hij]
    cases hj : xs[j]? with
    | none => rfl
    | some x =>
      have : x.1 ≠ u := fun e => hij (by
        have hn : (xs.map Prod.fst).Nodup := by
          have e2 : (ptrs xs).map Prod.fst = xs.map Prod.fst := by unfold ptrs; rw [List.map_map]; rfl
          have hK' := hK
          unfold Keyd at hK'
          rw [e2] at hK'
          exact hK'
        exact nodup_idx hn (by rw [List.getElem?_map, hi]; rfl) (by rw [List.getElem?_map, hj]; exact congrArg some e))
      simp [this]
theorem mapTo_up : updO (mapTo f k xs) k f = mapTo f (k + 1) xs := by
  unfold updO mapTo
  rw [List.map_map]
  refine List.map_congr_left fun x _ => ?_
  simp only [Function.comp]
  by_cases h1 : x.1 < k
  · rw [if_pos h1, if_neg (by show ¬ x.1 = k; omega), if_pos (by omega)]
  · rw [if_neg h1]
    by_cases h2 : x.1 = k
    · rw [if_pos h2, if_pos (by omega)]
    · rw [if_neg h2, if_neg (by omega)]
theorem mapTo_no (h : look (ptrs xs) k = none) : mapTo f k xs = mapTo f (k + 1) xs := by
  unfold mapTo
  refine List.map_congr_left fun x hx => ?_
  have : x.1 ≠ k := fun e => look_none_iff.1 h (List.mem_map.2 ⟨(x.1, x.2.1), List.mem_map.2 ⟨x, hx, rfl⟩, e⟩)
  by_cases h1 : x.1 < k
  · rw [if_pos h1, if_pos (by omega)]
  · rw [if_neg h1, if_neg (by omega)]
theorem mapTo_one (h : ∀ x ∈ xs, 1 ≤ x.1 ∧ x.1 ≤ 64) : mapTo f 1 xs = xs := by
  unfold mapTo
  conv => rhs; rw [← List.map_id xs]
  refine List.map_congr_left fun x hx => ?_
  rw [if_neg (by have := h x hx; omega)]; rfl
theorem mapTo_all (h : ∀ x ∈ xs, 1 ≤ x.1 ∧ x.1 ≤ 64) : mapTo f 65 xs = allO f xs := by
  unfold mapTo allO
  refine List.map_congr_left fun x hx => ?_
  rw [if_pos (by have := h x hx; omega)]
theorem updO_mem {x : Int × Nat × α} (h : x ∈ updO xs u f) : ∃ y ∈ xs, x.1 = y.1 ∧ (x.2.2 = y.2.2 ∨ x.2.2 = f y.2.2) := by
  obtain ⟨y, hy, rfl⟩ := List.mem_map.1 h
  refine ⟨y, hy, ?_⟩
  split
  · exact ⟨rfl, .inr rfl⟩
  · exact ⟨rfl, .inl rfl⟩
theorem mapTo_mem {x : Int × Nat × α} (h : x ∈ mapTo f k xs) : ∃ y ∈ xs, x.1 = y.1 ∧ (x.2.2 = y.2.2 ∨ x.2.2 = f y.2.2) := by
  obtain ⟨y, hy, rfl⟩ := List.mem_map.1 h
  refine ⟨y, hy, ?_⟩
  split
  · exact ⟨rfl, .inr rfl⟩
  · exact ⟨rfl, .inl rfl⟩
end
def epD (i : ID) (a : List Msg × List Rcv) : List Msg × List Rcv := (mdrop a.1 i, rdrop a.2 i)
def ntD (i : ID) (a : Int × List ID) : Int × List ID := (a.1, ldrop a.2 i)
def rpD (i : ID) (a : ID × Bool) : ID × Bool := cDrop a i
def ntS (x : Int) (a : Int × List ID) : Int × List ID := (sigW a.1 a.2 x, sigL a.1 a.2 x)
structure Fits (s : KS) (N M : Nat) : Prop where
  n : N ≤ 90000
  mm : M ≤ 90000
  ids : Ids s.rt
  jn : s.jn.length + s.rt.length ≤ M
  tm : s.tm.length ≤ N
  ep : ∀ x ∈ s.ep, (1 ≤ x.1 ∧ x.1 ≤ 64) ∧ x.2.2.1.length ≤ N ∧ x.2.2.2.length ≤ N
  nt : ∀ x ∈ s.nt, (1 ≤ x.1 ∧ x.1 ≤ 64) ∧ x.2.2.2.length ≤ N
  rp : ∀ x ∈ s.rp, 1 ≤ x.1 ∧ x.1 ≤ 64
  rg : ∀ x ∈ s.rg, RgOk x.2.2 ∧ x.2.2.over.length + s.rt.length ≤ M
  mem : MemOk s.mem
def forTo (s : KS) (i : ID) (k : Int) : KS := { s with tm := tdrop s.tm i, ep := mapTo (epD i) k s.ep, nt := mapTo (ntD i) k s.nt, rp := mapTo (rpD i) k s.rp }
def kForget (s : KS) (i : ID) : KS := { s with tm := tdrop s.tm i, ep := allO (epD i) s.ep, nt := allO (ntD i) s.nt, rp := allO (rpD i) s.rp }
theorem forTo_one {s : KS} {N M : Nat} (h : Fits s N M) (i : ID) : forTo s i 1 = { s with tm := tdrop s.tm i } := by
  unfold forTo
  rw [mapTo_one fun x hx => (h.ep x hx).1, mapTo_one fun x hx => (h.nt x hx).1, mapTo_one h.rp]
theorem forTo_all {s : KS} {N M : Nat} (h : Fits s N M) (i : ID) : forTo s i 65 = kForget s i := by
  unfold forTo kForget
  rw [mapTo_all fun x hx => (h.ep x hx).1, mapTo_all fun x hx => (h.nt x hx).1, mapTo_all h.rp]
theorem Fits.forTo {s : KS} {N M : Nat} (h : Fits s N M) (i : ID) (k : Int) : Fits (forTo s i k) N M where
  n := h.n
  mm := h.mm
  ids := h.ids
  jn := h.jn
  tm := Nat.le_trans (List.length_filter_le _ _) h.tm
  ep := fun x hx => by
    obtain ⟨y, hy, h1, h2⟩ := mapTo_mem hx
    obtain ⟨g1, g2, g3⟩ := h.ep y hy
    rw [h1]
    rcases h2 with h2 | h2 <;> rw [h2]
    · exact ⟨g1, g2, g3⟩
    · exact ⟨g1, Nat.le_trans (List.length_filter_le _ _) g2, Nat.le_trans (List.length_filter_le _ _) g3⟩
  nt := fun x hx => by
    obtain ⟨y, hy, h1, h2⟩ := mapTo_mem hx
    obtain ⟨g1, g2⟩ := h.nt y hy
    rw [h1]
    rcases h2 with h2 | h2 <;> rw [h2]
    · exact ⟨g1, g2⟩
    · exact ⟨g1, Nat.le_trans (ldrop_len _ _) g2⟩
  rp := fun x hx => by
    obtain ⟨y, hy, h1, h2⟩ := mapTo_mem hx
    rw [h1]; exact h.rp y hy
  rg := h.rg
  mem := h.mem
theorem Fits.forget {s : KS} {N M : Nat} (h : Fits s N M) (i : ID) : Fits (kForget s i) N M := by rw [← forTo_all h]; exact h.forTo i 65
theorem Fits.jnl {s : KS} {N M : Nat} (h : Fits s N M) (hm : M + 1 ≤ 90000) (d : Deed) : Fits { s with jn := s.jn ++ [d] } N (M + 1) :=
  ⟨h.n, hm, h.ids, by have := h.jn; simp; omega, h.tm, h.ep, h.nt, h.rp, fun x hx => by have := h.rg x hx; exact ⟨this.1, by have := this.2; show _ + s.rt.length ≤ _; omega⟩, h.mem⟩
theorem del_less {κ υ : Type} [DecidableEq κ] {ps : List (κ × υ)} {i : κ} {q : υ} (h : look ps i = some q) : (del ps i).length + 1 ≤ ps.length := by
  have := List.length_filter_lt_length_iff_exists (p := fun p : κ × υ => !decide (p.1 = i)) (l := ps) |>.2 ⟨(i, q), mem_look h, by simp⟩
  unfold del; omega
theorem del_le {κ υ : Type} [DecidableEq κ] {ps : List (κ × υ)} {i : κ} : (del ps i).length ≤ ps.length := List.length_filter_le _ _
theorem Fits.drop {s : KS} {N M : Nat} (h : Fits s N (M + 1)) {i : ID} {q : Rq} (hq : look s.rt i = some q) : Fits { s with rt := del s.rt i } N M := by
  have hl := del_less hq
  exact ⟨h.n, by have := h.mm; omega, h.ids.del i, by have := h.jn; show s.jn.length + (del s.rt i).length ≤ M; omega, h.tm, h.ep, h.nt, h.rp, fun x hx => ⟨(h.rg x hx).1, by have := (h.rg x hx).2; show _ + (del s.rt i).length ≤ M; omega⟩, h.mem⟩
theorem Fits.rgUp {s : KS} {N M : Nat} (h : Fits s N M) (hm : M + 1 ≤ 90000) (u : Int) (r0 : Rg) (h0 : RgOk r0) (c : Cqe) : Fits { s with rg := updO s.rg u (fun r => postR r s.mem c), mem := postM r0 s.mem c } N (M + 1) :=
  ⟨h.n, hm, h.ids, by have := h.jn; show s.jn.length + s.rt.length ≤ _; omega, h.tm, h.ep, h.nt, h.rp, fun x hx => by
    obtain ⟨y, hy, h1, h2⟩ := updO_mem (show x ∈ updO s.rg u (fun r => postR r s.mem c) from hx)
    obtain ⟨g1, g2⟩ := h.rg y hy
    rcases h2 with h2 | h2 <;> rw [h2]
    · exact ⟨g1, by show _ + s.rt.length ≤ _; omega⟩
    · refine ⟨postR_ok g1 c, ?_⟩
      have : (postR y.2.2 s.mem c).over.length ≤ y.2.2.over.length + 1 := by unfold postR; split <;> simp [Go.Pse.rgUp]
      show _ + s.rt.length ≤ _
      omega, postM_ok h0 h.mem c⟩
theorem Fits.sig {s : KS} {N M : Nat} (h : Fits s N M) (u x : Int) : Fits { s with nt := updO s.nt u (ntS x) } N M :=
  ⟨h.n, h.mm, h.ids, h.jn, h.tm, h.ep, fun z hz => by
    obtain ⟨y, hy, h1, h2⟩ := updO_mem (show z ∈ updO s.nt u (ntS x) from hz)
    obtain ⟨g1, g2⟩ := h.nt y hy
    rw [h1]
    rcases h2 with h2 | h2 <;> rw [h2]
    · exact ⟨g1, g2⟩
    · exact ⟨g1, Nat.le_trans (sigL_len _ _ _) g2⟩, h.rp, h.rg, h.mem⟩
theorem J_keyd {κ υ : Type} [DecidableEq κ] {ek : κ → Value} {ev : υ → Value} {E : World} {l : List As} {n : Nat} {F : Env} {K : Act → World → Prop} {b : Nat} {ps : List (κ × υ)} (hh : Has (mapV ek ev (.map (some b)) ps) l) (k : Keyd ps → Jk E l n F K) : Jk E l n F K :=
  J_mapV hh (fun h _ => by cases h) (fun _ _ hk => k hk)
theorem coRqGet {E : World} {l m : List As} {p : Nat} {s : KS} (hp : Pick (coA p s) l m) {i : ID} :
    Con Tryz.prog 51 #[.pointer (some ⟨p, 10, none⟩), .agg (encI i).toArray] E l (fun _ : Unit => .tuple #[evQ ((look s.rt i).getD q00), .bool (look s.rt i).isSome]) (fun _ => coA p s :: m) := fun w H => by
  refine (?_ : Jk E l 0 [] fun _ w => Calls Tryz.prog 51 #[.pointer (some ⟨p, 10, none⟩), .agg (encI i).toArray] w fun e w' => ∃ x, e = .returned ((fun _ : Unit => .tuple #[evQ ((look s.rt i).getD q00), .bool (look s.rt i).isSome]) x) ∧ Sep E w' ((fun _ : Unit => coA p s :: m) x)) w _ H fr0
  refine J_pick hp <| J_coO fun bn be br bg bt bs bp bl bk _ => J_con (rtGetC (ps := s.rt) (i := i) PC) fun x => ?_
  refine J_coS (p := p) (s := s) bn be br bg bt bs bp bl bk PX trivial ?_
  exact J_end SU
theorem coRqDrop {E : World} {l m : List As} {p : Nat} {s : KS} (hp : Pick (coA p s) l m) {i : ID} :
    Con Tryz.prog 87 #[.pointer (some ⟨p, 10, none⟩), .agg (encI i).toArray] E l (fun _ : Unit => .bool (look s.rt i).isSome) (fun _ => coA p { s with rt := del s.rt i } :: m) := fun w H => by
  refine (?_ : Jk E l 0 [] fun _ w => Calls Tryz.prog 87 #[.pointer (some ⟨p, 10, none⟩), .agg (encI i).toArray] w fun e w' => ∃ x, e = .returned ((fun _ : Unit => .bool (look s.rt i).isSome) x) ∧ Sep E w' ((fun _ : Unit => coA p { s with rt := del s.rt i } :: m) x)) w _ H fr0
  refine J_pick hp <| J_coO fun bn be br bg bt bs bp bl bk _ => J_con (rtDropC (ps := s.rt) (i := i) PC) fun x => ?_
  refine J_coS (p := p) (s := { s with rt := del s.rt i }) bn be br bg bt bs bp bl bk PX trivial ?_
  exact J_end SU
theorem coRqAfter {E : World} {l m : List As} {p : Nat} {s : KS} (hp : Pick (coA p s) l m) {i : ID} (hI : Ids s.rt) (hb : s.rt.length ≤ 100000) :
    Con Tryz.prog 90 #[.pointer (some ⟨p, 10, none⟩), .agg (encI i).toArray] E l (fun _ : Unit => .tuple #[evQ ((afterQ s.rt i).getD q00), .bool (afterQ s.rt i).isSome]) (fun _ => coA p s :: m) := fun w H => by
  refine (?_ : Jk E l 0 [] fun _ w => Calls Tryz.prog 90 #[.pointer (some ⟨p, 10, none⟩), .agg (encI i).toArray] w fun e w' => ∃ x, e = .returned ((fun _ : Unit => .tuple #[evQ ((afterQ s.rt i).getD q00), .bool (afterQ s.rt i).isSome]) x) ∧ Sep E w' ((fun _ : Unit => coA p s :: m) x)) w _ H fr0
  refine J_pick hp <| J_coO fun bn be br bg bt bs bp bl bk _ => J_con (rtAfterC (ps := s.rt) (i := i) PC hI hb) fun x => ?_
  refine J_coS (p := p) (s := s) bn be br bg bt bs bp bl bk PX trivial ?_
  exact J_end SU
theorem coRqOf {E : World} {l m : List As} {p : Nat} {s : KS} (hp : Pick (coA p s) l m) {g : Int} (hI : Ids s.rt) (hb : s.rt.length ≤ 100000) :
    Con Tryz.prog 26 #[.pointer (some ⟨p, 10, none⟩), .int .i64 g] E l (fun x : Value => x) (fun x => row 104 13 x ((ofQ s.rt g).map encQ) :: coA p s :: m) := fun w H => by
  refine (?_ : Jk E l 0 [] fun _ w => Calls Tryz.prog 26 #[.pointer (some ⟨p, 10, none⟩), .int .i64 g] w fun e w' => ∃ x, e = .returned ((fun x : Value => x) x) ∧ Sep E w' ((fun x : Value => row 104 13 x ((ofQ s.rt g).map encQ) :: coA p s :: m) x)) w _ H fr0
  refine J_pick hp <| J_coO fun bn be br bg bt bs bp bl bk _ => J_con (rtOf (ps := s.rt) (g := g) PC hI hb) fun x => ?_
  refine J_coS (p := p) (s := s) bn be br bg bt bs bp bl bk PX trivial ?_
  exact J_end SU
theorem coRqAdd {E : World} {l m : List As} {p : Nat} {s : KS} (hp : Pick (coA p s) l m) {q : Rq} (hI : Ids s.rt) (hb : s.rt.length ≤ 100000) :
    Con Tryz.prog 45 #[.pointer (some ⟨p, 10, none⟩), .agg (encQ q).toArray] E l (fun _ : Unit => .bool (addOk s.rt q)) (fun _ => coA p { s with rt := addQ s.rt q } :: m) := fun w H => by
  refine (?_ : Jk E l 0 [] fun _ w => Calls Tryz.prog 45 #[.pointer (some ⟨p, 10, none⟩), .agg (encQ q).toArray] w fun e w' => ∃ x, e = .returned ((fun _ : Unit => .bool (addOk s.rt q)) x) ∧ Sep E w' ((fun _ : Unit => coA p { s with rt := addQ s.rt q } :: m) x)) w _ H fr0
  refine J_pick hp <| J_coO fun bn be br bg bt bs bp bl bk _ => J_con (rtAddC (ps := s.rt) (q := q) PC hI hb) fun x => ?_
  refine J_coS (p := p) (s := { s with rt := addQ s.rt q }) bn be br bg bt bs bp bl bk PX trivial ?_
  exact J_end SU
theorem coJAdd {E : World} {l m : List As} {p : Nat} {s : KS} (hp : Pick (coA p s) l m) {d : Deed} (hb : s.jn.length ≤ 200000) :
    Con Tryz.prog 134 #[.pointer (some ⟨p, 12, none⟩), .agg (encD d).toArray] E l (fun _ : Unit => .tuple #[]) (fun _ => coA p { s with jn := s.jn ++ [d] } :: m) := fun w H => by
  refine (?_ : Jk E l 0 [] fun _ w => Calls Tryz.prog 134 #[.pointer (some ⟨p, 12, none⟩), .agg (encD d).toArray] w fun e w' => ∃ x, e = .returned ((fun _ : Unit => .tuple #[]) x) ∧ Sep E w' ((fun _ : Unit => coA p { s with jn := s.jn ++ [d] } :: m) x)) w _ H fr0
  refine J_pick hp <| J_coO fun bn be br bg bt bs bp bl bk _ => J_con (jnlAdd (xs := s.jn) (d := d) PC hb) fun x => ?_
  refine J_coS (p := p) (s := { s with jn := s.jn ++ [d] }) bn be br bg bt bs bp bl bk PX trivial ?_
  exact J_end SU
theorem coJAll {E : World} {l m : List As} {p : Nat} {s : KS} (hp : Pick (coA p s) l m) (hb : s.jn.length ≤ 200000) :
    Con Tryz.prog 18 #[.pointer (some ⟨p, 12, none⟩)] E l (fun x : Value => x) (fun x => row 41 7 x (s.jn.map encD) :: coA p s :: m) := fun w H => by
  refine (?_ : Jk E l 0 [] fun _ w => Calls Tryz.prog 18 #[.pointer (some ⟨p, 12, none⟩)] w fun e w' => ∃ x, e = .returned ((fun x : Value => x) x) ∧ Sep E w' ((fun x : Value => row 41 7 x (s.jn.map encD) :: coA p s :: m) x)) w _ H fr0
  refine J_pick hp <| J_coO fun bn be br bg bt bs bp bl bk _ => J_con (jnlAll (xs := s.jn) PC hb) fun x => ?_
  refine J_coS (p := p) (s := s) bn be br bg bt bs bp bl bk PX trivial ?_
  exact J_end SU
theorem coTmDrop {E : World} {l m : List As} {p : Nat} {s : KS} (hp : Pick (coA p s) l m) {i : ID} (hb : s.tm.length ≤ 100000) :
    Con Tryz.prog 130 #[.pointer (some ⟨p, 11, none⟩), .agg (encI i).toArray] E l (fun _ : Unit => .bool (decide ((tdrop s.tm i).length < s.tm.length))) (fun _ => coA p { s with tm := tdrop s.tm i } :: m) := fun w H => by
  refine (?_ : Jk E l 0 [] fun _ w => Calls Tryz.prog 130 #[.pointer (some ⟨p, 11, none⟩), .agg (encI i).toArray] w fun e w' => ∃ x, e = .returned ((fun _ : Unit => .bool (decide ((tdrop s.tm i).length < s.tm.length))) x) ∧ Sep E w' ((fun _ : Unit => coA p { s with tm := tdrop s.tm i } :: m) x)) w _ H fr0
  refine J_pick hp <| J_coO fun bn be br bg bt bs bp bl bk _ => J_con (tmrDropC (xs := s.tm) (i := i) PC hb) fun x => ?_
  refine J_coS (p := p) (s := { s with tm := tdrop s.tm i }) bn be br bg bt bs bp bl bk PX trivial ?_
  exact J_end SU
theorem coEpDrop {E : World} {l m : List As} {p : Nat} {s : KS} (hp : Pick (coA p s) l m) {u : Int} {b : Nat} {out : List Msg} {inn : List Rcv} (hl : look s.ep u = some (b, out, inn)) (hbo : out.length ≤ 100000) (hbi : inn.length ≤ 100000) {i : ID} :
  Con Tryz.prog 131 #[.pointer (some ⟨b, 0, none⟩), .agg (encI i).toArray] E l (fun _ : Unit => .bool (decide ((mdrop out i).length + (rdrop inn i).length < out.length + inn.length))) (fun _ => coA p { s with ep := updO s.ep u (epD i) } :: m) := fun w H => by
 refine (?_ : Jk E l 0 [] fun _ w => Calls Tryz.prog 131 #[.pointer (some ⟨b, 0, none⟩), .agg (encI i).toArray] w fun e w' => ∃ x, e = .returned ((fun _ : Unit => .bool (decide ((mdrop out i).length + (rdrop inn i).length < out.length + inn.length))) x) ∧ Sep E w' ((fun _ : Unit => coA p { s with ep := updO s.ep u (epD i) } :: m) x)) w _ H fr0
 obtain ⟨j, hj⟩ := look_ix hl
 have hjl := (List.getElem?_eq_some_iff.1 hj).1
 refine J_pick hp <| J_coO fun bn be br bg bt bs bp bl bk _ => J_keyd (ps := ptrs s.ep) HS fun hK => ?_
 refine J_pick (A := each epF s.ep) PC ?_
 refine J_eachOut hj ?_
 skip
 refine J_asTo (B := epA b out inn) (by rfl) <| J_con (epDropC (out := out) (inn := inn) (i := i) PC hbo hbi) fun x => ?_
 refine J_pick (A := epA b (mdrop out i) (rdrop inn i)) PC ?_
 refine J_asTo (B := epF (u, b, ((epD i)) (out, inn))) (by rfl) <| J_pick (A := each epF _) PC ?_
 refine J_pick (A := epF (u, b, _)) PC ?_
 refine J_eachIn (u, b, ((epD i)) (out, inn)) hjl ?_
 skip
 refine J_asTo (B := each epF (updO s.ep u (epD i))) (by rw [updO_set hK hj]) <| J_pick (A := mapV kZ evA (.map (some be)) (ptrs s.ep)) PC ?_
 refine J_mapEq (qs := ptrs (updO s.ep u (epD i))) ptrs_updO.symm <| J_coS (p := p) (s := { s with ep := updO s.ep u (epD i) }) bn be br bg bt bs bp bl bk PX trivial ?_
 exact J_end SU
theorem coNtDrop {E : World} {l m : List As} {p : Nat} {s : KS} (hp : Pick (coA p s) l m) {u : Int} {b : Nat} {w0 : Int} {xs : List ID} (hl : look s.nt u = some (b, w0, xs)) (hb : xs.length ≤ 100000) {i : ID} :
  Con Tryz.prog 132 #[.pointer (some ⟨b, 0, none⟩), .agg (encI i).toArray] E l (fun _ : Unit => .bool (decide (i ∈ xs))) (fun _ => coA p { s with nt := updO s.nt u (ntD i) } :: m) := fun w H => by
 refine (?_ : Jk E l 0 [] fun _ w => Calls Tryz.prog 132 #[.pointer (some ⟨b, 0, none⟩), .agg (encI i).toArray] w fun e w' => ∃ x, e = .returned ((fun _ : Unit => .bool (decide (i ∈ xs))) x) ∧ Sep E w' ((fun _ : Unit => coA p { s with nt := updO s.nt u (ntD i) } :: m) x)) w _ H fr0
 obtain ⟨j, hj⟩ := look_ix hl
 have hjl := (List.getElem?_eq_some_iff.1 hj).1
 refine J_pick hp <| J_coO fun bn be br bg bt bs bp bl bk _ => J_keyd (ps := ptrs s.nt) HS fun hK => ?_
 refine J_pick (A := each ntF s.nt) PC ?_
 refine J_eachOut hj ?_
 skip
 refine J_asTo (B := ntA b 0 w0 xs) (by rfl) <| J_con (ntDropC (w := w0) (xs := xs) (i := i) PC hb) fun x => ?_
 refine J_pick (A := ntA b 0 w0 (ldrop xs i)) PC ?_
 refine J_asTo (B := ntF (u, b, ((ntD i)) (w0, xs))) (by rfl) <| J_pick (A := each ntF _) PC ?_
 refine J_pick (A := ntF (u, b, _)) PC ?_
 refine J_eachIn (u, b, ((ntD i)) (w0, xs)) hjl ?_
 skip
 refine J_asTo (B := each ntF (updO s.nt u (ntD i))) (by rw [updO_set hK hj]) <| J_pick (A := mapV kZ evA (.map (some bn)) (ptrs s.nt)) PC ?_
 refine J_mapEq (qs := ptrs (updO s.nt u (ntD i))) ptrs_updO.symm <| J_coS (p := p) (s := { s with nt := updO s.nt u (ntD i) }) bn be br bg bt bs bp bl bk PX trivial ?_
 exact J_end SU
theorem coNtSignal {E : World} {l m : List As} {p : Nat} {s : KS} (hp : Pick (coA p s) l m) {u : Int} {b : Nat} {w0 : Int} {xs : List ID} (hl : look s.nt u = some (b, w0, xs)) (hb : xs.length ≤ 100000) {z : Int} :
  Con Tryz.prog 139 #[.pointer (some ⟨b, 0, none⟩), .int .u32 z] E l (fun _ : Unit => .tuple #[.agg (encI (sigI w0 xs z)).toArray, .int .u32 (sigV w0 xs z), .bool (woke w0 xs z)]) (fun _ => coA p { s with nt := updO s.nt u (ntS z) } :: m) := fun w H => by
 refine (?_ : Jk E l 0 [] fun _ w => Calls Tryz.prog 139 #[.pointer (some ⟨b, 0, none⟩), .int .u32 z] w fun e w' => ∃ x, e = .returned ((fun _ : Unit => .tuple #[.agg (encI (sigI w0 xs z)).toArray, .int .u32 (sigV w0 xs z), .bool (woke w0 xs z)]) x) ∧ Sep E w' ((fun _ : Unit => coA p { s with nt := updO s.nt u (ntS z) } :: m) x)) w _ H fr0
 obtain ⟨j, hj⟩ := look_ix hl
 have hjl := (List.getElem?_eq_some_iff.1 hj).1
 refine J_pick hp <| J_coO fun bn be br bg bt bs bp bl bk _ => J_keyd (ps := ptrs s.nt) HS fun hK => ?_
 refine J_pick (A := each ntF s.nt) PC ?_
 refine J_eachOut hj ?_
 skip
 refine J_asTo (B := ntA b 0 w0 xs) (by rfl) <| J_con (ntSignal (w := w0) (xs := xs) (x := z) PC hb) fun x => ?_
 refine J_pick (A := ntA b 0 (sigW w0 xs z) (sigL w0 xs z)) PC ?_
 refine J_asTo (B := ntF (u, b, ((ntS z)) (w0, xs))) (by rfl) <| J_pick (A := each ntF _) PC ?_
 refine J_pick (A := ntF (u, b, _)) PC ?_
 refine J_eachIn (u, b, ((ntS z)) (w0, xs)) hjl ?_
 skip
 refine J_asTo (B := each ntF (updO s.nt u (ntS z))) (by rw [updO_set hK hj]) <| J_pick (A := mapV kZ evA (.map (some bn)) (ptrs s.nt)) PC ?_
 refine J_mapEq (qs := ptrs (updO s.nt u (ntS z))) ptrs_updO.symm <| J_coS (p := p) (s := { s with nt := updO s.nt u (ntS z) }) bn be br bg bt bs bp bl bk PX trivial ?_
 exact J_end SU
theorem coRpDrop {E : World} {l m : List As} {p : Nat} {s : KS} (hp : Pick (coA p s) l m) {u : Int} {b : Nat} {c : ID × Bool} (hl : look s.rp u = some (b, c)) {i : ID} :
  Con Tryz.prog 133 #[.pointer (some ⟨b, 0, none⟩), .agg (encI i).toArray] E l (fun _ : Unit => .bool (decide (c.2 = true ∧ c.1 = i))) (fun _ => coA p { s with rp := updO s.rp u (rpD i) } :: m) := fun w H => by
 refine (?_ : Jk E l 0 [] fun _ w => Calls Tryz.prog 133 #[.pointer (some ⟨b, 0, none⟩), .agg (encI i).toArray] w fun e w' => ∃ x, e = .returned ((fun _ : Unit => .bool (decide (c.2 = true ∧ c.1 = i))) x) ∧ Sep E w' ((fun _ : Unit => coA p { s with rp := updO s.rp u (rpD i) } :: m) x)) w _ H fr0
 obtain ⟨j, hj⟩ := look_ix hl
 have hjl := (List.getElem?_eq_some_iff.1 hj).1
 refine J_pick hp <| J_coO fun bn be br bg bt bs bp bl bk _ => J_keyd (ps := ptrs s.rp) HS fun hK => ?_
 refine J_pick (A := each rpF s.rp) PC ?_
 refine J_eachOut hj ?_
 skip
 refine J_asTo (B := rpA b c) (by rfl) <| J_con (rpDropC (c := c) (i := i) PC) fun x => ?_
 refine J_pick (A := rpA b (cDrop c i)) PC ?_
 refine J_asTo (B := rpF (u, b, ((rpD i)) (c))) (by rfl) <| J_pick (A := each rpF _) PC ?_
 refine J_pick (A := rpF (u, b, _)) PC ?_
 refine J_eachIn (u, b, ((rpD i)) (c)) hjl ?_
 skip
 refine J_asTo (B := each rpF (updO s.rp u (rpD i))) (by rw [updO_set hK hj]) <| J_pick (A := mapV kZ evA (.map (some br)) (ptrs s.rp)) PC ?_
 refine J_mapEq (qs := ptrs (updO s.rp u (rpD i))) ptrs_updO.symm <| J_coS (p := p) (s := { s with rp := updO s.rp u (rpD i) }) bn be br bg bt bs bp bl bk PX trivial ?_
 exact J_end SU
theorem coPost {E : World} {l m : List As} {p : Nat} {s : KS} (hp : Pick (coA p s) l m) {u : Int} {b : Nat} {r : Rg} {c : Cqe} (hl : look s.rg u = some (b, r)) (hb : r.over.length ≤ 100000) (hR : RgOk r) (hM : MemOk s.mem) :
  Con Tryz.prog 136 #[.pointer (some ⟨b, 0, none⟩), .agg (encX c).toArray] E l (fun _ : Unit => .bool (postOk r s.mem)) (fun _ => coA p { s with rg := updO s.rg u (fun r => postR r s.mem c), mem := postM r s.mem c } :: m) := fun w H => by
 refine (?_ : Jk E l 0 [] fun _ w => Calls Tryz.prog 136 #[.pointer (some ⟨b, 0, none⟩), .agg (encX c).toArray] w fun e w' => ∃ x, e = .returned ((fun _ : Unit => .bool (postOk r s.mem)) x) ∧ Sep E w' ((fun _ : Unit => coA p { s with rg := updO s.rg u (fun r => postR r s.mem c), mem := postM r s.mem c } :: m) x)) w _ H fr0
 obtain ⟨j, hj⟩ := look_ix hl
 have hjl := (List.getElem?_eq_some_iff.1 hj).1
 refine J_pick hp <| J_coO fun bn be br bg bt bs bp bl bk _ => J_keyd (ps := ptrs s.rg) HS fun hK => ?_
 refine J_pick (A := each (rgF s.mb) s.rg) PC ?_
 refine J_eachOut hj ?_
 skip
 refine J_asTo (B := rgA b s.mb r) (by rfl) <| J_con (ringPost (r := r) (ms := s.mem) (c := c) PX hb hR hM) fun x => ?_
 refine J_pick (A := rgA b s.mb (postR r s.mem c)) PC ?_
 refine J_asTo (B := (rgF s.mb) (u, b, ((fun r => postR r s.mem c)) (r))) (by rfl) <| J_pick (A := each (rgF s.mb) _) PC ?_
 refine J_pick (A := (rgF s.mb) (u, b, _)) PC ?_
 refine J_eachIn (u, b, ((fun r => postR r s.mem c)) (r)) hjl ?_
 skip
 refine J_asTo (B := each (rgF s.mb) (updO s.rg u (fun r => postR r s.mem c))) (by rw [updO_set hK hj]) <| J_pick (A := mapV kZ evA (.map (some bg)) (ptrs s.rg)) PC ?_
 refine J_mapEq (qs := ptrs (updO s.rg u (fun r => postR r s.mem c))) ptrs_updO.symm <| J_coS (p := p) (s := { s with rg := updO s.rg u (fun r => postR r s.mem c), mem := postM r s.mem c }) bn be br bg bt bs bp bl bk PX trivial ?_
 exact J_end SU
end Go.Pse
namespace Go.Pse
open Go.RowKit Go.Proofs
theorem coForget {E : World} {l m : List As}{p : Nat} {s : KS} (hp : Pick (coA p s) l m) {i : ID} {N M : Nat} (hF : Fits s N M) :
  Con Tryz.prog 88 #[.pointer (some ⟨p, 0, none⟩), .agg (encI i).toArray] E l (fun _ : Unit => .tuple #[]) (fun _ => coA p (kForget s i) :: m) := by
 refine Con.body (vs := [.pointer (some ⟨p, 0, none⟩), .agg (encI i).toArray]) (n := 40) Tryz.func88 rfl rfl [(0, .pointer (some ⟨p, 0, none⟩)), (1, .agg (encI i).toArray)] (env_ok 2 rfl) <| J_pick hp <| sr <| L_op <| x_box rfl rfl rfl fun b3 => nq <| J_seq <| J_drawL (some 3) mixed ?_
 refine ip 0 rfl rfl rfl rfl (p_move rfl) <| iv 2 rfl rfl rfl rfl (fun _ => v_loadA rfl ty39 HS CT) ?_
 refine i1 1 rfl <| xc fc129 (.cons rfl .nil) rfl (coTimers) fun _ => i1 3 rfl <| xc fc130 (.cons rfl (.cons rfl .nil)) rfl (coTmDrop (s := s) (i := i) PC (by have := hF.tm; have := hF.n; omega)) fun _ => ?_
 refine J_pick (A := coA p _) PC ?_
 refine J_asTo (B := coA p (forTo s i ((1 : Nat) : Int))) (by rw [show ((1 : Nat) : Int) = 1 from rfl, forTo_one hF]) <| i0 <| qx <| ag rfl rfl <| nq <| J_block <| J_loop (α := Nat) (fun k => 1 ≤ k ∧ k ≤ 65) (fun k => coA p (forTo s i (k : Int)) :: blk b3 39 (encI i) :: m) (fun k => [(4, .int .i64 (k : Int)), (0, .pointer (some ⟨p, 0, none⟩)), (3, .pointer (some ⟨b3, 0, none⟩))]) (fun k => 65 - k) 1 (by omega) SU KE ?_
 intro k hk
 refine J_seq <| sr <| mv rfl rfl <| L_pur rfl (p_leq rfl rfl) <| nq ?_
 refine C_dec rfl (fun h13 => ?_) (fun h13 => ?_)
 have hF2 := hF.forTo i (k : Int)
 have hNN := hF.n
 refine J_skip <| Q_then <| J_seq <| J_block ?_
 refine J_cut (α := Unit) (fun _ : Unit => coA p { forTo s i (k : Int) with ep := mapTo (epD i) ((k : Int) + 1) s.ep } :: blk b3 39 (encI i) :: m) (fun _ : Unit => [(4, .int .i64 (k : Int)), (0, .pointer (some ⟨p, 0, none⟩)), (3, .pointer (some ⟨b3, 0, none⟩))]) ?_ ?_
 refine sr <| mv rfl rfl <| mv rfl rfl <| L_op <| xc fc27 (.cons rfl (.cons rfl .nil)) rfl (coEp (s := (forTo s i (k : Int))) (u := (k : Int)) PC) fun _ => ?_
 refine J_slot (t := 18) (v := .pointer ((look (ptrs (KS.ep (forTo s i (k : Int)))) (k : Int)).map fun b => ⟨b, 0, none⟩)) rfl rfl <| ag rfl rfl <| nx <| mv rfl rfl <| L_pur rfl (p_neNilPtr Tryz.underlying57 rfl) <| nq ?_
 refine C_split rfl (fun h20 => ?_) (fun h20 => ?_)
 obtain ⟨b, hb⟩ : ∃ b, look (ptrs (KS.ep (forTo s i (k : Int)))) (k : Int) = some b := by
  cases hq : look (ptrs (KS.ep (forTo s i (k : Int)))) (k : Int) with
  | none => rw [hq] at h20; simp at h20
  | some b => exact ⟨b, rfl⟩
 obtain ⟨⟨ob1, ob2⟩, hob⟩ := look_got hb
 have hb1 : ob1.length ≤ N := (hF2.ep _ (mem_look hob)).2.1
 have hb2 : ob2.length ≤ N := (hF2.ep _ (mem_look hob)).2.2
 refine J_region <| mv rfl rfl <| J_slot (t := 21) (v := .pointer (some ⟨b, 0, none⟩)) rfl (by rw [hb]; rfl) <| L_val rfl (v_loadA rfl ty39 HS CT) ?_
 refine L_op <| xc fc131 (.cons rfl (.cons rfl .nil)) rfl (coEpDrop (s := (forTo s i (k : Int))) (u := (k : Int)) PC hob (by omega) (by omega)) fun _ => ?_
 refine nq <| J_pick (A := coA p _) PC ?_
 refine J_asTo (B := coA p { forTo s i (k : Int) with ep := mapTo (epD i) ((k : Int) + 1) s.ep }) (by unfold forTo; simp only [mapTo_up]) ?_
 exact J_at (L := (fun _ : Unit => coA p { forTo s i (k : Int) with ep := mapTo (epD i) ((k : Int) + 1) s.ep } :: blk b3 39 (encI i) :: m)) (G := (fun _ : Unit => [(4, .int .i64 (k : Int)), (0, .pointer (some ⟨p, 0, none⟩)), (3, .pointer (some ⟨b3, 0, none⟩))])) () SU KE
 have hno : look (ptrs s.ep) (k : Int) = none := by
  rw [← ptrs_mapTo (f := epD i) (k := (k : Int))]
  cases hq : look (ptrs (mapTo (epD i) (k : Int) s.ep)) (k : Int) with
  | none => rfl
  | some b => rw [show look (ptrs (KS.ep (forTo s i (k : Int)))) (k : Int) = _ from hq] at h20; simp at h20
 refine J_skip <| Q_then <| J_pick (A := coA p _) PC ?_
 refine J_asTo (B := coA p { forTo s i (k : Int) with ep := mapTo (epD i) ((k : Int) + 1) s.ep }) (by unfold forTo; simp only [mapTo_no (f := epD i) hno]) ?_
 exact J_at (L := (fun _ : Unit => coA p { forTo s i (k : Int) with ep := mapTo (epD i) ((k : Int) + 1) s.ep } :: blk b3 39 (encI i) :: m)) (G := (fun _ : Unit => [(4, .int .i64 (k : Int)), (0, .pointer (some ⟨p, 0, none⟩)), (3, .pointer (some ⟨b3, 0, none⟩))])) () SU KE
 intro _
 refine J_cut (α := Unit) (fun _ : Unit => coA p { forTo s i (k : Int) with ep := mapTo (epD i) ((k : Int) + 1) s.ep, nt := mapTo (ntD i) ((k : Int) + 1) s.nt } :: blk b3 39 (encI i) :: m) (fun _ : Unit => [(4, .int .i64 (k : Int)), (0, .pointer (some ⟨p, 0, none⟩)), (3, .pointer (some ⟨b3, 0, none⟩))]) ?_ ?_
 refine sr <| mv rfl rfl <| mv rfl rfl <| L_op <| xc fc36 (.cons rfl (.cons rfl .nil)) rfl (coNotif (s := { forTo s i (k : Int) with ep := mapTo (epD i) ((k : Int) + 1) s.ep }) (u := (k : Int)) PC) fun _ => ?_
 refine J_slot (t := 26) (v := .pointer ((look (ptrs (KS.nt { forTo s i (k : Int) with ep := mapTo (epD i) ((k : Int) + 1) s.ep })) (k : Int)).map fun b => ⟨b, 0, none⟩)) rfl rfl <| ag rfl rfl <| nx <| mv rfl rfl <| L_pur rfl (p_neNilPtr Tryz.underlying79 rfl) <| nq ?_
 refine C_split rfl (fun h28 => ?_) (fun h28 => ?_)
 obtain ⟨b, hb⟩ : ∃ b, look (ptrs (KS.nt { forTo s i (k : Int) with ep := mapTo (epD i) ((k : Int) + 1) s.ep })) (k : Int) = some b := by
  cases hq : look (ptrs (KS.nt { forTo s i (k : Int) with ep := mapTo (epD i) ((k : Int) + 1) s.ep })) (k : Int) with
  | none => rw [hq] at h28; simp at h28
  | some b => exact ⟨b, rfl⟩
 obtain ⟨⟨ob1, ob2⟩, hob⟩ := look_got hb
 have hb2 : ob2.length ≤ N := (hF2.nt _ (mem_look hob)).2
 refine J_region <| mv rfl rfl <| J_slot (t := 29) (v := .pointer (some ⟨b, 0, none⟩)) rfl (by rw [hb]; rfl) <| L_val rfl (v_loadA rfl ty39 HS CT) ?_
 refine L_op <| xc fc132 (.cons rfl (.cons rfl .nil)) rfl (coNtDrop (s := { forTo s i (k : Int) with ep := mapTo (epD i) ((k : Int) + 1) s.ep }) (u := (k : Int)) PC hob (by omega)) fun _ => ?_
 refine nq <| J_pick (A := coA p _) PC ?_
 refine J_asTo (B := coA p { forTo s i (k : Int) with ep := mapTo (epD i) ((k : Int) + 1) s.ep, nt := mapTo (ntD i) ((k : Int) + 1) s.nt }) (by unfold forTo; simp only [mapTo_up]) ?_
 exact J_at (L := (fun _ : Unit => coA p { forTo s i (k : Int) with ep := mapTo (epD i) ((k : Int) + 1) s.ep, nt := mapTo (ntD i) ((k : Int) + 1) s.nt } :: blk b3 39 (encI i) :: m)) (G := (fun _ : Unit => [(4, .int .i64 (k : Int)), (0, .pointer (some ⟨p, 0, none⟩)), (3, .pointer (some ⟨b3, 0, none⟩))])) () SU KE
 have hno : look (ptrs s.nt) (k : Int) = none := by
  rw [← ptrs_mapTo (f := ntD i) (k := (k : Int))]
  cases hq : look (ptrs (mapTo (ntD i) (k : Int) s.nt)) (k : Int) with
  | none => rfl
  | some b => rw [show look (ptrs (KS.nt { forTo s i (k : Int) with ep := mapTo (epD i) ((k : Int) + 1) s.ep })) (k : Int) = _ from hq] at h28; simp at h28
 refine J_skip <| Q_then <| J_pick (A := coA p _) PC ?_
 refine J_asTo (B := coA p { forTo s i (k : Int) with ep := mapTo (epD i) ((k : Int) + 1) s.ep, nt := mapTo (ntD i) ((k : Int) + 1) s.nt }) (by unfold forTo; simp only [mapTo_no (f := ntD i) hno]) ?_
 exact J_at (L := (fun _ : Unit => coA p { forTo s i (k : Int) with ep := mapTo (epD i) ((k : Int) + 1) s.ep, nt := mapTo (ntD i) ((k : Int) + 1) s.nt } :: blk b3 39 (encI i) :: m)) (G := (fun _ : Unit => [(4, .int .i64 (k : Int)), (0, .pointer (some ⟨p, 0, none⟩)), (3, .pointer (some ⟨b3, 0, none⟩))])) () SU KE
 intro _
 refine sr <| mv rfl rfl <| mv rfl rfl <| L_op <| xc fc20 (.cons rfl (.cons rfl .nil)) rfl (coReply (s := { forTo s i (k : Int) with ep := mapTo (epD i) ((k : Int) + 1) s.ep, nt := mapTo (ntD i) ((k : Int) + 1) s.nt }) (u := (k : Int)) PC) fun _ => ?_
 refine J_slot (t := 34) (v := .pointer ((look (ptrs (KS.rp { forTo s i (k : Int) with ep := mapTo (epD i) ((k : Int) + 1) s.ep, nt := mapTo (ntD i) ((k : Int) + 1) s.nt })) (k : Int)).map fun b => ⟨b, 0, none⟩)) rfl rfl <| ag rfl rfl <| nx <| mv rfl rfl <| L_pur rfl (p_neNilPtr Tryz.underlying42 rfl) <| nq ?_
 refine C_split rfl (fun h36 => ?_) (fun h36 => ?_)
 obtain ⟨b, hb⟩ : ∃ b, look (ptrs (KS.rp { forTo s i (k : Int) with ep := mapTo (epD i) ((k : Int) + 1) s.ep, nt := mapTo (ntD i) ((k : Int) + 1) s.nt })) (k : Int) = some b := by
  cases hq : look (ptrs (KS.rp { forTo s i (k : Int) with ep := mapTo (epD i) ((k : Int) + 1) s.ep, nt := mapTo (ntD i) ((k : Int) + 1) s.nt })) (k : Int) with
  | none => rw [hq] at h36; simp at h36
  | some b => exact ⟨b, rfl⟩
 obtain ⟨ob, hob⟩ := look_got hb
 refine J_region <| mv rfl rfl <| J_slot (t := 37) (v := .pointer (some ⟨b, 0, none⟩)) rfl (by rw [hb]; rfl) <| L_val rfl (v_loadA rfl ty39 HS CT) ?_
 refine L_op <| xc fc133 (.cons rfl (.cons rfl .nil)) rfl (coRpDrop (s := { forTo s i (k : Int) with ep := mapTo (epD i) ((k : Int) + 1) s.ep, nt := mapTo (ntD i) ((k : Int) + 1) s.nt }) (u := (k : Int)) PC hob) fun _ => ?_
 refine L_nil <| Q_blk_normal <| qr <| mv rfl rfl <| L_pur rfl (p_add64 rfl rfl (by omega)) <| ag rfl rfl <| nq <| J_pick (A := coA p _) PC ?_
 refine J_asTo (B := coA p (forTo s i ((k + 1 : Nat) : Int))) (by unfold forTo; simp only [mapTo_up]; push_cast; rfl) ?_
 exact J_again (k + 1) (by omega) (by omega) SU KE
 have hno : look (ptrs s.rp) (k : Int) = none := by
  rw [← ptrs_mapTo (f := rpD i) (k := (k : Int))]
  cases hq : look (ptrs (mapTo (rpD i) (k : Int) s.rp)) (k : Int) with
  | none => rfl
  | some b => rw [show look (ptrs (KS.rp { forTo s i (k : Int) with ep := mapTo (epD i) ((k : Int) + 1) s.ep, nt := mapTo (ntD i) ((k : Int) + 1) s.nt })) (k : Int) = _ from hq] at h36; simp at h36
 refine J_skip <| Q_blk_normal <| qr <| mv rfl rfl <| L_pur rfl (p_add64 rfl rfl (by omega)) <| ag rfl rfl <| nq <| J_pick (A := coA p _) PC ?_
 refine J_asTo (B := coA p (forTo s i ((k + 1 : Nat) : Int))) (by unfold forTo; simp only [mapTo_no (f := rpD i) hno]; push_cast; rfl) ?_
 exact J_again (k + 1) (by omega) (by omega) SU KE
 have hk65 : k = 65 := by omega
 subst hk65
 refine J_pick (A := coA p _) PC ?_
 refine J_asTo (B := coA p (kForget s i)) (by rw [show ((65 : Nat) : Int) = 65 from rfl, forTo_all hF]) <| J_exit <| Q_then_exit <| Q_then_exit <| Q_blk_this <| J_endnormal ?_
 exact J_return (()) Tryz.results88 .nil rfl SU
end Go.Pse
namespace Go.Pse
open Go.RowKit Go.Proofs
/-! ### plain: an end is told; a request ends -/
def kBell (s : KS) (g : Int) : Int × Int := (look s.be g).getD (0, 0)
def kPost (s : KS) (d : Deed) : KS := match look s.rg d.1.1 with
  | none => s
  | some (_, r) => { s with rg := updO s.rg d.1.1 (fun r => postR r s.mem (ofD d)), mem := postM r s.mem (ofD d) }
def kSaid (s : KS) (d : Deed) : KS := kPost { s with jn := s.jn ++ [d] } d
def kRung (s : KS) (g : Int) : KS := { s with nt := updO s.nt (kBell s g).1 (ntS (kBell s g).2) }
def kTell (D : KS → ID → Int → Int → KS) (s : KS) (d : Deed) : KS := match look (kSaid s d).nt (kBell (kSaid s d) d.1.1).1 with
  | none => kSaid s d
  | some (_, w, xs) => if woke w xs (kBell (kSaid s d) d.1.1).2 then D (kRung (kSaid s d) d.1.1) (sigI w xs (kBell (kSaid s d) d.1.1).2) 0 (sigV w xs (kBell (kSaid s d) d.1.1).2) else kRung (kSaid s d) d.1.1
def kDec : Nat → KS → ID → Int → Int → KS
  | 0, s, _, _, _ => s
  | n + 1, s, i, r, v => match look s.rt i with
    | none => s
    | some q => match afterQ (kTell (kDec n) (kForget { s with rt := del s.rt i } i) (i, q.e.tag, q.e.op, r, v, false)).rt i with
      | none => kTell (kDec n) (kForget { s with rt := del s.rt i } i) (i, q.e.tag, q.e.op, r, v, false)
      | some x => if x.soft = true ∧ r < 0 then kDec n (kTell (kDec n) (kForget { s with rt := del s.rt i } i) (i, q.e.tag, q.e.op, r, v, false)) x.id (-9) 0 else kTell (kDec n) (kForget { s with rt := del s.rt i } i) (i, q.e.tag, q.e.op, r, v, false)
theorem kDec_none {n : Nat} {s : KS} {i : ID} {r v : Int} (h : look s.rt i = none) : kDec n s i r v = s := by
  cases n with
  | zero => rfl
  | succ n => rw [kDec, h]
theorem kPost_rt {s : KS} {d : Deed} : (kPost s d).rt = s.rt := by unfold kPost; split <;> rfl
theorem kSaid_rt {s : KS} {d : Deed} : (kSaid s d).rt = s.rt := by unfold kSaid; rw [kPost_rt]
theorem Fits.said {s : KS} {N M : Nat} (h : Fits s N M) (hm : M + 1 ≤ 90000) (d : Deed) : Fits (kSaid s d) N (M + 1) := by
  unfold kSaid kPost
  split
  · exact h.jnl hm d
  · rename_i b r hl
    have hr := h.rg _ (mem_look hl)
    refine ⟨h.n, hm, h.ids, ?_, h.tm, h.ep, h.nt, h.rp, fun x hx => ?_, postM_ok hr.1 h.mem _⟩
    · have := h.jn
      show (s.jn ++ [d]).length + s.rt.length ≤ M + 1
      simp; omega
    · obtain ⟨y, hy, h1, h2⟩ := updO_mem (show x ∈ updO s.rg d.1.1 (fun r => postR r s.mem (ofD d)) from hx)
      obtain ⟨g1, g2⟩ := h.rg y hy
      rcases h2 with h2 | h2 <;> rw [h2]
      · exact ⟨g1, by show _ + s.rt.length ≤ _; omega⟩
      · refine ⟨postR_ok g1 _, ?_⟩
        have : (postR y.2.2 s.mem (ofD d)).over.length ≤ y.2.2.over.length + 1 := by unfold postR; split <;> simp [Go.Pse.rgUp]
        show _ + s.rt.length ≤ _
        omega
theorem Fits.tell {D : KS → ID → Int → Int → KS} {N M : Nat} (hD : ∀ s i r v, Fits s N (M + 1) → Fits (D s i r v) N (M + 1) ∧ (D s i r v).rt.length ≤ s.rt.length) {s : KS} (h : Fits s N M) (hm : M + 1 ≤ 90000) (d : Deed) : Fits (kTell D s d) N (M + 1) ∧ (kTell D s d).rt.length ≤ s.rt.length := by
  have h1 := h.said hm d
  unfold kTell
  split
  · exact ⟨h1, by rw [kSaid_rt]; exact Nat.le_refl _⟩
  · split
    · exact ⟨(hD _ _ _ _ (h1.sig _ _)).1, Nat.le_trans (hD _ _ _ _ (h1.sig _ _)).2 (by show (kSaid s d).rt.length ≤ _; rw [kSaid_rt]; exact Nat.le_refl _)⟩
    · exact ⟨h1.sig _ _, by show (kSaid s d).rt.length ≤ _; rw [kSaid_rt]; exact Nat.le_refl _⟩
theorem Fits.dec {N : Nat} : ∀ n {M : Nat} {s : KS} {i : ID} {r v : Int}, Fits s N M → Fits (kDec n s i r v) N M ∧ (kDec n s i r v).rt.length ≤ s.rt.length
  | 0, _, _, _, _, _, h => ⟨h, Nat.le_refl _⟩
  | n + 1, M, s, i, r, v, h => by
    rw [kDec]
    split
    · exact ⟨h, Nat.le_refl _⟩
    · rename_i q hq
      have hl := del_less hq
      obtain ⟨M, rfl⟩ : ∃ M', M = M' + 1 := ⟨M - 1, by have := h.jn; omega⟩
      have h1 := ((h.drop hq).forget i).tell (D := kDec n) (fun s i r v h => Fits.dec n h) h.mm (i, q.e.tag, q.e.op, r, v, false)
      have h2 : (kTell (kDec n) (kForget { s with rt := del s.rt i } i) (i, q.e.tag, q.e.op, r, v, false)).rt.length ≤ s.rt.length := Nat.le_trans h1.2 (by show (del s.rt i).length ≤ _; omega)
      split
      · exact ⟨h1.1, h2⟩
      · split
        · exact ⟨(Fits.dec n h1.1).1, Nat.le_trans (Fits.dec n h1.1).2 h2⟩
        · exact ⟨h1.1, h2⟩
def DecC (n N M : Nat) : Prop := ∀ (E : World) (l m : List As) (p : Nat) (s : KS) (i : ID) (r v : Int), Pick (coA p s) l m → s.rt.length ≤ n → Fits s N M →
  Con Tryz.prog 54 #[.pointer (some ⟨p, 0, none⟩), .agg (encI i).toArray, .int .i64 r, .int .u32 v] E l (fun _ : Unit => .bool (look s.rt i).isSome) (fun _ => coA p (kDec n s i r v) :: m)
theorem coTell {E : World} {l m : List As}{p : Nat} {s : KS} (hp : Pick (coA p s) l m) {n N M : Nat} (hD : DecC n N (M + 1)) {d : Deed} (hn : s.rt.length ≤ n) (hF : Fits s N M) (hm : M + 1 ≤ 90000) :
  Con Tryz.prog 89 #[.pointer (some ⟨p, 0, none⟩), .agg (encD d).toArray] E l (fun _ : Unit => .tuple #[]) (fun _ => coA p (kTell (kDec n) s d) :: m) := by
 refine Con.body (vs := [.pointer (some ⟨p, 0, none⟩), .agg (encD d).toArray]) (n := 51) Tryz.func89 rfl rfl [(0, .pointer (some ⟨p, 0, none⟩)), (1, .agg (encD d).toArray)] (env_ok 2 rfl) <| J_pick hp <| sr <| L_op <| x_box rfl rfl rfl fun b3 => nq <| J_seq <| J_drawL (some 3) mixed ?_
 refine ip 0 rfl rfl rfl rfl (p_move rfl) <| iv 2 rfl rfl rfl rfl (fun _ => v_loadA rfl ty41 HS CT) ?_
 refine i1 1 rfl <| xc fc17 (.cons rfl .nil) rfl (coJournal) fun _ => i1 3 rfl <| xc fc134 (.cons rfl (.cons rfl .nil)) rfl (coJAdd (s := s) (d := d) PC (by have := hF.jn; omega)) fun _ => ?_
 refine i0 <| Q_then ?_
 refine J_cut (α := Unit) (fun _ : Unit => coA p (kSaid s d) :: blk b3 41 (encD d) :: m) (fun _ : Unit => [(0, .pointer (some ⟨p, 0, none⟩)), (3, .pointer (some ⟨b3, 0, none⟩))]) ?_ ?_
 refine sr <| mv rfl rfl <| fa rfl rfl fa41_0 <| fa rfl rfl fa39_0 <| L_val rfl (v_load rfl ty3 HS (by exact rfl)) ?_
 refine L_op <| xc fc135 (.cons rfl (.cons rfl .nil)) rfl (coRing (s := { s with jn := s.jn ++ [d] }) (u := d.1.1) PC) fun _ => ?_
 refine J_slot (t := 19) (v := .pointer ((look (ptrs s.rg) d.1.1).map fun b => ⟨b, 0, none⟩)) rfl rfl <| ag rfl rfl <| nx <| mv rfl rfl <| L_pur rfl (p_neNilPtr Tryz.underlying274 rfl) <| nq ?_
 refine C_split rfl (fun h21 => ?_) (fun h21 => ?_)
 obtain ⟨b, hb⟩ : ∃ b, look (ptrs s.rg) d.1.1 = some b := by
  cases hq : look (ptrs s.rg) d.1.1 with
  | none => rw [hq] at h21; simp at h21
  | some b => exact ⟨b, rfl⟩
 obtain ⟨r, hr⟩ := look_got hb
 obtain ⟨hro, hrl⟩ : RgOk r ∧ r.over.length + s.rt.length ≤ M := hF.rg _ (mem_look hr)
 refine J_region <| mv rfl rfl <| J_slot (t := 22) (v := .pointer (some ⟨b, 0, none⟩)) rfl (by rw [hb]; rfl) <| L_val rfl (v_loadA rfl ty41 HS CT) ?_
 refine L_op <| xc fc137 (.cons rfl .nil) rfl (compOfC (d := d)) fun _ => L_op <| xc fc136 (.cons rfl (.cons rfl .nil)) rfl (coPost (s := { s with jn := s.jn ++ [d] }) (u := d.1.1) (r := r) (c := ofD d) PC hr (by omega) hro hF.mem) fun _ => ?_
 refine nq <| J_pick (A := coA p _) PC ?_
 refine J_asTo (B := coA p (kSaid s d)) (by unfold kSaid kPost; rw [show look (KS.rg { s with jn := s.jn ++ [d] }) d.1.1 = _ from hr]) ?_
 exact J_at (L := (fun _ : Unit => coA p (kSaid s d) :: blk b3 41 (encD d) :: m)) (G := (fun _ : Unit => [(0, .pointer (some ⟨p, 0, none⟩)), (3, .pointer (some ⟨b3, 0, none⟩))])) () SU KE
 have hrn : look s.rg d.1.1 = none := by
  cases hq : look s.rg d.1.1 with
  | none => rfl
  | some y => rw [look_ptrs, hq] at h21; simp at h21
 refine J_skip <| Q_then <| J_pick (A := coA p _) PC ?_
 refine J_asTo (B := coA p (kSaid s d)) (by unfold kSaid kPost; rw [show look (KS.rg { s with jn := s.jn ++ [d] }) d.1.1 = _ from hrn]) ?_
 exact J_at (L := (fun _ : Unit => coA p (kSaid s d) :: blk b3 41 (encD d) :: m)) (G := (fun _ : Unit => [(0, .pointer (some ⟨p, 0, none⟩)), (3, .pointer (some ⟨b3, 0, none⟩))])) () SU KE
 intro _
 have hF2 := hF.said hm d
 refine sr <| mv rfl rfl <| fa rfl rfl fa41_0 <| fa rfl rfl fa39_0 <| L_val rfl (v_load rfl ty3 HS (by exact rfl)) ?_
 refine L_op <| xc fc138 (.cons rfl (.cons rfl .nil)) rfl (coBell (s := kSaid s d) (u := d.1.1) PC) fun _ => ?_
 refine J_slot (t := 31) (v := .tuple #[.int .i64 (kBell (kSaid s d) d.1.1).1, .int .u32 (kBell (kSaid s d) d.1.1).2]) rfl rfl <| mv rfl rfl <| L_pur rfl (p_extract rfl rfl) <| L_pur rfl (p_extract rfl rfl) <| ag rfl rfl <| ag rfl rfl <| nx <| mv rfl rfl ?_
 refine mv rfl rfl <| L_op <| xc fc36 (.cons rfl (.cons rfl .nil)) rfl (coNotif (s := kSaid s d) (u := (kBell (kSaid s d) d.1.1).1) PC) fun _ => ?_
 refine J_slot (t := 36) (v := .pointer ((look (ptrs (kSaid s d).nt) (kBell (kSaid s d) d.1.1).1).map fun b => ⟨b, 0, none⟩)) rfl rfl <| ag rfl rfl <| nx <| mv rfl rfl <| L_pur rfl (p_neNilPtr Tryz.underlying79 rfl) <| nq ?_
 refine C_split rfl (fun h38 => ?_) (fun h38 => ?_)
 obtain ⟨b, hb⟩ : ∃ b, look (ptrs (kSaid s d).nt) (kBell (kSaid s d) d.1.1).1 = some b := by
  cases hq : look (ptrs (kSaid s d).nt) (kBell (kSaid s d) d.1.1).1 with
  | none => rw [hq] at h38; simp at h38
  | some b => exact ⟨b, rfl⟩
 obtain ⟨⟨w0, xs⟩, hob⟩ := look_got hb
 have hxl : xs.length ≤ N := (hF2.nt _ (mem_look hob)).2
 have hNN := hF.n
 refine sr <| mv rfl rfl <| J_slot (t := 40) (v := .pointer (some ⟨b, 0, none⟩)) rfl (by rw [hb]; rfl) <| mv rfl rfl <| L_op <| xc fc139 (.cons rfl (.cons rfl .nil)) rfl (coNtSignal (s := kSaid s d) (u := (kBell (kSaid s d) d.1.1).1) (z := (kBell (kSaid s d) d.1.1).2) PC hob (by omega)) fun _ => ?_
 refine J_pick (A := coA p _) PC ?_
 refine J_asTo (B := coA p (kRung (kSaid s d) d.1.1)) (by rfl) <| mv rfl rfl <| L_pur rfl (p_extract rfl rfl) <| L_pur rfl (p_extract rfl rfl) <| L_pur rfl (p_extract rfl rfl) <| L_op <| x_alloc ty39 rfl fun b8 => L_op <| x_store rfl rfl ty39 rfl SM SM RO PT ?_
 refine ag rfl rfl <| ag rfl rfl <| nx <| mv rfl rfl <| nq ?_
 refine C_split rfl (fun h46 => ?_) (fun h46 => ?_)
 refine J_region <| mv rfl rfl <| L_val rfl (v_loadA rfl ty39 HS CT) ?_
 refine mv rfl rfl <| L_op <| xc fc54 (.cons rfl (.cons rfl (.cons rfl (.cons rfl .nil)))) rfl (hD _ _ _ p (kRung (kSaid s d) d.1.1) (sigI w0 xs (kBell (kSaid s d) d.1.1).2) 0 (sigV w0 xs (kBell (kSaid s d) d.1.1).2) PC (by show (kSaid s d).rt.length ≤ n; rw [kSaid_rt]; exact hn) (hF2.sig _ _)) fun _ => ?_
 refine L_nil <| J_endnormal <| J_pick (A := coA p _) PC ?_
 refine J_asTo (B := coA p (kTell (kDec n) s d)) (by unfold kTell; rw [hob]; simp only [h46, if_true]) ?_
 exact J_return (()) Tryz.results89 .nil rfl SU
 refine J_skip <| J_endnormal <| J_pick (A := coA p _) PC ?_
 refine J_asTo (B := coA p (kTell (kDec n) s d)) (by unfold kTell; rw [hob]; simp only [h46]; rfl) ?_
 exact J_return (()) Tryz.results89 .nil rfl SU
 have hno : look (kSaid s d).nt (kBell (kSaid s d) d.1.1).1 = none := by
  cases hq : look (kSaid s d).nt (kBell (kSaid s d) d.1.1).1 with
  | none => rfl
  | some y => rw [look_ptrs, hq] at h38; simp at h38
 refine J_skip <| J_endnormal <| J_pick (A := coA p _) PC ?_
 refine J_asTo (B := coA p (kTell (kDec n) s d)) (by unfold kTell; rw [hno]) ?_
 exact J_return (()) Tryz.results89 .nil rfl SU
theorem coDecStep {E : World} {l m : List As}{p : Nat} {s : KS} (hp : Pick (coA p s) l m) {n N M : Nat} (hD : ∀ k, n = k + 1 → DecC k N M) {i : ID} {r v : Int} (hn : s.rt.length ≤ n) (hF : Fits s N M) :
  Con Tryz.prog 54 #[.pointer (some ⟨p, 0, none⟩), .agg (encI i).toArray, .int .i64 r, .int .u32 v] E l (fun _ : Unit => .bool (look s.rt i).isSome) (fun _ => coA p (kDec n s i r v) :: m) := by
 rcases hq : look s.rt i with _ | q
 ·
  refine Con.body (vs := [.pointer (some ⟨p, 0, none⟩), .agg (encI i).toArray, .int .i64 r, .int .u32 v]) (n := 61) Tryz.func54 rfl rfl [(0, .pointer (some ⟨p, 0, none⟩)), (1, .agg (encI i).toArray), (2, .int .i64 r), (3, .int .u32 v)] (env_ok 4 rfl) <| J_pick hp <| sr <| L_op <| x_box rfl rfl rfl fun b5 => ag rfl rfl <| nq <| J_seq ?_
  refine J_drawL none mixed <| ip 0 rfl rfl rfl rfl (p_move rfl) <| iv 2 rfl rfl rfl rfl (fun _ => v_loadA rfl ty39 HS CT) ?_
  refine I_ready (rs := [1, 7]) SI (by kernel_rfl) (by simp) ?_
  refine (I_cons rfl ?_ (I_cons rfl ?_ I_nil))
  refine xc fc22 (.cons rfl .nil) rfl (coReqs) fun _ => I_ready (rs := [3, 7]) SI (by kernel_rfl) (by simp) ?_
  refine (I_cons rfl ?_ (I_cons rfl ?_ I_nil))
  refine xc fc51 (.cons rfl (.cons rfl .nil)) rfl (coRqGet (s := s) (i := i) PC) fun _ => ?_
  refine ip 4 rfl rfl rfl rfl (p_move rfl) <| ip 5 rfl rfl rfl rfl (p_extract rfl rfl) <| ip 6 rfl rfl rfl rfl (p_extract rfl rfl) <| J_bool (t := 19) (c := false) rfl (by rw [hq]; rfl) <| i1 7 rfl <| x_alloc ty104 rfl fun b9 => i1 8 rfl <| x_store rfl rfl ty104 rfl SM SM RO PT ?_
  refine ip 9 rfl rfl rfl rfl (p_assign rfl) <| i0 <| Q_then <| J_seq <| sr <| mv rfl rfl <| L_pur rfl (p_not rfl) <| nq ?_
  refine J_bool (t := 21) (c := true) rfl (rfl) <| C_true rfl <| sr <| ag rfl rfl <| nq <| J_ret <| Q_then_ret <| J_pick (A := coA p _) PC ?_
  refine J_asTo (B := coA p (kDec n s i r v)) (by rw [kDec_none hq]) ?_
  exact J_return (()) Tryz.results54 (.tmp rfl .nil) rfl SU
  refine x_alloc ty104 rfl fun b9 => i1 3 rfl <| xc fc51 (.cons rfl (.cons rfl .nil)) rfl (coRqGet (s := s) (i := i) PC) fun _ => ?_
  refine ip 4 rfl rfl rfl rfl (p_move rfl) <| ip 5 rfl rfl rfl rfl (p_extract rfl rfl) <| ip 6 rfl rfl rfl rfl (p_extract rfl rfl) <| J_bool (t := 19) (c := false) rfl (by rw [hq]; rfl) <| i1 8 rfl <| x_store rfl rfl ty104 rfl SM SM RO PT ?_
  refine ip 9 rfl rfl rfl rfl (p_assign rfl) <| i0 <| Q_then <| J_seq <| sr <| mv rfl rfl <| L_pur rfl (p_not rfl) <| nq ?_
  refine J_bool (t := 21) (c := true) rfl (rfl) <| C_true rfl <| sr <| ag rfl rfl <| nq <| J_ret <| Q_then_ret <| J_pick (A := coA p _) PC ?_
  refine J_asTo (B := coA p (kDec n s i r v)) (by rw [kDec_none hq]) ?_
  exact J_return (()) Tryz.results54 (.tmp rfl .nil) rfl SU
  refine x_alloc ty104 rfl fun b9 => i1 1 rfl <| xc fc22 (.cons rfl .nil) rfl (coReqs) fun _ => i1 3 rfl <| xc fc51 (.cons rfl (.cons rfl .nil)) rfl (coRqGet (s := s) (i := i) PC) fun _ => ?_
  refine ip 4 rfl rfl rfl rfl (p_move rfl) <| ip 5 rfl rfl rfl rfl (p_extract rfl rfl) <| ip 6 rfl rfl rfl rfl (p_extract rfl rfl) <| J_bool (t := 19) (c := false) rfl (by rw [hq]; rfl) <| i1 8 rfl <| x_store rfl rfl ty104 rfl SM SM RO PT ?_
  refine ip 9 rfl rfl rfl rfl (p_assign rfl) <| i0 <| Q_then <| J_seq <| sr <| mv rfl rfl <| L_pur rfl (p_not rfl) <| nq ?_
  refine J_bool (t := 21) (c := true) rfl (rfl) <| C_true rfl <| sr <| ag rfl rfl <| nq <| J_ret <| Q_then_ret <| J_pick (A := coA p _) PC ?_
  refine J_asTo (B := coA p (kDec n s i r v)) (by rw [kDec_none hq]) ?_
  exact J_return (()) Tryz.results54 (.tmp rfl .nil) rfl SU
 ·
  refine Con.body (vs := [.pointer (some ⟨p, 0, none⟩), .agg (encI i).toArray, .int .i64 r, .int .u32 v]) (n := 61) Tryz.func54 rfl rfl [(0, .pointer (some ⟨p, 0, none⟩)), (1, .agg (encI i).toArray), (2, .int .i64 r), (3, .int .u32 v)] (env_ok 4 rfl) ?_
  have hl := del_less hq
  obtain ⟨k, rfl⟩ : ∃ k, n = k + 1 := ⟨n - 1, by omega⟩
  obtain ⟨M, rfl⟩ : ∃ M', M = M' + 1 := ⟨M - 1, by have := hF.jn; omega⟩
  have hF1 := hF.drop hq
  have hn2 : (kForget { s with rt := del s.rt i } i).rt.length ≤ k := by show (del s.rt i).length ≤ k; omega
  have hF3 := (hF1.forget i).tell (D := kDec k) (fun s i r v h => Fits.dec k h) hF.mm (i, q.e.tag, q.e.op, r, v, false)
  refine J_pick hp <| sr <| L_op <| x_box rfl rfl rfl fun b5 => ag rfl rfl <| nq <| J_seq <| J_drawL none mixed ?_
  refine ip 0 rfl rfl rfl rfl (p_move rfl) <| iv 2 rfl rfl rfl rfl (fun _ => v_loadA rfl ty39 HS CT) ?_
  refine I_ready (rs := [1, 7]) SI (by kernel_rfl) (by simp) ?_
  refine (I_cons rfl ?_ (I_cons rfl ?_ I_nil))
  refine xc fc22 (.cons rfl .nil) rfl (coReqs) fun _ => I_ready (rs := [3, 7]) SI (by kernel_rfl) (by simp) ?_
  refine (I_cons rfl ?_ (I_cons rfl ?_ I_nil))
  refine xc fc51 (.cons rfl (.cons rfl .nil)) rfl (coRqGet (s := s) (i := i) PC) fun _ => ?_
  refine ip 4 rfl rfl rfl rfl (p_move rfl) <| ip 5 rfl rfl rfl rfl (p_extract rfl rfl) <| ip 6 rfl rfl rfl rfl (p_extract rfl rfl) <| i1 7 rfl <| x_alloc ty104 rfl fun b9 => i1 8 rfl <| x_store rfl rfl ty104 rfl SM SM RO PT ?_
  refine ip 9 rfl rfl rfl rfl (p_assign rfl) <| i0 <| Q_then <| J_seq <| sr <| mv rfl rfl <| L_pur rfl (p_not rfl) <| nq ?_
  refine J_bool (t := 21) (c := false) rfl (by rw [hq]; rfl) <| C_false rfl <| J_skip <| Q_then <| J_seq <| J_drawL (some 3) mixed <| ip 0 rfl rfl rfl rfl (p_move rfl) <| iv 2 rfl rfl rfl rfl (fun _ => v_loadA rfl ty39 HS CT) ?_
  refine i1 1 rfl <| xc fc22 (.cons rfl .nil) rfl (coReqs) fun _ => i1 3 rfl <| xc fc87 (.cons rfl (.cons rfl .nil)) rfl (coRqDrop (s := s) (i := i) PC) fun _ => ?_
  refine i0 <| qx <| mv rfl rfl <| L_val rfl (v_loadA rfl ty39 HS CT) ?_
  refine L_op <| xc fc88 (.cons rfl (.cons rfl .nil)) rfl (coForget (s := { s with rt := del s.rt i }) (i := i) PC hF1) fun _ => ?_
  refine nx <| mv rfl rfl <| L_val rfl (v_loadA rfl ty39 HS CT) ?_
  refine fa rfl rfl fa104_1 <| fa rfl rfl fa31_2 <| L_val rfl (v_load rfl ty22 HS (by exact rfl)) ?_
  refine fa rfl rfl fa104_1 <| fa rfl rfl fa31_0 <| L_val rfl (v_load rfl ty3 HS (by exact rfl)) ?_
  refine mv rfl rfl <| mv rfl rfl <| L_pur rfl (bld41 (.cons rfl (.cons rfl (.cons rfl (.cons rfl (.cons rfl .nil))))) (by repeat constructor)) <| J_slot (t := 39) (v := .agg (encD (i, q.e.tag, q.e.op, r, v, false)).toArray) rfl (by rw [hq]; rfl) <| L_op <| xc fc89 (.cons rfl (.cons rfl .nil)) rfl (coTell (s := (kForget { s with rt := del s.rt i } i)) (d := (i, q.e.tag, q.e.op, r, v, false)) PC (hD k rfl) hn2 (hF1.forget i) hF.mm) fun _ => ?_
  refine nq <| J_seq <| J_seq <| J_drawL none mixed <| ip 0 rfl rfl rfl rfl (p_move rfl) <| iv 2 rfl rfl rfl rfl (fun _ => v_loadA rfl ty39 HS CT) ?_
  refine I_ready (rs := [1, 7]) SI (by kernel_rfl) (by simp) ?_
  refine (I_cons rfl ?_ (I_cons rfl ?_ I_nil))
  refine xc fc22 (.cons rfl .nil) rfl (coReqs) fun _ => I_ready (rs := [3, 7]) SI (by kernel_rfl) (by simp) ?_
  refine (I_cons rfl ?_ (I_cons rfl ?_ I_nil))
  refine xc fc90 (.cons rfl (.cons rfl .nil)) rfl (coRqAfter (s := (kTell (kDec k) (kForget { s with rt := del s.rt i } i) (i, q.e.tag, q.e.op, r, v, false))) (i := i) PC hF3.1.ids (by have := hF3.1.jn; have := hF3.1.mm; omega)) fun _ => ?_
  refine ip 4 rfl rfl rfl rfl (p_move rfl) <| ip 5 rfl rfl rfl rfl (p_extract rfl rfl) <| ip 6 rfl rfl rfl rfl (p_extract rfl rfl) <| i1 7 rfl <| x_alloc ty104 rfl fun b11 => i1 8 rfl <| x_store rfl rfl ty104 rfl SM SM RO PT ?_
  refine ip 9 rfl rfl rfl rfl (p_assign rfl) <| i0 <| qx <| mv rfl rfl <| mv rfl rfl ?_
  refine J_gsplit (t := 49) rfl (fun h49 => ?_) (fun h49 => ?_)
  obtain ⟨x, haf⟩ : ∃ x, afterQ (kTell (kDec k) (kForget { s with rt := del s.rt i } i) (i, q.e.tag, q.e.op, r, v, false)).rt i = some x := by
   cases hz : afterQ (kTell (kDec k) (kForget { s with rt := del s.rt i } i) (i, q.e.tag, q.e.op, r, v, false)).rt i with
   | none => rw [hz] at h49; simp at h49
   | some x => exact ⟨x, rfl⟩
  refine J_pick (A := blk b11 _ _) PC ?_
  refine J_asTo (B := blk b11 104 (encQ x)) (by rw [haf]; rfl) <| L_op <| G_on rfl rfl rfl <| J_pur (p_fieldAddr rfl fa104_3) rfl rfl rfl <| L_op <| G_on rfl rfl rfl <| J_val (v_load rfl ty4 HS (by exact rfl)) rfl rfl rfl ?_
  refine L_pur rfl (p_pick_t rfl rfl) <| mv rfl rfl ?_
  refine J_gsplit (t := 53) rfl (fun h53 => ?_) (fun h53 => ?_)
  refine L_op <| G_on rfl rfl rfl <| J_pur (p_move rfl) rfl rfl rfl <| L_op <| G_on rfl rfl rfl <| J_pur (p_lss rfl rfl) rfl rfl rfl <| L_pur rfl (p_pick_t rfl rfl) <| nq ?_
  refine C_dec rfl (fun h56 => ?_) (fun h56 => ?_)
  refine J_region <| mv rfl rfl <| fa rfl rfl fa104_0 <| L_val rfl (v_loadA rfl ty39 HS CT) ?_
  refine L_op <| xc fc54 (.cons rfl (.cons rfl (.cons rfl (.cons rfl .nil)))) rfl (hD k rfl _ _ _ p (kTell (kDec k) (kForget { s with rt := del s.rt i } i) (i, q.e.tag, q.e.op, r, v, false)) x.id (-9) 0 PC (Nat.le_trans hF3.2 hn2) hF3.1) fun _ => ?_
  refine nx <| ag rfl rfl <| nq <| J_ret <| J_pick (A := coA p _) PC ?_
  refine J_asTo (B := coA p (kDec (k + 1) s i r v)) (by rw [kDec, hq]; simp only [haf]; rw [if_pos ⟨h53, h56⟩]) ?_
  exact J_return (()) Tryz.results54 (.tmp rfl .nil) rfl SU
  refine J_skip <| qx <| ag rfl rfl <| nq <| J_ret <| J_pick (A := coA p _) PC ?_
  refine J_asTo (B := coA p (kDec (k + 1) s i r v)) (by rw [kDec, hq]; simp only [haf]; rw [if_neg (by intro hc; simp_all)]) ?_
  exact J_return (()) Tryz.results54 (.tmp rfl .nil) rfl SU
  refine L_op <| G_off rfl rfl rfl rfl rfl rfl <| L_op <| G_off rfl rfl rfl rfl rfl rfl <| L_pur rfl (p_pick_f rfl rfl) <| nq <| C_false rfl <| J_skip ?_
  refine qx <| ag rfl rfl <| nq <| J_ret <| J_pick (A := coA p _) PC ?_
  refine J_asTo (B := coA p (kDec (k + 1) s i r v)) (by rw [kDec, hq]; simp only [haf]; rw [if_neg (by intro hc; simp_all)]) ?_
  exact J_return (()) Tryz.results54 (.tmp rfl .nil) rfl SU
  have haf : afterQ (kTell (kDec k) (kForget { s with rt := del s.rt i } i) (i, q.e.tag, q.e.op, r, v, false)).rt i = none := by
   cases hz : afterQ (kTell (kDec k) (kForget { s with rt := del s.rt i } i) (i, q.e.tag, q.e.op, r, v, false)).rt i with
   | none => rfl
   | some x => rw [hz] at h49; simp at h49
  refine L_op <| G_off rfl rfl rfl rfl rfl rfl <| L_op <| G_off rfl rfl rfl rfl rfl rfl <| L_pur rfl (p_pick_f rfl rfl) <| mv rfl rfl <| L_op <| G_off rfl rfl rfl rfl rfl rfl ?_
  refine L_op <| G_off rfl rfl rfl rfl rfl rfl <| L_pur rfl (p_pick_f rfl rfl) <| nq <| C_false rfl <| J_skip <| qx <| ag rfl rfl ?_
  refine nq <| J_ret <| J_pick (A := coA p _) PC ?_
  refine J_asTo (B := coA p (kDec (k + 1) s i r v)) (by rw [kDec, hq]; simp only [haf]) ?_
  exact J_return (()) Tryz.results54 (.tmp rfl .nil) rfl SU
  refine x_alloc ty104 rfl fun b11 => i1 3 rfl <| xc fc90 (.cons rfl (.cons rfl .nil)) rfl (coRqAfter (s := (kTell (kDec k) (kForget { s with rt := del s.rt i } i) (i, q.e.tag, q.e.op, r, v, false))) (i := i) PC hF3.1.ids (by have := hF3.1.jn; have := hF3.1.mm; omega)) fun _ => ?_
  refine ip 4 rfl rfl rfl rfl (p_move rfl) <| ip 5 rfl rfl rfl rfl (p_extract rfl rfl) <| ip 6 rfl rfl rfl rfl (p_extract rfl rfl) <| i1 8 rfl <| x_store rfl rfl ty104 rfl SM SM RO PT ?_
  refine ip 9 rfl rfl rfl rfl (p_assign rfl) <| i0 <| qx <| mv rfl rfl <| mv rfl rfl ?_
  refine J_gsplit (t := 49) rfl (fun h49 => ?_) (fun h49 => ?_)
  obtain ⟨x, haf⟩ : ∃ x, afterQ (kTell (kDec k) (kForget { s with rt := del s.rt i } i) (i, q.e.tag, q.e.op, r, v, false)).rt i = some x := by
   cases hz : afterQ (kTell (kDec k) (kForget { s with rt := del s.rt i } i) (i, q.e.tag, q.e.op, r, v, false)).rt i with
   | none => rw [hz] at h49; simp at h49
   | some x => exact ⟨x, rfl⟩
  refine J_pick (A := blk b11 _ _) PC ?_
  refine J_asTo (B := blk b11 104 (encQ x)) (by rw [haf]; rfl) <| L_op <| G_on rfl rfl rfl <| J_pur (p_fieldAddr rfl fa104_3) rfl rfl rfl <| L_op <| G_on rfl rfl rfl <| J_val (v_load rfl ty4 HS (by exact rfl)) rfl rfl rfl ?_
  refine L_pur rfl (p_pick_t rfl rfl) <| mv rfl rfl ?_
  refine J_gsplit (t := 53) rfl (fun h53 => ?_) (fun h53 => ?_)
  refine L_op <| G_on rfl rfl rfl <| J_pur (p_move rfl) rfl rfl rfl <| L_op <| G_on rfl rfl rfl <| J_pur (p_lss rfl rfl) rfl rfl rfl <| L_pur rfl (p_pick_t rfl rfl) <| nq ?_
  refine C_dec rfl (fun h56 => ?_) (fun h56 => ?_)
  refine J_region <| mv rfl rfl <| fa rfl rfl fa104_0 <| L_val rfl (v_loadA rfl ty39 HS CT) ?_
  refine L_op <| xc fc54 (.cons rfl (.cons rfl (.cons rfl (.cons rfl .nil)))) rfl (hD k rfl _ _ _ p (kTell (kDec k) (kForget { s with rt := del s.rt i } i) (i, q.e.tag, q.e.op, r, v, false)) x.id (-9) 0 PC (Nat.le_trans hF3.2 hn2) hF3.1) fun _ => ?_
  refine nx <| ag rfl rfl <| nq <| J_ret <| J_pick (A := coA p _) PC ?_
  refine J_asTo (B := coA p (kDec (k + 1) s i r v)) (by rw [kDec, hq]; simp only [haf]; rw [if_pos ⟨h53, h56⟩]) ?_
  exact J_return (()) Tryz.results54 (.tmp rfl .nil) rfl SU
  refine J_skip <| qx <| ag rfl rfl <| nq <| J_ret <| J_pick (A := coA p _) PC ?_
  refine J_asTo (B := coA p (kDec (k + 1) s i r v)) (by rw [kDec, hq]; simp only [haf]; rw [if_neg (by intro hc; simp_all)]) ?_
  exact J_return (()) Tryz.results54 (.tmp rfl .nil) rfl SU
  refine L_op <| G_off rfl rfl rfl rfl rfl rfl <| L_op <| G_off rfl rfl rfl rfl rfl rfl <| L_pur rfl (p_pick_f rfl rfl) <| nq <| C_false rfl <| J_skip ?_
  refine qx <| ag rfl rfl <| nq <| J_ret <| J_pick (A := coA p _) PC ?_
  refine J_asTo (B := coA p (kDec (k + 1) s i r v)) (by rw [kDec, hq]; simp only [haf]; rw [if_neg (by intro hc; simp_all)]) ?_
  exact J_return (()) Tryz.results54 (.tmp rfl .nil) rfl SU
  have haf : afterQ (kTell (kDec k) (kForget { s with rt := del s.rt i } i) (i, q.e.tag, q.e.op, r, v, false)).rt i = none := by
   cases hz : afterQ (kTell (kDec k) (kForget { s with rt := del s.rt i } i) (i, q.e.tag, q.e.op, r, v, false)).rt i with
   | none => rfl
   | some x => rw [hz] at h49; simp at h49
  refine L_op <| G_off rfl rfl rfl rfl rfl rfl <| L_op <| G_off rfl rfl rfl rfl rfl rfl <| L_pur rfl (p_pick_f rfl rfl) <| mv rfl rfl <| L_op <| G_off rfl rfl rfl rfl rfl rfl ?_
  refine L_op <| G_off rfl rfl rfl rfl rfl rfl <| L_pur rfl (p_pick_f rfl rfl) <| nq <| C_false rfl <| J_skip <| qx <| ag rfl rfl ?_
  refine nq <| J_ret <| J_pick (A := coA p _) PC ?_
  refine J_asTo (B := coA p (kDec (k + 1) s i r v)) (by rw [kDec, hq]; simp only [haf]) ?_
  exact J_return (()) Tryz.results54 (.tmp rfl .nil) rfl SU
  refine x_alloc ty104 rfl fun b11 => i1 1 rfl <| xc fc22 (.cons rfl .nil) rfl (coReqs) fun _ => i1 3 rfl <| xc fc90 (.cons rfl (.cons rfl .nil)) rfl (coRqAfter (s := (kTell (kDec k) (kForget { s with rt := del s.rt i } i) (i, q.e.tag, q.e.op, r, v, false))) (i := i) PC hF3.1.ids (by have := hF3.1.jn; have := hF3.1.mm; omega)) fun _ => ?_
  refine ip 4 rfl rfl rfl rfl (p_move rfl) <| ip 5 rfl rfl rfl rfl (p_extract rfl rfl) <| ip 6 rfl rfl rfl rfl (p_extract rfl rfl) <| i1 8 rfl <| x_store rfl rfl ty104 rfl SM SM RO PT ?_
  refine ip 9 rfl rfl rfl rfl (p_assign rfl) <| i0 <| qx <| mv rfl rfl <| mv rfl rfl ?_
  refine J_gsplit (t := 49) rfl (fun h49 => ?_) (fun h49 => ?_)
  obtain ⟨x, haf⟩ : ∃ x, afterQ (kTell (kDec k) (kForget { s with rt := del s.rt i } i) (i, q.e.tag, q.e.op, r, v, false)).rt i = some x := by
   cases hz : afterQ (kTell (kDec k) (kForget { s with rt := del s.rt i } i) (i, q.e.tag, q.e.op, r, v, false)).rt i with
   | none => rw [hz] at h49; simp at h49
   | some x => exact ⟨x, rfl⟩
  refine J_pick (A := blk b11 _ _) PC ?_
  refine J_asTo (B := blk b11 104 (encQ x)) (by rw [haf]; rfl) <| L_op <| G_on rfl rfl rfl <| J_pur (p_fieldAddr rfl fa104_3) rfl rfl rfl <| L_op <| G_on rfl rfl rfl <| J_val (v_load rfl ty4 HS (by exact rfl)) rfl rfl rfl ?_
  refine L_pur rfl (p_pick_t rfl rfl) <| mv rfl rfl ?_
  refine J_gsplit (t := 53) rfl (fun h53 => ?_) (fun h53 => ?_)
  refine L_op <| G_on rfl rfl rfl <| J_pur (p_move rfl) rfl rfl rfl <| L_op <| G_on rfl rfl rfl <| J_pur (p_lss rfl rfl) rfl rfl rfl <| L_pur rfl (p_pick_t rfl rfl) <| nq ?_
  refine C_dec rfl (fun h56 => ?_) (fun h56 => ?_)
  refine J_region <| mv rfl rfl <| fa rfl rfl fa104_0 <| L_val rfl (v_loadA rfl ty39 HS CT) ?_
  refine L_op <| xc fc54 (.cons rfl (.cons rfl (.cons rfl (.cons rfl .nil)))) rfl (hD k rfl _ _ _ p (kTell (kDec k) (kForget { s with rt := del s.rt i } i) (i, q.e.tag, q.e.op, r, v, false)) x.id (-9) 0 PC (Nat.le_trans hF3.2 hn2) hF3.1) fun _ => ?_
  refine nx <| ag rfl rfl <| nq <| J_ret <| J_pick (A := coA p _) PC ?_
  refine J_asTo (B := coA p (kDec (k + 1) s i r v)) (by rw [kDec, hq]; simp only [haf]; rw [if_pos ⟨h53, h56⟩]) ?_
  exact J_return (()) Tryz.results54 (.tmp rfl .nil) rfl SU
  refine J_skip <| qx <| ag rfl rfl <| nq <| J_ret <| J_pick (A := coA p _) PC ?_
  refine J_asTo (B := coA p (kDec (k + 1) s i r v)) (by rw [kDec, hq]; simp only [haf]; rw [if_neg (by intro hc; simp_all)]) ?_
  exact J_return (()) Tryz.results54 (.tmp rfl .nil) rfl SU
  refine L_op <| G_off rfl rfl rfl rfl rfl rfl <| L_op <| G_off rfl rfl rfl rfl rfl rfl <| L_pur rfl (p_pick_f rfl rfl) <| nq <| C_false rfl <| J_skip ?_
  refine qx <| ag rfl rfl <| nq <| J_ret <| J_pick (A := coA p _) PC ?_
  refine J_asTo (B := coA p (kDec (k + 1) s i r v)) (by rw [kDec, hq]; simp only [haf]; rw [if_neg (by intro hc; simp_all)]) ?_
  exact J_return (()) Tryz.results54 (.tmp rfl .nil) rfl SU
  have haf : afterQ (kTell (kDec k) (kForget { s with rt := del s.rt i } i) (i, q.e.tag, q.e.op, r, v, false)).rt i = none := by
   cases hz : afterQ (kTell (kDec k) (kForget { s with rt := del s.rt i } i) (i, q.e.tag, q.e.op, r, v, false)).rt i with
   | none => rfl
   | some x => rw [hz] at h49; simp at h49
  refine L_op <| G_off rfl rfl rfl rfl rfl rfl <| L_op <| G_off rfl rfl rfl rfl rfl rfl <| L_pur rfl (p_pick_f rfl rfl) <| mv rfl rfl <| L_op <| G_off rfl rfl rfl rfl rfl rfl ?_
  refine L_op <| G_off rfl rfl rfl rfl rfl rfl <| L_pur rfl (p_pick_f rfl rfl) <| nq <| C_false rfl <| J_skip <| qx <| ag rfl rfl ?_
  refine nq <| J_ret <| J_pick (A := coA p _) PC ?_
  refine J_asTo (B := coA p (kDec (k + 1) s i r v)) (by rw [kDec, hq]; simp only [haf]) ?_
  exact J_return (()) Tryz.results54 (.tmp rfl .nil) rfl SU
  refine x_alloc ty104 rfl fun b9 => i1 3 rfl <| xc fc51 (.cons rfl (.cons rfl .nil)) rfl (coRqGet (s := s) (i := i) PC) fun _ => ?_
  refine ip 4 rfl rfl rfl rfl (p_move rfl) <| ip 5 rfl rfl rfl rfl (p_extract rfl rfl) <| ip 6 rfl rfl rfl rfl (p_extract rfl rfl) <| i1 8 rfl <| x_store rfl rfl ty104 rfl SM SM RO PT ?_
  refine ip 9 rfl rfl rfl rfl (p_assign rfl) <| i0 <| Q_then <| J_seq <| sr <| mv rfl rfl <| L_pur rfl (p_not rfl) <| nq ?_
  refine J_bool (t := 21) (c := false) rfl (by rw [hq]; rfl) <| C_false rfl <| J_skip <| Q_then <| J_seq <| J_drawL (some 3) mixed <| ip 0 rfl rfl rfl rfl (p_move rfl) <| iv 2 rfl rfl rfl rfl (fun _ => v_loadA rfl ty39 HS CT) ?_
  refine i1 1 rfl <| xc fc22 (.cons rfl .nil) rfl (coReqs) fun _ => i1 3 rfl <| xc fc87 (.cons rfl (.cons rfl .nil)) rfl (coRqDrop (s := s) (i := i) PC) fun _ => ?_
  refine i0 <| qx <| mv rfl rfl <| L_val rfl (v_loadA rfl ty39 HS CT) ?_
  refine L_op <| xc fc88 (.cons rfl (.cons rfl .nil)) rfl (coForget (s := { s with rt := del s.rt i }) (i := i) PC hF1) fun _ => ?_
  refine nx <| mv rfl rfl <| L_val rfl (v_loadA rfl ty39 HS CT) ?_
  refine fa rfl rfl fa104_1 <| fa rfl rfl fa31_2 <| L_val rfl (v_load rfl ty22 HS (by exact rfl)) ?_
  refine fa rfl rfl fa104_1 <| fa rfl rfl fa31_0 <| L_val rfl (v_load rfl ty3 HS (by exact rfl)) ?_
  refine mv rfl rfl <| mv rfl rfl <| L_pur rfl (bld41 (.cons rfl (.cons rfl (.cons rfl (.cons rfl (.cons rfl .nil))))) (by repeat constructor)) <| J_slot (t := 39) (v := .agg (encD (i, q.e.tag, q.e.op, r, v, false)).toArray) rfl (by rw [hq]; rfl) <| L_op <| xc fc89 (.cons rfl (.cons rfl .nil)) rfl (coTell (s := (kForget { s with rt := del s.rt i } i)) (d := (i, q.e.tag, q.e.op, r, v, false)) PC (hD k rfl) hn2 (hF1.forget i) hF.mm) fun _ => ?_
  refine nq <| J_seq <| J_seq <| J_drawL none mixed <| ip 0 rfl rfl rfl rfl (p_move rfl) <| iv 2 rfl rfl rfl rfl (fun _ => v_loadA rfl ty39 HS CT) ?_
  refine I_ready (rs := [1, 7]) SI (by kernel_rfl) (by simp) ?_
  refine (I_cons rfl ?_ (I_cons rfl ?_ I_nil))
  refine xc fc22 (.cons rfl .nil) rfl (coReqs) fun _ => I_ready (rs := [3, 7]) SI (by kernel_rfl) (by simp) ?_
  refine (I_cons rfl ?_ (I_cons rfl ?_ I_nil))
  refine xc fc90 (.cons rfl (.cons rfl .nil)) rfl (coRqAfter (s := (kTell (kDec k) (kForget { s with rt := del s.rt i } i) (i, q.e.tag, q.e.op, r, v, false))) (i := i) PC hF3.1.ids (by have := hF3.1.jn; have := hF3.1.mm; omega)) fun _ => ?_
  refine ip 4 rfl rfl rfl rfl (p_move rfl) <| ip 5 rfl rfl rfl rfl (p_extract rfl rfl) <| ip 6 rfl rfl rfl rfl (p_extract rfl rfl) <| i1 7 rfl <| x_alloc ty104 rfl fun b11 => i1 8 rfl <| x_store rfl rfl ty104 rfl SM SM RO PT ?_
  refine ip 9 rfl rfl rfl rfl (p_assign rfl) <| i0 <| qx <| mv rfl rfl <| mv rfl rfl ?_
  refine J_gsplit (t := 49) rfl (fun h49 => ?_) (fun h49 => ?_)
  obtain ⟨x, haf⟩ : ∃ x, afterQ (kTell (kDec k) (kForget { s with rt := del s.rt i } i) (i, q.e.tag, q.e.op, r, v, false)).rt i = some x := by
   cases hz : afterQ (kTell (kDec k) (kForget { s with rt := del s.rt i } i) (i, q.e.tag, q.e.op, r, v, false)).rt i with
   | none => rw [hz] at h49; simp at h49
   | some x => exact ⟨x, rfl⟩
  refine J_pick (A := blk b11 _ _) PC ?_
  refine J_asTo (B := blk b11 104 (encQ x)) (by rw [haf]; rfl) <| L_op <| G_on rfl rfl rfl <| J_pur (p_fieldAddr rfl fa104_3) rfl rfl rfl <| L_op <| G_on rfl rfl rfl <| J_val (v_load rfl ty4 HS (by exact rfl)) rfl rfl rfl ?_
  refine L_pur rfl (p_pick_t rfl rfl) <| mv rfl rfl ?_
  refine J_gsplit (t := 53) rfl (fun h53 => ?_) (fun h53 => ?_)
  refine L_op <| G_on rfl rfl rfl <| J_pur (p_move rfl) rfl rfl rfl <| L_op <| G_on rfl rfl rfl <| J_pur (p_lss rfl rfl) rfl rfl rfl <| L_pur rfl (p_pick_t rfl rfl) <| nq ?_
  refine C_dec rfl (fun h56 => ?_) (fun h56 => ?_)
  refine J_region <| mv rfl rfl <| fa rfl rfl fa104_0 <| L_val rfl (v_loadA rfl ty39 HS CT) ?_
  refine L_op <| xc fc54 (.cons rfl (.cons rfl (.cons rfl (.cons rfl .nil)))) rfl (hD k rfl _ _ _ p (kTell (kDec k) (kForget { s with rt := del s.rt i } i) (i, q.e.tag, q.e.op, r, v, false)) x.id (-9) 0 PC (Nat.le_trans hF3.2 hn2) hF3.1) fun _ => ?_
  refine nx <| ag rfl rfl <| nq <| J_ret <| J_pick (A := coA p _) PC ?_
  refine J_asTo (B := coA p (kDec (k + 1) s i r v)) (by rw [kDec, hq]; simp only [haf]; rw [if_pos ⟨h53, h56⟩]) ?_
  exact J_return (()) Tryz.results54 (.tmp rfl .nil) rfl SU
  refine J_skip <| qx <| ag rfl rfl <| nq <| J_ret <| J_pick (A := coA p _) PC ?_
  refine J_asTo (B := coA p (kDec (k + 1) s i r v)) (by rw [kDec, hq]; simp only [haf]; rw [if_neg (by intro hc; simp_all)]) ?_
  exact J_return (()) Tryz.results54 (.tmp rfl .nil) rfl SU
  refine L_op <| G_off rfl rfl rfl rfl rfl rfl <| L_op <| G_off rfl rfl rfl rfl rfl rfl <| L_pur rfl (p_pick_f rfl rfl) <| nq <| C_false rfl <| J_skip ?_
  refine qx <| ag rfl rfl <| nq <| J_ret <| J_pick (A := coA p _) PC ?_
  refine J_asTo (B := coA p (kDec (k + 1) s i r v)) (by rw [kDec, hq]; simp only [haf]; rw [if_neg (by intro hc; simp_all)]) ?_
  exact J_return (()) Tryz.results54 (.tmp rfl .nil) rfl SU
  have haf : afterQ (kTell (kDec k) (kForget { s with rt := del s.rt i } i) (i, q.e.tag, q.e.op, r, v, false)).rt i = none := by
   cases hz : afterQ (kTell (kDec k) (kForget { s with rt := del s.rt i } i) (i, q.e.tag, q.e.op, r, v, false)).rt i with
   | none => rfl
   | some x => rw [hz] at h49; simp at h49
  refine L_op <| G_off rfl rfl rfl rfl rfl rfl <| L_op <| G_off rfl rfl rfl rfl rfl rfl <| L_pur rfl (p_pick_f rfl rfl) <| mv rfl rfl <| L_op <| G_off rfl rfl rfl rfl rfl rfl ?_
  refine L_op <| G_off rfl rfl rfl rfl rfl rfl <| L_pur rfl (p_pick_f rfl rfl) <| nq <| C_false rfl <| J_skip <| qx <| ag rfl rfl ?_
  refine nq <| J_ret <| J_pick (A := coA p _) PC ?_
  refine J_asTo (B := coA p (kDec (k + 1) s i r v)) (by rw [kDec, hq]; simp only [haf]) ?_
  exact J_return (()) Tryz.results54 (.tmp rfl .nil) rfl SU
  refine x_alloc ty104 rfl fun b11 => i1 3 rfl <| xc fc90 (.cons rfl (.cons rfl .nil)) rfl (coRqAfter (s := (kTell (kDec k) (kForget { s with rt := del s.rt i } i) (i, q.e.tag, q.e.op, r, v, false))) (i := i) PC hF3.1.ids (by have := hF3.1.jn; have := hF3.1.mm; omega)) fun _ => ?_
  refine ip 4 rfl rfl rfl rfl (p_move rfl) <| ip 5 rfl rfl rfl rfl (p_extract rfl rfl) <| ip 6 rfl rfl rfl rfl (p_extract rfl rfl) <| i1 8 rfl <| x_store rfl rfl ty104 rfl SM SM RO PT ?_
  refine ip 9 rfl rfl rfl rfl (p_assign rfl) <| i0 <| qx <| mv rfl rfl <| mv rfl rfl ?_
  refine J_gsplit (t := 49) rfl (fun h49 => ?_) (fun h49 => ?_)
  obtain ⟨x, haf⟩ : ∃ x, afterQ (kTell (kDec k) (kForget { s with rt := del s.rt i } i) (i, q.e.tag, q.e.op, r, v, false)).rt i = some x := by
   cases hz : afterQ (kTell (kDec k) (kForget { s with rt := del s.rt i } i) (i, q.e.tag, q.e.op, r, v, false)).rt i with
   | none => rw [hz] at h49; simp at h49
   | some x => exact ⟨x, rfl⟩
  refine J_pick (A := blk b11 _ _) PC ?_
  refine J_asTo (B := blk b11 104 (encQ x)) (by rw [haf]; rfl) <| L_op <| G_on rfl rfl rfl <| J_pur (p_fieldAddr rfl fa104_3) rfl rfl rfl <| L_op <| G_on rfl rfl rfl <| J_val (v_load rfl ty4 HS (by exact rfl)) rfl rfl rfl ?_
  refine L_pur rfl (p_pick_t rfl rfl) <| mv rfl rfl ?_
  refine J_gsplit (t := 53) rfl (fun h53 => ?_) (fun h53 => ?_)
  refine L_op <| G_on rfl rfl rfl <| J_pur (p_move rfl) rfl rfl rfl <| L_op <| G_on rfl rfl rfl <| J_pur (p_lss rfl rfl) rfl rfl rfl <| L_pur rfl (p_pick_t rfl rfl) <| nq ?_
  refine C_dec rfl (fun h56 => ?_) (fun h56 => ?_)
  refine J_region <| mv rfl rfl <| fa rfl rfl fa104_0 <| L_val rfl (v_loadA rfl ty39 HS CT) ?_
  refine L_op <| xc fc54 (.cons rfl (.cons rfl (.cons rfl (.cons rfl .nil)))) rfl (hD k rfl _ _ _ p (kTell (kDec k) (kForget { s with rt := del s.rt i } i) (i, q.e.tag, q.e.op, r, v, false)) x.id (-9) 0 PC (Nat.le_trans hF3.2 hn2) hF3.1) fun _ => ?_
  refine nx <| ag rfl rfl <| nq <| J_ret <| J_pick (A := coA p _) PC ?_
  refine J_asTo (B := coA p (kDec (k + 1) s i r v)) (by rw [kDec, hq]; simp only [haf]; rw [if_pos ⟨h53, h56⟩]) ?_
  exact J_return (()) Tryz.results54 (.tmp rfl .nil) rfl SU
  refine J_skip <| qx <| ag rfl rfl <| nq <| J_ret <| J_pick (A := coA p _) PC ?_
  refine J_asTo (B := coA p (kDec (k + 1) s i r v)) (by rw [kDec, hq]; simp only [haf]; rw [if_neg (by intro hc; simp_all)]) ?_
  exact J_return (()) Tryz.results54 (.tmp rfl .nil) rfl SU
  refine L_op <| G_off rfl rfl rfl rfl rfl rfl <| L_op <| G_off rfl rfl rfl rfl rfl rfl <| L_pur rfl (p_pick_f rfl rfl) <| nq <| C_false rfl <| J_skip ?_
  refine qx <| ag rfl rfl <| nq <| J_ret <| J_pick (A := coA p _) PC ?_
  refine J_asTo (B := coA p (kDec (k + 1) s i r v)) (by rw [kDec, hq]; simp only [haf]; rw [if_neg (by intro hc; simp_all)]) ?_
  exact J_return (()) Tryz.results54 (.tmp rfl .nil) rfl SU
  have haf : afterQ (kTell (kDec k) (kForget { s with rt := del s.rt i } i) (i, q.e.tag, q.e.op, r, v, false)).rt i = none := by
   cases hz : afterQ (kTell (kDec k) (kForget { s with rt := del s.rt i } i) (i, q.e.tag, q.e.op, r, v, false)).rt i with
   | none => rfl
   | some x => rw [hz] at h49; simp at h49
  refine L_op <| G_off rfl rfl rfl rfl rfl rfl <| L_op <| G_off rfl rfl rfl rfl rfl rfl <| L_pur rfl (p_pick_f rfl rfl) <| mv rfl rfl <| L_op <| G_off rfl rfl rfl rfl rfl rfl ?_
  refine L_op <| G_off rfl rfl rfl rfl rfl rfl <| L_pur rfl (p_pick_f rfl rfl) <| nq <| C_false rfl <| J_skip <| qx <| ag rfl rfl ?_
  refine nq <| J_ret <| J_pick (A := coA p _) PC ?_
  refine J_asTo (B := coA p (kDec (k + 1) s i r v)) (by rw [kDec, hq]; simp only [haf]) ?_
  exact J_return (()) Tryz.results54 (.tmp rfl .nil) rfl SU
  refine x_alloc ty104 rfl fun b11 => i1 1 rfl <| xc fc22 (.cons rfl .nil) rfl (coReqs) fun _ => i1 3 rfl <| xc fc90 (.cons rfl (.cons rfl .nil)) rfl (coRqAfter (s := (kTell (kDec k) (kForget { s with rt := del s.rt i } i) (i, q.e.tag, q.e.op, r, v, false))) (i := i) PC hF3.1.ids (by have := hF3.1.jn; have := hF3.1.mm; omega)) fun _ => ?_
  refine ip 4 rfl rfl rfl rfl (p_move rfl) <| ip 5 rfl rfl rfl rfl (p_extract rfl rfl) <| ip 6 rfl rfl rfl rfl (p_extract rfl rfl) <| i1 8 rfl <| x_store rfl rfl ty104 rfl SM SM RO PT ?_
  refine ip 9 rfl rfl rfl rfl (p_assign rfl) <| i0 <| qx <| mv rfl rfl <| mv rfl rfl ?_
  refine J_gsplit (t := 49) rfl (fun h49 => ?_) (fun h49 => ?_)
  obtain ⟨x, haf⟩ : ∃ x, afterQ (kTell (kDec k) (kForget { s with rt := del s.rt i } i) (i, q.e.tag, q.e.op, r, v, false)).rt i = some x := by
   cases hz : afterQ (kTell (kDec k) (kForget { s with rt := del s.rt i } i) (i, q.e.tag, q.e.op, r, v, false)).rt i with
   | none => rw [hz] at h49; simp at h49
   | some x => exact ⟨x, rfl⟩
  refine J_pick (A := blk b11 _ _) PC ?_
  refine J_asTo (B := blk b11 104 (encQ x)) (by rw [haf]; rfl) <| L_op <| G_on rfl rfl rfl <| J_pur (p_fieldAddr rfl fa104_3) rfl rfl rfl <| L_op <| G_on rfl rfl rfl <| J_val (v_load rfl ty4 HS (by exact rfl)) rfl rfl rfl ?_
  refine L_pur rfl (p_pick_t rfl rfl) <| mv rfl rfl ?_
  refine J_gsplit (t := 53) rfl (fun h53 => ?_) (fun h53 => ?_)
  refine L_op <| G_on rfl rfl rfl <| J_pur (p_move rfl) rfl rfl rfl <| L_op <| G_on rfl rfl rfl <| J_pur (p_lss rfl rfl) rfl rfl rfl <| L_pur rfl (p_pick_t rfl rfl) <| nq ?_
  refine C_dec rfl (fun h56 => ?_) (fun h56 => ?_)
  refine J_region <| mv rfl rfl <| fa rfl rfl fa104_0 <| L_val rfl (v_loadA rfl ty39 HS CT) ?_
  refine L_op <| xc fc54 (.cons rfl (.cons rfl (.cons rfl (.cons rfl .nil)))) rfl (hD k rfl _ _ _ p (kTell (kDec k) (kForget { s with rt := del s.rt i } i) (i, q.e.tag, q.e.op, r, v, false)) x.id (-9) 0 PC (Nat.le_trans hF3.2 hn2) hF3.1) fun _ => ?_
  refine nx <| ag rfl rfl <| nq <| J_ret <| J_pick (A := coA p _) PC ?_
  refine J_asTo (B := coA p (kDec (k + 1) s i r v)) (by rw [kDec, hq]; simp only [haf]; rw [if_pos ⟨h53, h56⟩]) ?_
  exact J_return (()) Tryz.results54 (.tmp rfl .nil) rfl SU
  refine J_skip <| qx <| ag rfl rfl <| nq <| J_ret <| J_pick (A := coA p _) PC ?_
  refine J_asTo (B := coA p (kDec (k + 1) s i r v)) (by rw [kDec, hq]; simp only [haf]; rw [if_neg (by intro hc; simp_all)]) ?_
  exact J_return (()) Tryz.results54 (.tmp rfl .nil) rfl SU
  refine L_op <| G_off rfl rfl rfl rfl rfl rfl <| L_op <| G_off rfl rfl rfl rfl rfl rfl <| L_pur rfl (p_pick_f rfl rfl) <| nq <| C_false rfl <| J_skip ?_
  refine qx <| ag rfl rfl <| nq <| J_ret <| J_pick (A := coA p _) PC ?_
  refine J_asTo (B := coA p (kDec (k + 1) s i r v)) (by rw [kDec, hq]; simp only [haf]; rw [if_neg (by intro hc; simp_all)]) ?_
  exact J_return (()) Tryz.results54 (.tmp rfl .nil) rfl SU
  have haf : afterQ (kTell (kDec k) (kForget { s with rt := del s.rt i } i) (i, q.e.tag, q.e.op, r, v, false)).rt i = none := by
   cases hz : afterQ (kTell (kDec k) (kForget { s with rt := del s.rt i } i) (i, q.e.tag, q.e.op, r, v, false)).rt i with
   | none => rfl
   | some x => rw [hz] at h49; simp at h49
  refine L_op <| G_off rfl rfl rfl rfl rfl rfl <| L_op <| G_off rfl rfl rfl rfl rfl rfl <| L_pur rfl (p_pick_f rfl rfl) <| mv rfl rfl <| L_op <| G_off rfl rfl rfl rfl rfl rfl ?_
  refine L_op <| G_off rfl rfl rfl rfl rfl rfl <| L_pur rfl (p_pick_f rfl rfl) <| nq <| C_false rfl <| J_skip <| qx <| ag rfl rfl ?_
  refine nq <| J_ret <| J_pick (A := coA p _) PC ?_
  refine J_asTo (B := coA p (kDec (k + 1) s i r v)) (by rw [kDec, hq]; simp only [haf]) ?_
  exact J_return (()) Tryz.results54 (.tmp rfl .nil) rfl SU
  refine x_alloc ty104 rfl fun b9 => i1 1 rfl <| xc fc22 (.cons rfl .nil) rfl (coReqs) fun _ => i1 3 rfl <| xc fc51 (.cons rfl (.cons rfl .nil)) rfl (coRqGet (s := s) (i := i) PC) fun _ => ?_
  refine ip 4 rfl rfl rfl rfl (p_move rfl) <| ip 5 rfl rfl rfl rfl (p_extract rfl rfl) <| ip 6 rfl rfl rfl rfl (p_extract rfl rfl) <| i1 8 rfl <| x_store rfl rfl ty104 rfl SM SM RO PT ?_
  refine ip 9 rfl rfl rfl rfl (p_assign rfl) <| i0 <| Q_then <| J_seq <| sr <| mv rfl rfl <| L_pur rfl (p_not rfl) <| nq ?_
  refine J_bool (t := 21) (c := false) rfl (by rw [hq]; rfl) <| C_false rfl <| J_skip <| Q_then <| J_seq <| J_drawL (some 3) mixed <| ip 0 rfl rfl rfl rfl (p_move rfl) <| iv 2 rfl rfl rfl rfl (fun _ => v_loadA rfl ty39 HS CT) ?_
  refine i1 1 rfl <| xc fc22 (.cons rfl .nil) rfl (coReqs) fun _ => i1 3 rfl <| xc fc87 (.cons rfl (.cons rfl .nil)) rfl (coRqDrop (s := s) (i := i) PC) fun _ => ?_
  refine i0 <| qx <| mv rfl rfl <| L_val rfl (v_loadA rfl ty39 HS CT) ?_
  refine L_op <| xc fc88 (.cons rfl (.cons rfl .nil)) rfl (coForget (s := { s with rt := del s.rt i }) (i := i) PC hF1) fun _ => ?_
  refine nx <| mv rfl rfl <| L_val rfl (v_loadA rfl ty39 HS CT) ?_
  refine fa rfl rfl fa104_1 <| fa rfl rfl fa31_2 <| L_val rfl (v_load rfl ty22 HS (by exact rfl)) ?_
  refine fa rfl rfl fa104_1 <| fa rfl rfl fa31_0 <| L_val rfl (v_load rfl ty3 HS (by exact rfl)) ?_
  refine mv rfl rfl <| mv rfl rfl <| L_pur rfl (bld41 (.cons rfl (.cons rfl (.cons rfl (.cons rfl (.cons rfl .nil))))) (by repeat constructor)) <| J_slot (t := 39) (v := .agg (encD (i, q.e.tag, q.e.op, r, v, false)).toArray) rfl (by rw [hq]; rfl) <| L_op <| xc fc89 (.cons rfl (.cons rfl .nil)) rfl (coTell (s := (kForget { s with rt := del s.rt i } i)) (d := (i, q.e.tag, q.e.op, r, v, false)) PC (hD k rfl) hn2 (hF1.forget i) hF.mm) fun _ => ?_
  refine nq <| J_seq <| J_seq <| J_drawL none mixed <| ip 0 rfl rfl rfl rfl (p_move rfl) <| iv 2 rfl rfl rfl rfl (fun _ => v_loadA rfl ty39 HS CT) ?_
  refine I_ready (rs := [1, 7]) SI (by kernel_rfl) (by simp) ?_
  refine (I_cons rfl ?_ (I_cons rfl ?_ I_nil))
  refine xc fc22 (.cons rfl .nil) rfl (coReqs) fun _ => I_ready (rs := [3, 7]) SI (by kernel_rfl) (by simp) ?_
  refine (I_cons rfl ?_ (I_cons rfl ?_ I_nil))
  refine xc fc90 (.cons rfl (.cons rfl .nil)) rfl (coRqAfter (s := (kTell (kDec k) (kForget { s with rt := del s.rt i } i) (i, q.e.tag, q.e.op, r, v, false))) (i := i) PC hF3.1.ids (by have := hF3.1.jn; have := hF3.1.mm; omega)) fun _ => ?_
  refine ip 4 rfl rfl rfl rfl (p_move rfl) <| ip 5 rfl rfl rfl rfl (p_extract rfl rfl) <| ip 6 rfl rfl rfl rfl (p_extract rfl rfl) <| i1 7 rfl <| x_alloc ty104 rfl fun b11 => i1 8 rfl <| x_store rfl rfl ty104 rfl SM SM RO PT ?_
  refine ip 9 rfl rfl rfl rfl (p_assign rfl) <| i0 <| qx <| mv rfl rfl <| mv rfl rfl ?_
  refine J_gsplit (t := 49) rfl (fun h49 => ?_) (fun h49 => ?_)
  obtain ⟨x, haf⟩ : ∃ x, afterQ (kTell (kDec k) (kForget { s with rt := del s.rt i } i) (i, q.e.tag, q.e.op, r, v, false)).rt i = some x := by
   cases hz : afterQ (kTell (kDec k) (kForget { s with rt := del s.rt i } i) (i, q.e.tag, q.e.op, r, v, false)).rt i with
   | none => rw [hz] at h49; simp at h49
   | some x => exact ⟨x, rfl⟩
  refine J_pick (A := blk b11 _ _) PC ?_
  refine J_asTo (B := blk b11 104 (encQ x)) (by rw [haf]; rfl) <| L_op <| G_on rfl rfl rfl <| J_pur (p_fieldAddr rfl fa104_3) rfl rfl rfl <| L_op <| G_on rfl rfl rfl <| J_val (v_load rfl ty4 HS (by exact rfl)) rfl rfl rfl ?_
  refine L_pur rfl (p_pick_t rfl rfl) <| mv rfl rfl ?_
  refine J_gsplit (t := 53) rfl (fun h53 => ?_) (fun h53 => ?_)
  refine L_op <| G_on rfl rfl rfl <| J_pur (p_move rfl) rfl rfl rfl <| L_op <| G_on rfl rfl rfl <| J_pur (p_lss rfl rfl) rfl rfl rfl <| L_pur rfl (p_pick_t rfl rfl) <| nq ?_
  refine C_dec rfl (fun h56 => ?_) (fun h56 => ?_)
  refine J_region <| mv rfl rfl <| fa rfl rfl fa104_0 <| L_val rfl (v_loadA rfl ty39 HS CT) ?_
  refine L_op <| xc fc54 (.cons rfl (.cons rfl (.cons rfl (.cons rfl .nil)))) rfl (hD k rfl _ _ _ p (kTell (kDec k) (kForget { s with rt := del s.rt i } i) (i, q.e.tag, q.e.op, r, v, false)) x.id (-9) 0 PC (Nat.le_trans hF3.2 hn2) hF3.1) fun _ => ?_
  refine nx <| ag rfl rfl <| nq <| J_ret <| J_pick (A := coA p _) PC ?_
  refine J_asTo (B := coA p (kDec (k + 1) s i r v)) (by rw [kDec, hq]; simp only [haf]; rw [if_pos ⟨h53, h56⟩]) ?_
  exact J_return (()) Tryz.results54 (.tmp rfl .nil) rfl SU
  refine J_skip <| qx <| ag rfl rfl <| nq <| J_ret <| J_pick (A := coA p _) PC ?_
  refine J_asTo (B := coA p (kDec (k + 1) s i r v)) (by rw [kDec, hq]; simp only [haf]; rw [if_neg (by intro hc; simp_all)]) ?_
  exact J_return (()) Tryz.results54 (.tmp rfl .nil) rfl SU
  refine L_op <| G_off rfl rfl rfl rfl rfl rfl <| L_op <| G_off rfl rfl rfl rfl rfl rfl <| L_pur rfl (p_pick_f rfl rfl) <| nq <| C_false rfl <| J_skip ?_
  refine qx <| ag rfl rfl <| nq <| J_ret <| J_pick (A := coA p _) PC ?_
  refine J_asTo (B := coA p (kDec (k + 1) s i r v)) (by rw [kDec, hq]; simp only [haf]; rw [if_neg (by intro hc; simp_all)]) ?_
  exact J_return (()) Tryz.results54 (.tmp rfl .nil) rfl SU
  have haf : afterQ (kTell (kDec k) (kForget { s with rt := del s.rt i } i) (i, q.e.tag, q.e.op, r, v, false)).rt i = none := by
   cases hz : afterQ (kTell (kDec k) (kForget { s with rt := del s.rt i } i) (i, q.e.tag, q.e.op, r, v, false)).rt i with
   | none => rfl
   | some x => rw [hz] at h49; simp at h49
  refine L_op <| G_off rfl rfl rfl rfl rfl rfl <| L_op <| G_off rfl rfl rfl rfl rfl rfl <| L_pur rfl (p_pick_f rfl rfl) <| mv rfl rfl <| L_op <| G_off rfl rfl rfl rfl rfl rfl ?_
  refine L_op <| G_off rfl rfl rfl rfl rfl rfl <| L_pur rfl (p_pick_f rfl rfl) <| nq <| C_false rfl <| J_skip <| qx <| ag rfl rfl ?_
  refine nq <| J_ret <| J_pick (A := coA p _) PC ?_
  refine J_asTo (B := coA p (kDec (k + 1) s i r v)) (by rw [kDec, hq]; simp only [haf]) ?_
  exact J_return (()) Tryz.results54 (.tmp rfl .nil) rfl SU
  refine x_alloc ty104 rfl fun b11 => i1 3 rfl <| xc fc90 (.cons rfl (.cons rfl .nil)) rfl (coRqAfter (s := (kTell (kDec k) (kForget { s with rt := del s.rt i } i) (i, q.e.tag, q.e.op, r, v, false))) (i := i) PC hF3.1.ids (by have := hF3.1.jn; have := hF3.1.mm; omega)) fun _ => ?_
  refine ip 4 rfl rfl rfl rfl (p_move rfl) <| ip 5 rfl rfl rfl rfl (p_extract rfl rfl) <| ip 6 rfl rfl rfl rfl (p_extract rfl rfl) <| i1 8 rfl <| x_store rfl rfl ty104 rfl SM SM RO PT ?_
  refine ip 9 rfl rfl rfl rfl (p_assign rfl) <| i0 <| qx <| mv rfl rfl <| mv rfl rfl ?_
  refine J_gsplit (t := 49) rfl (fun h49 => ?_) (fun h49 => ?_)
  obtain ⟨x, haf⟩ : ∃ x, afterQ (kTell (kDec k) (kForget { s with rt := del s.rt i } i) (i, q.e.tag, q.e.op, r, v, false)).rt i = some x := by
   cases hz : afterQ (kTell (kDec k) (kForget { s with rt := del s.rt i } i) (i, q.e.tag, q.e.op, r, v, false)).rt i with
   | none => rw [hz] at h49; simp at h49
   | some x => exact ⟨x, rfl⟩
  refine J_pick (A := blk b11 _ _) PC ?_
  refine J_asTo (B := blk b11 104 (encQ x)) (by rw [haf]; rfl) <| L_op <| G_on rfl rfl rfl <| J_pur (p_fieldAddr rfl fa104_3) rfl rfl rfl <| L_op <| G_on rfl rfl rfl <| J_val (v_load rfl ty4 HS (by exact rfl)) rfl rfl rfl ?_
  refine L_pur rfl (p_pick_t rfl rfl) <| mv rfl rfl ?_
  refine J_gsplit (t := 53) rfl (fun h53 => ?_) (fun h53 => ?_)
  refine L_op <| G_on rfl rfl rfl <| J_pur (p_move rfl) rfl rfl rfl <| L_op <| G_on rfl rfl rfl <| J_pur (p_lss rfl rfl) rfl rfl rfl <| L_pur rfl (p_pick_t rfl rfl) <| nq ?_
  refine C_dec rfl (fun h56 => ?_) (fun h56 => ?_)
  refine J_region <| mv rfl rfl <| fa rfl rfl fa104_0 <| L_val rfl (v_loadA rfl ty39 HS CT) ?_
  refine L_op <| xc fc54 (.cons rfl (.cons rfl (.cons rfl (.cons rfl .nil)))) rfl (hD k rfl _ _ _ p (kTell (kDec k) (kForget { s with rt := del s.rt i } i) (i, q.e.tag, q.e.op, r, v, false)) x.id (-9) 0 PC (Nat.le_trans hF3.2 hn2) hF3.1) fun _ => ?_
  refine nx <| ag rfl rfl <| nq <| J_ret <| J_pick (A := coA p _) PC ?_
  refine J_asTo (B := coA p (kDec (k + 1) s i r v)) (by rw [kDec, hq]; simp only [haf]; rw [if_pos ⟨h53, h56⟩]) ?_
  exact J_return (()) Tryz.results54 (.tmp rfl .nil) rfl SU
  refine J_skip <| qx <| ag rfl rfl <| nq <| J_ret <| J_pick (A := coA p _) PC ?_
  refine J_asTo (B := coA p (kDec (k + 1) s i r v)) (by rw [kDec, hq]; simp only [haf]; rw [if_neg (by intro hc; simp_all)]) ?_
  exact J_return (()) Tryz.results54 (.tmp rfl .nil) rfl SU
  refine L_op <| G_off rfl rfl rfl rfl rfl rfl <| L_op <| G_off rfl rfl rfl rfl rfl rfl <| L_pur rfl (p_pick_f rfl rfl) <| nq <| C_false rfl <| J_skip ?_
  refine qx <| ag rfl rfl <| nq <| J_ret <| J_pick (A := coA p _) PC ?_
  refine J_asTo (B := coA p (kDec (k + 1) s i r v)) (by rw [kDec, hq]; simp only [haf]; rw [if_neg (by intro hc; simp_all)]) ?_
  exact J_return (()) Tryz.results54 (.tmp rfl .nil) rfl SU
  have haf : afterQ (kTell (kDec k) (kForget { s with rt := del s.rt i } i) (i, q.e.tag, q.e.op, r, v, false)).rt i = none := by
   cases hz : afterQ (kTell (kDec k) (kForget { s with rt := del s.rt i } i) (i, q.e.tag, q.e.op, r, v, false)).rt i with
   | none => rfl
   | some x => rw [hz] at h49; simp at h49
  refine L_op <| G_off rfl rfl rfl rfl rfl rfl <| L_op <| G_off rfl rfl rfl rfl rfl rfl <| L_pur rfl (p_pick_f rfl rfl) <| mv rfl rfl <| L_op <| G_off rfl rfl rfl rfl rfl rfl ?_
  refine L_op <| G_off rfl rfl rfl rfl rfl rfl <| L_pur rfl (p_pick_f rfl rfl) <| nq <| C_false rfl <| J_skip <| qx <| ag rfl rfl ?_
  refine nq <| J_ret <| J_pick (A := coA p _) PC ?_
  refine J_asTo (B := coA p (kDec (k + 1) s i r v)) (by rw [kDec, hq]; simp only [haf]) ?_
  exact J_return (()) Tryz.results54 (.tmp rfl .nil) rfl SU
  refine x_alloc ty104 rfl fun b11 => i1 1 rfl <| xc fc22 (.cons rfl .nil) rfl (coReqs) fun _ => i1 3 rfl <| xc fc90 (.cons rfl (.cons rfl .nil)) rfl (coRqAfter (s := (kTell (kDec k) (kForget { s with rt := del s.rt i } i) (i, q.e.tag, q.e.op, r, v, false))) (i := i) PC hF3.1.ids (by have := hF3.1.jn; have := hF3.1.mm; omega)) fun _ => ?_
  refine ip 4 rfl rfl rfl rfl (p_move rfl) <| ip 5 rfl rfl rfl rfl (p_extract rfl rfl) <| ip 6 rfl rfl rfl rfl (p_extract rfl rfl) <| i1 8 rfl <| x_store rfl rfl ty104 rfl SM SM RO PT ?_
  refine ip 9 rfl rfl rfl rfl (p_assign rfl) <| i0 <| qx <| mv rfl rfl <| mv rfl rfl ?_
  refine J_gsplit (t := 49) rfl (fun h49 => ?_) (fun h49 => ?_)
  obtain ⟨x, haf⟩ : ∃ x, afterQ (kTell (kDec k) (kForget { s with rt := del s.rt i } i) (i, q.e.tag, q.e.op, r, v, false)).rt i = some x := by
   cases hz : afterQ (kTell (kDec k) (kForget { s with rt := del s.rt i } i) (i, q.e.tag, q.e.op, r, v, false)).rt i with
   | none => rw [hz] at h49; simp at h49
   | some x => exact ⟨x, rfl⟩
  refine J_pick (A := blk b11 _ _) PC ?_
  refine J_asTo (B := blk b11 104 (encQ x)) (by rw [haf]; rfl) <| L_op <| G_on rfl rfl rfl <| J_pur (p_fieldAddr rfl fa104_3) rfl rfl rfl <| L_op <| G_on rfl rfl rfl <| J_val (v_load rfl ty4 HS (by exact rfl)) rfl rfl rfl ?_
  refine L_pur rfl (p_pick_t rfl rfl) <| mv rfl rfl ?_
  refine J_gsplit (t := 53) rfl (fun h53 => ?_) (fun h53 => ?_)
  refine L_op <| G_on rfl rfl rfl <| J_pur (p_move rfl) rfl rfl rfl <| L_op <| G_on rfl rfl rfl <| J_pur (p_lss rfl rfl) rfl rfl rfl <| L_pur rfl (p_pick_t rfl rfl) <| nq ?_
  refine C_dec rfl (fun h56 => ?_) (fun h56 => ?_)
  refine J_region <| mv rfl rfl <| fa rfl rfl fa104_0 <| L_val rfl (v_loadA rfl ty39 HS CT) ?_
  refine L_op <| xc fc54 (.cons rfl (.cons rfl (.cons rfl (.cons rfl .nil)))) rfl (hD k rfl _ _ _ p (kTell (kDec k) (kForget { s with rt := del s.rt i } i) (i, q.e.tag, q.e.op, r, v, false)) x.id (-9) 0 PC (Nat.le_trans hF3.2 hn2) hF3.1) fun _ => ?_
  refine nx <| ag rfl rfl <| nq <| J_ret <| J_pick (A := coA p _) PC ?_
  refine J_asTo (B := coA p (kDec (k + 1) s i r v)) (by rw [kDec, hq]; simp only [haf]; rw [if_pos ⟨h53, h56⟩]) ?_
  exact J_return (()) Tryz.results54 (.tmp rfl .nil) rfl SU
  refine J_skip <| qx <| ag rfl rfl <| nq <| J_ret <| J_pick (A := coA p _) PC ?_
  refine J_asTo (B := coA p (kDec (k + 1) s i r v)) (by rw [kDec, hq]; simp only [haf]; rw [if_neg (by intro hc; simp_all)]) ?_
  exact J_return (()) Tryz.results54 (.tmp rfl .nil) rfl SU
  refine L_op <| G_off rfl rfl rfl rfl rfl rfl <| L_op <| G_off rfl rfl rfl rfl rfl rfl <| L_pur rfl (p_pick_f rfl rfl) <| nq <| C_false rfl <| J_skip ?_
  refine qx <| ag rfl rfl <| nq <| J_ret <| J_pick (A := coA p _) PC ?_
  refine J_asTo (B := coA p (kDec (k + 1) s i r v)) (by rw [kDec, hq]; simp only [haf]; rw [if_neg (by intro hc; simp_all)]) ?_
  exact J_return (()) Tryz.results54 (.tmp rfl .nil) rfl SU
  have haf : afterQ (kTell (kDec k) (kForget { s with rt := del s.rt i } i) (i, q.e.tag, q.e.op, r, v, false)).rt i = none := by
   cases hz : afterQ (kTell (kDec k) (kForget { s with rt := del s.rt i } i) (i, q.e.tag, q.e.op, r, v, false)).rt i with
   | none => rfl
   | some x => rw [hz] at h49; simp at h49
  refine L_op <| G_off rfl rfl rfl rfl rfl rfl <| L_op <| G_off rfl rfl rfl rfl rfl rfl <| L_pur rfl (p_pick_f rfl rfl) <| mv rfl rfl <| L_op <| G_off rfl rfl rfl rfl rfl rfl ?_
  refine L_op <| G_off rfl rfl rfl rfl rfl rfl <| L_pur rfl (p_pick_f rfl rfl) <| nq <| C_false rfl <| J_skip <| qx <| ag rfl rfl ?_
  refine nq <| J_ret <| J_pick (A := coA p _) PC ?_
  refine J_asTo (B := coA p (kDec (k + 1) s i r v)) (by rw [kDec, hq]; simp only [haf]) ?_
  exact J_return (()) Tryz.results54 (.tmp rfl .nil) rfl SU
theorem decC : ∀ n N M, DecC n N M
  | 0, N, M => fun E l m p s i r v hp hn hF => coDecStep hp (fun k h => by cases h) hn hF
  | n + 1, N, M => fun E l m p s i r v hp hn hF => coDecStep hp (fun k h => by cases h; exact decC n N M) hn hF
theorem coDecide {E : World} {l m : List As} {p : Nat} {s : KS} (hp : Pick (coA p s) l m) {N M : Nat} {i : ID} {r v : Int} (hF : Fits s N M) : Con Tryz.prog 54 #[.pointer (some ⟨p, 0, none⟩), .agg (encI i).toArray, .int .i64 r, .int .u32 v] E l (fun _ : Unit => .bool (look s.rt i).isSome) (fun _ => coA p (kDec s.rt.length s i r v) :: m) := decC s.rt.length N M E l m p s i r v hp (Nat.le_refl _) hF
end Go.Pse
namespace Go.Pse
open Go.RowKit Go.Proofs
/-! ### plain: a ring that has room -/
def Rdy (s : KS) (g c t : Int) : Prop := ∃ b r, look s.rg g = some (b, r) ∧ r.over = [] ∧ r.tail = t ∧ r.cb = 4 ∧ r.cq = c ∧ getN (rowAt s.mem c) 0 4 = 0
theorem getN_far {bs ys : List Int} {a : Nat} (h : 4 ≤ a) (hl : a ≤ bs.length) : getN (putB bs a ys) 0 4 = getN bs 0 4 := by
  have e : ∀ k, k < 4 → byteAt (putB bs a ys) (0 + k) = byteAt bs (0 + k) := fun k hk => by
    unfold byteAt putB
    rw [List.append_assoc, List.getElem?_append_left (by simp; omega), List.getElem?_take_of_lt (by omega)]
  simp only [getN, e 0 (by omega), e 1 (by omega), e 2 (by omega), e 3 (by omega)]
theorem getN_row {r : Rg} {ms : List (List Int)} (hr : RgOk r) (hM : MemOk ms) (c : Cqe) : getN (rgRow r ms c) 0 4 = getN (rowAt ms r.cq) 0 4 := by
  obtain ⟨h1, h2, h3⟩ := hM.at hr.cq
  have h4 := place_in hr
  unfold rgRow
  rw [getN_far (by omega) (by rw [putB_len (by rw [bytesX_len]; omega), h2]; omega), getN_far (by omega) (by rw [h2]; omega)]
theorem rowAt_set {ms : List (List Int)} {u c : Int} {x : List Int} (hu : 1 ≤ u ∧ u ≤ 64) (hc : 1 ≤ c) (hl : ms.length = 64) : rowAt (ms.set (u - 1).toNat x) c = if c = u then x else rowAt ms c := by
  unfold rowAt
  by_cases h : c = u
  · subst h; rw [if_pos rfl, List.getElem?_set_self (by omega)]; rfl
  · rw [if_neg h, List.getElem?_set_ne (by omega)]
theorem rdy_ok {r : Rg} {ms : List (List Int)} {t : Int} (h1 : r.over = []) (h2 : r.tail = t) (h3 : r.cb = 4) (h4 : getN (rowAt ms r.cq) 0 4 = 0) (ht : 0 ≤ t ∧ t < 16) : postOk r ms = true := by
  unfold postOk rgWrOk rgFar
  rw [h1, h2, h3, h4, Int.sub_zero, wrap32u_of (by omega)]
  simp only [List.isEmpty_nil, Bool.true_and, decide_eq_true_eq]
  show t < 2 ^ 4
  omega
theorem look_updO {α : Type} {u g : Int} {f : α → α} : ∀ {xs : List (Int × Nat × α)}, look (updO xs u f) g = (look xs g).map fun x => if g = u then (x.1, f x.2) else x
  | [] => rfl
  | x :: xs => by
    unfold updO
    rw [List.map_cons, look_cons, look_cons, show List.map _ xs = updO xs u f from rfl, look_updO]
    by_cases hx : x.1 = u
    · rw [if_pos hx]
      by_cases hg : x.1 = g
      · simp [hg, hg ▸ hx]
      · simp [hg]
    · rw [if_neg hx]
      by_cases hg : x.1 = g
      · have : ¬ g = u := fun e => hx (hg.trans e)
        simp [hg, this]
      · simp [hg]
theorem kPost_some {s : KS} {d : Deed} {b : Nat} {r : Rg} (h : look s.rg d.1.1 = some (b, r)) : kPost s d = { s with rg := updO s.rg d.1.1 (fun r => postR r s.mem (ofD d)), mem := postM r s.mem (ofD d) } := by
  unfold kPost; rw [h]
theorem kPost_rg {s : KS} {d : Deed} {b : Nat} {r : Rg} (h : look s.rg d.1.1 = some (b, r)) : (kPost s d).rg = updO s.rg d.1.1 (fun r => postR r s.mem (ofD d)) := by rw [kPost_some h]
theorem Rdy.post {s : KS} {N M : Nat} (hF : Fits s N M) {g c t : Int} (h : Rdy s g c t) (ht : 0 ≤ t ∧ t < 16) {d : Deed} (hd : d.1.1 = g) : Rdy (kPost s d) g c (t + 1) := by
  subst hd
  obtain ⟨b, r, h1, h2, h3, h4, h5, h6⟩ := h
  have hro := (hF.rg _ (mem_look h1)).1
  have hr : RgOk r := hro
  have hok := rdy_ok (ms := s.mem) h2 h3 h4 (by rw [h5]; exact h6) ht
  refine ⟨b, rgUp r, ?_, h2, ?_, h4, h5, ?_⟩
  · rw [kPost_rg h1, look_updO, h1]
    simp [postR, hok]
  · show IntKind.u32.wrap (r.tail + 1) = _
    rw [h3, wrap32u_of (by omega)]
  · rw [kPost_some h1]
    show getN (rowAt (postM r s.mem (ofD d)) c) 0 4 = 0
    unfold postM
    rw [hok, if_pos rfl, ← h5, rowAt_set hr.cq hr.cq.1 hF.mem.len, if_pos rfl, getN_row hr hF.mem, h5, h6]
theorem Rdy.other {s : KS} {N M : Nat} (hF : Fits s N M) {g c t g2 c2 t2 : Int} (h : Rdy s g c t) (h2 : Rdy s g2 c2 t2) (hg : g ≠ g2) (hc : c ≠ c2) {d : Deed} (hd : d.1.1 = g2) : Rdy (kPost s d) g c t := by
  subst hd
  obtain ⟨b, r, h1, e2, e3, e4, e5, e6⟩ := h
  obtain ⟨b2, r2, k1, _, _, _, k5, _⟩ := h2
  have hr : RgOk r := (hF.rg _ (mem_look h1)).1
  have hr2 : RgOk r2 := (hF.rg _ (mem_look k1)).1
  refine ⟨b, r, ?_, e2, e3, e4, e5, ?_⟩
  · rw [kPost_rg k1, look_updO, h1]
    simp [hg]
  · rw [kPost_some k1]
    show getN (rowAt (postM r2 s.mem (ofD d)) c) 0 4 = 0
    unfold postM
    split
    · rw [rowAt_set hr2.cq (by have := hr.cq; omega) hF.mem.len, if_neg (by rw [k5]; exact hc)]; exact e6
    · exact e6
def kNext (D : KS → ID → Int → Int → KS) (s : KS) (i : ID) (r : Int) : KS := match afterQ s.rt i with
  | none => s
  | some x => if x.soft = true ∧ r < 0 then D s x.id (-9) 0 else s
theorem kDec_some {n : Nat} {s : KS} {i : ID} {r v : Int} {q : Rq} (hq : look s.rt i = some q) : kDec (n + 1) s i r v = kNext (kDec n) (kTell (kDec n) (kForget { s with rt := del s.rt i } i) (i, q.e.tag, q.e.op, r, v, false)) i r := by
  rw [kDec, hq]
  simp only []
  generalize kTell (kDec n) (kForget { s with rt := del s.rt i } i) (i, q.e.tag, q.e.op, r, v, false) = t
  unfold kNext
  cases afterQ t.rt i <;> rfl
/-! ### plain: a row of requests, each on the one ahead -/
section
variable {soft : List Bool} {a j n : Nat}
end
end Go.Pse
namespace Go.Pse
open Go.RowKit Go.ChangeShapes Go.WideShapes Go.Deep
inductive Leaf where
  | int (k : IntKind)
  | bool
def Leaf.ok : Leaf → Value → Prop
  | .int k, v => ∃ n, v = .int k n ∧ k.min ≤ n ∧ n ≤ k.max
  | .bool, v => ∃ b, v = .bool b
def Shape : List Leaf → List Value → Prop
  | [], [] => True
  | k :: ks, v :: vs => k.ok v ∧ Shape ks vs
  | _, _ => False
def leafFs (P : Program) (lv : TypeId → Option (List Leaf)) : List Field → Nat → Option (List Leaf)
  | [], _ => some []
  | f :: fs, o => match lv f.type with
    | some ks => if f.offset = o ∧ P.cellsOf f.type = ks.length then (match leafFs P lv fs (o + ks.length) with
      | some r => some (ks ++ r)
      | none => none) else none
    | none => none
def leaves (P : Program) : Nat → TypeId → Option (List Leaf)
  | 0, _ => none
  | n + 1, t => match P.underlying t with
    | some (.int k) => some [.int k]
    | some .bool => some [.bool]
    | some (.struct fs) => leafFs P (leaves P n) fs.toList 0
    | _ => none
theorem Shape.nil_inv {vs : List Value} (h : Shape [] vs) : vs = [] := by
  cases vs with
  | nil => rfl
  | cons v vs => exact h.elim
theorem Shape.cons_inv {k : Leaf} {ks : List Leaf} {vs : List Value} (h : Shape (k :: ks) vs) : ∃ v vs', vs = v :: vs' ∧ k.ok v ∧ Shape ks vs' := by
  cases vs with
  | nil => exact h.elim
  | cons v vs => exact ⟨v, vs, rfl, h.1, h.2⟩
theorem Shape.length : ∀ {ks : List Leaf} {vs : List Value}, Shape ks vs → vs.length = ks.length
  | [], vs, h => by rw [h.nil_inv]; rfl
  | _ :: _, _, h => by obtain ⟨v, vs', rfl, _, h'⟩ := h.cons_inv; simp [h'.length]
theorem Shape.append : ∀ {ks ks' : List Leaf} {vs vs' : List Value}, Shape ks vs → Shape ks' vs' → Shape (ks ++ ks') (vs ++ vs')
  | [], _, vs, _, h, h' => by rw [h.nil_inv]; exact h'
  | _ :: _, _, _, _, h, h' => by obtain ⟨v, ws, rfl, hv, h2⟩ := h.cons_inv; exact ⟨hv, h2.append h'⟩
theorem Shape.ones : ∀ {ks : List Leaf} {vs : List Value}, Shape ks vs → ones vs = true
  | [], vs, h => by rw [h.nil_inv]; rfl
  | k :: _, _, h => by
    obtain ⟨v, ws, rfl, hv, h2⟩ := h.cons_inv
    have h3 : v.oneCell' = true := by
      cases k with
      | int k => obtain ⟨n, rfl, _⟩ := hv; rfl
      | bool => obtain ⟨b, rfl⟩ := hv; rfl
    have h4 := h2.ones
    unfold Pse.ones at h4 ⊢
    simp [h3, h4]
section
variable {H : Type} {enc : TypeId × Value → H} {P : Program} {W : World} {base b0 : Nat} {spare : Nat → Bool} {held : Bool}
end
end Go.Pse
namespace Go.Pse
open Go.RowKit Go.Proofs
theorem zrow_ok : MemOk (List.replicate 64 zrow) := ⟨List.length_replicate, fun r hr => by
  rw [List.eq_of_mem_replicate hr]
  exact ⟨List.length_replicate, fun x hx => by rw [List.eq_of_mem_replicate hx]; omega⟩⟩
structure One (K : KS) (cs cc : Int) (g : NewG) : Prop where
  rt : K.rt = []
  jn : K.jn = []
  nt : K.nt = []
  rg : K.rg = [(4, (g.bs 0).1, rgNew 5 6 cs cc)]
  mem : K.mem = List.replicate 64 zrow
  fit : Fits K 20 40
theorem one_is (g : NewG) : One (kNew 1 1 0 0 false g) 0 0 g ∧ One (kNew 1 1 3 4 false g) 3 4 g := by
  have hrg : ∀ cs cc : Int, 0 ≤ cc ∧ cc ≤ 4 → RgOk (rgNew 5 6 cs cc) := fun cs cc h => ⟨⟨by show (1 : Int) ≤ 5; omega, by show (5 : Int) ≤ 64; omega⟩, ⟨by show (1 : Int) ≤ 6; omega, by show (6 : Int) ≤ 64; omega⟩, ⟨by show 0 ≤ cutI cc 0 4; unfold cutI; split <;> split <;> omega, by show cutI cc 0 4 ≤ 4; unfold cutI; split <;> split <;> omega⟩, ⟨by show (0 : Int) ≤ 0; omega, by show (0 : Int) < _; omega⟩⟩
  constructor
  · exact ⟨rfl, rfl, rfl, rfl, rfl, ⟨by omega, by omega, Ids.nil, by show 0 ≤ 40; omega, by show 0 ≤ 20; omega, fun x hx => (by cases hx), fun x hx => (by cases hx), fun x hx => by
      obtain rfl := List.mem_singleton.1 (show x ∈ [(7, (g.bs 0).2, (0, 0), false)] from hx)
      exact ⟨by show (1 : Int) ≤ 7; omega, by show (7 : Int) ≤ 64; omega⟩, fun x hx => by
      obtain rfl := List.mem_singleton.1 (show x ∈ [(4, (g.bs 0).1, rgNew 5 6 0 0)] from hx)
      exact ⟨hrg 0 0 (by omega), by show 0 ≤ 40; omega⟩, zrow_ok⟩⟩
  · exact ⟨rfl, rfl, rfl, rfl, rfl, ⟨by omega, by omega, Ids.nil, by show 0 ≤ 40; omega, by show 0 ≤ 20; omega, fun x hx => (by cases hx), fun x hx => (by cases hx), fun x hx => by
      obtain rfl := List.mem_singleton.1 (show x ∈ [(7, (g.bs 0).2, (0, 0), false)] from hx)
      exact ⟨by show (1 : Int) ≤ 7; omega, by show (7 : Int) ≤ 64; omega⟩, fun x hx => by
      obtain rfl := List.mem_singleton.1 (show x ∈ [(4, (g.bs 0).1, rgNew 5 6 3 4)] from hx)
      exact ⟨hrg 3 4 (by omega), by show 0 ≤ 40; omega⟩, zrow_ok⟩⟩
theorem One.fits {K : KS} {cs cc : Int} {g : NewG} (h : One K cs cc g) {ps : List (ID × Rq)} (hI : Ids ps) (hl : ps.length ≤ 12) : Fits { K with rt := ps } 20 60 :=
  ⟨h.fit.n, by omega, hI, by show K.jn.length + ps.length ≤ 60; rw [h.jn]; simp; omega, h.fit.tm, h.fit.ep, h.fit.nt, h.fit.rp, fun x hx => by
    have := h.fit.rg x hx
    exact ⟨this.1, by have := this.2; rw [h.rt] at this; simp at this; show _ + ps.length ≤ 60; omega⟩, h.fit.mem⟩
theorem ofQ_nil (g : Int) : ofQ [] g = [] := List.length_eq_zero_iff.1 (Nat.le_zero.1 (ofQ_len [] g))
end Go.Pse
namespace Go.Pse
open Go.RowKit Go.Proofs
theorem coNtWaits {E : World} {l m : List As} {p : Nat} {s : KS} (hp : Pick (coA p s) l m) {u : Int} {b : Nat} {w0 : Int} {xs : List ID} (hl : look s.nt u = some (b, w0, xs)) (hb : xs.length ≤ 100000) :
  Con Tryz.prog 301 #[.pointer (some ⟨b, 0, none⟩)] E l (fun x : Value => x) (fun x => row 39 2 x (xs.map encI) :: coA p s :: m) := fun w H => by
 refine (?_ : Jk E l 0 [] fun _ w => Calls Tryz.prog 301 #[.pointer (some ⟨b, 0, none⟩)] w fun e w' => ∃ x, e = .returned ((fun x : Value => x) x) ∧ Sep E w' ((fun x : Value => row 39 2 x (xs.map encI) :: coA p s :: m) x)) w _ H fr0
 obtain ⟨j, hj⟩ := look_ix hl
 have hjl := (List.getElem?_eq_some_iff.1 hj).1
 refine J_pick hp <| J_coO fun bn be br bg bt bs bp bl bk _ => J_keyd (ps := ptrs s.nt) HS fun hK => ?_
 refine J_pick (A := each ntF s.nt) PC ?_
 refine J_eachOut hj ?_
 skip
 refine J_asTo (B := ntA b 0 w0 xs) (by rfl) <| J_con (ntWaits (w := w0) (xs := xs) PC hb) fun x => ?_
 refine J_pick (A := ntA b 0 w0 xs) PC ?_
 refine J_asTo (B := ntF (u, b, w0, xs)) (by rfl) <| J_pick (A := each ntF _) PC ?_
 refine J_pick (A := ntF (u, b, _)) PC ?_
 refine J_eachIn (u, b, w0, xs) hjl ?_
 skip
 refine J_asTo (B := each ntF s.nt) (by rw [lset_same hj]) <| J_coS (p := p) (s := s) bn be br bg bt bs bp bl bk PX trivial ?_
 exact J_end SU
def ntW (i : ID) (a : Int × List ID) : Int × List ID := (0, waitL a.1 a.2 i)
/-! ### plain: two threads that share; the first ring's requests -/
structure Duo (K : KS) (g : NewG) : Prop where
  rt : K.rt = []
  jn : K.jn = []
  tm : K.tm = []
  nt : K.nt = [(22, g.bn, 0, [])]
  ep : K.ep = [(21, g.be, [], [])]
  rp : K.rp = [(7, (g.bs 0).2, (0, 0), false), (17, (g.bs 1).2, (0, 0), false)]
  rg : K.rg = [(4, (g.bs 0).1, rgNew 5 6 3 4), (14, (g.bs 1).1, rgNew 15 16 3 4)]
  be4 : look K.be 4 = some (22, 1)
  be14 : look K.be 14 = some (22, 2)
  mem : K.mem = List.replicate 64 zrow
  fit : Fits K 20 40
theorem rgNew_ok {a : Int} (h : 1 ≤ a ∧ a ≤ 63) : RgOk (rgNew a (a + 1) 3 4) := ⟨⟨by show 1 ≤ a; omega, by show a ≤ 64; omega⟩, ⟨by show 1 ≤ a + 1; omega, by show a + 1 ≤ 64; omega⟩, ⟨by show 0 ≤ cutI 4 0 4; decide, by show cutI 4 0 4 ≤ 4; decide⟩, ⟨by show (0 : Int) ≤ 0; omega, by show (0 : Int) < _; omega⟩⟩
theorem Duo.fits {K : KS} {g : NewG} (h : Duo K g) {ps : List (ID × Rq)} (hI : Ids ps) (hl : ps.length ≤ 13) : Fits { K with rt := ps } 20 60 :=
  ⟨h.fit.n, by omega, hI, by show K.jn.length + ps.length ≤ 60; rw [h.jn]; simp; omega, h.fit.tm, h.fit.ep, h.fit.nt, h.fit.rp, fun x hx => by
    have := h.fit.rg x hx
    exact ⟨this.1, by have := this.2; rw [h.rt] at this; simp at this; show _ + ps.length ≤ 60; omega⟩, h.fit.mem⟩
end Go.Pse
namespace Go.Pse
open Go.RowKit Go.Proofs
theorem coClear {E : World} {l m : List As} {p : Nat} {s : KS} (hp : Pick (coA p s) l m) {u : Int} {b : Nat} {r : Rg} (hl : look s.rg u = some (b, r)) :
  Con Tryz.prog 303 #[.pointer (some ⟨b, 0, none⟩)] E l (fun _ : Unit => .int .i64 (r.over.length : Int)) (fun _ => coA p { s with rg := updO s.rg u (fun r => { r with over := [] }) } :: m) := fun w H => by
 refine (?_ : Jk E l 0 [] fun _ w => Calls Tryz.prog 303 #[.pointer (some ⟨b, 0, none⟩)] w fun e w' => ∃ x, e = .returned ((fun _ : Unit => .int .i64 (r.over.length : Int)) x) ∧ Sep E w' ((fun _ : Unit => coA p { s with rg := updO s.rg u (fun r => { r with over := [] }) } :: m) x)) w _ H fr0
 obtain ⟨j, hj⟩ := look_ix hl
 have hjl := (List.getElem?_eq_some_iff.1 hj).1
 refine J_pick hp <| J_coO fun bn be br bg bt bs bp bl bk _ => J_keyd (ps := ptrs s.rg) HS fun hK => ?_
 refine J_pick (A := each (rgF s.mb) s.rg) PC ?_
 refine J_eachOut hj ?_
 skip
 refine J_asTo (B := rgA b s.mb r) (by rfl) <| J_con (ringClear (r := r) PC) fun x => ?_
 refine J_pick (A := rgA b s.mb { r with over := [] }) PC ?_
 refine J_asTo (B := (rgF s.mb) (u, b, ((fun r => { r with over := [] })) (r))) (by rfl) <| J_pick (A := each (rgF s.mb) _) PC ?_
 refine J_pick (A := (rgF s.mb) (u, b, _)) PC ?_
 refine J_eachIn (u, b, ((fun r => { r with over := [] })) (r)) hjl ?_
 skip
 refine J_asTo (B := each (rgF s.mb) (updO s.rg u (fun r => { r with over := [] }))) (by rw [updO_set hK hj]) <| J_pick (A := mapV kZ evA (.map (some bg)) (ptrs s.rg)) PC ?_
 refine J_mapEq (qs := ptrs (updO s.rg u (fun r => { r with over := [] }))) ptrs_updO.symm <| J_coS (p := p) (s := { s with rg := updO s.rg u (fun r => { r with over := [] }) }) bn be br bg bt bs bp bl bk PX trivial ?_
 exact J_end SU
theorem rem_erase {α : Type} {xs : List (Int × Nat × α)} {u : Int} {i b : Nat} {a : α} (hK : Keyd (ptrs xs)) (hi : xs[i]? = some (u, b, a)) : rem xs u = xs.eraseIdx i := by
  have hK' : Keyd xs := by
    unfold Keyd at hK ⊢
    rw [show (ptrs xs).map Prod.fst = xs.map Prod.fst by unfold ptrs; rw [List.map_map]; rfl] at hK
    exact hK
  exact del_at (ps := xs) hK' hi rfl
/-! ### plain: a ring is torn down -/
def deedG (q : Rq) : Deed := (q.id, q.e.tag, q.e.op, 0, 0, true)
def kTear1 (s : KS) (q : Rq) : KS := { kForget { s with rt := del s.rt q.id } q.id with jn := s.jn ++ [deedG q] }
def kTearL (s : KS) (l : List Rq) : KS := l.foldl kTear1 s
def kCleared (s : KS) (g : Int) : KS := { s with rg := updO s.rg g (fun r => { r with over := [] }) }
def kTear (s : KS) (g : Int) : KS := if (look s.rg g).isSome then kGone (kCleared (kTearL s (ofQ s.rt g)) g) 9 g else s
theorem kTearL_snoc {s : KS} {l : List Rq} {q : Rq} : kTearL s (l ++ [q]) = kTear1 (kTearL s l) q := by unfold kTearL; rw [List.foldl_append]; rfl
theorem kTearL_rg : ∀ {l : List Rq} {s : KS}, (kTearL s l).rg = s.rg ∧ (kTearL s l).mb = s.mb ∧ (kTearL s l).ep = (kTearL s l).ep
  | [], s => ⟨rfl, rfl, rfl⟩
  | q :: l, s => by
    have h := kTearL_rg (l := l) (s := kTear1 s q)
    exact ⟨h.1, h.2.1, rfl⟩
theorem Fits.delAny {s : KS} {N M : Nat} (h : Fits s N M) (i : ID) : Fits { s with rt := del s.rt i } N M := by
  have hl := del_le (ps := s.rt) (i := i)
  exact ⟨h.n, h.mm, h.ids.del i, by have := h.jn; show s.jn.length + (del s.rt i).length ≤ M; omega, h.tm, h.ep, h.nt, h.rp, fun x hx => ⟨(h.rg x hx).1, by have := (h.rg x hx).2; show _ + (del s.rt i).length ≤ M; omega⟩, h.mem⟩
theorem cleared_look {s : KS} {g : Int} {b : Nat} {r : Rg} (h : look s.rg g = some (b, r)) : look (kCleared s g).rg g = some (b, { r with over := [] }) := by
  have e : (kCleared s g).rg = updO s.rg g (fun r => { r with over := [] }) := rfl
  rw [e, look_updO, h]; simp
theorem Fits.tear1 {s : KS} {N M : Nat} (h : Fits s N M) (hm : M + 1 ≤ 90000) (q : Rq) : Fits (kTear1 s q) N (M + 1) := by
  have h1 := h.delAny q.id
  exact (h1.forget q.id).jnl hm (deedG q)
theorem Fits.tearL {N : Nat} : ∀ {l : List Rq} {s : KS} {M : Nat}, Fits s N M → M + l.length ≤ 90000 → Fits (kTearL s l) N (M + l.length)
  | [], s, M, h, _ => h
  | q :: l, s, M, h, hm => by
    have := Fits.tearL (l := l) (h.tear1 (by simp at hm; omega) q) (by simp at hm; omega)
    rw [List.length_cons, show M + (l.length + 1) = M + 1 + l.length by omega]
    exact this
theorem coGoneRing {E : World} {l m : List As} {p : Nat} {s : KS} (hp : Pick (coA p s) l m) {u : Int} {b : Nat} {r : Rg} (hl : look s.rg u = some (b, r)) :
  Con Tryz.prog 290 #[.pointer (some ⟨p, 0, none⟩), .agg (encI (9, u)).toArray] E l (fun _ : Unit => .tuple #[]) (fun _ => coA p (kGone s 9 u) :: rgA b s.mb r :: m) := by
 refine Con.body (vs := [.pointer (some ⟨p, 0, none⟩), .agg (encI (9, u)).toArray]) (n := 74) Tryz.func290 rfl rfl [(0, .pointer (some ⟨p, 0, none⟩)), (1, .agg (encI (9, u)).toArray)] (env_ok 2 rfl) <| J_pick hp <| J_coO fun bn be br bg bt bs bp bl bk _ => ?_
 obtain ⟨j, hj⟩ := look_ix hl
 refine J_keyd (ps := ptrs s.rg) HS fun hK => ?_
 refine J_pick (A := each (rgF s.mb) s.rg) PC ?_
 refine J_eachOut hj ?_
 skip
 refine J_asTo (B := rgA b s.mb r) (by rfl) <| sr <| L_op <| x_box rfl rfl rfl fun b3 => nx <| fa rfl rfl fa418_0 <| L_val rfl (v_load rfl ty3 HS (by exact rfl)) ?_
 refine nq <| J_block <| sr <| L_pur rfl (p_eql rfl rfl) <| ag rfl rfl <| nq <| J_bool (t := 6) (c := false) rfl (rfl) <| C_false rfl ?_
 refine sr <| L_pur rfl (p_eql rfl rfl) <| ag rfl rfl <| nq <| J_bool (t := 14) (c := false) rfl (rfl) <| C_false rfl <| sr <| L_pur rfl (p_eql rfl rfl) ?_
 refine ag rfl rfl <| nq <| J_bool (t := 22) (c := false) rfl (rfl) <| C_false rfl <| sr <| L_pur rfl (p_eql rfl rfl) <| ag rfl rfl <| nq ?_
 refine J_bool (t := 30) (c := false) rfl (rfl) <| C_false rfl <| sr <| L_pur rfl (p_eql rfl rfl) <| ag rfl rfl <| nq <| J_bool (t := 38) (c := false) rfl (rfl) <| C_false rfl ?_
 refine sr <| L_pur rfl (p_eql rfl rfl) <| ag rfl rfl <| nq <| J_bool (t := 52) (c := false) rfl (rfl) <| C_false rfl <| sr <| L_pur rfl (p_eql rfl rfl) ?_
 refine ag rfl rfl <| nq <| J_bool (t := 66) (c := true) rfl (rfl) <| C_true rfl <| J_drawT 6 mixed (by kernel_rfl) <| sm rfl rfl <| sp rfl (p_nilCheck rfl) <| sp rfl (p_fieldAddr rfl fa136_12) ?_
 refine S_val rfl (v_loadL (o := 13) (i := 3) rfl ty129 HS rfl (by exact rfl)) ?_
 refine sp rfl (p_fieldAddr rfl fa418_1) <| S_val rfl (v_load rfl ty3 HS (by exact rfl)) ?_
 refine S_nil <| L_op <| x_delete (ek := kZ) (ev := evA) (a := u) rfl rfl ky3 Tryz.underlying129 PC ?_
 refine L_nil <| Q_blk_normal <| J_endnormal <| J_pick (A := each (rgF s.mb) (s.rg.eraseIdx j)) PC ?_
 refine J_asTo (B := each (rgF s.mb) (rem s.rg u)) (by rw [rem_erase hK hj]) <| J_pick (A := mapV kZ evA (.map (some bg)) _) PC ?_
 refine J_mapEq (qs := ptrs (rem s.rg u)) ptrs_rem <| J_coS (p := p) (s := { s with rg := rem s.rg u }) bn be br bg bt bs bp bl bk PX trivial ?_
 refine J_asTo (B := coA p (kGone s 9 u)) (by rfl) ?_
 exact J_return (()) Tryz.results290 .nil rfl SU
theorem coTearNo {E : World} {l m : List As} {p : Nat} {s : KS} (hp : Pick (coA p s) l m) {g : Int} (hl : look s.rg g = none) :
    Con Tryz.prog 289 #[.pointer (some ⟨p, 0, none⟩), .int .i64 g] E l (fun _ : Unit => .bool false) (fun _ => coA p s :: m) := by
  refine Con.body (vs := [.pointer (some ⟨p, 0, none⟩), .int .i64 g]) (n := 50) Tryz.func289 rfl rfl [(0, .pointer (some ⟨p, 0, none⟩)), (1, .int .i64 g)] (env_ok 2 rfl) <| J_pick hp <| sr <| ag rfl rfl <| nx <| mv rfl rfl <| mv rfl rfl <| L_op <| xc fc135 (.cons rfl (.cons rfl .nil)) rfl (coRing (s := s) (u := g) PC) fun _ => ?_
  refine J_slot (t := 10) (v := .pointer none) rfl (by rw [look_ptrs, hl]; rfl) <| ag rfl rfl <| nxx <| mv rfl rfl <| L_pur rfl (p_eqNilPtr Tryz.underlying274 rfl) <| nq <| J_bool (t := 12) (c := true) rfl (rfl) <| C_true rfl ?_
  refine sr <| ag rfl rfl <| nq <| J_ret <| Q_then_ret ?_
  exact J_return (()) Tryz.results289 (.tmp rfl .nil) rfl SU
theorem coTear {E : World} {l m : List As} {p : Nat} {s : KS} (hp : Pick (coA p s) l m) {g : Int} {b : Nat} {r : Rg} {N M : Nat} (hl : look s.rg g = some (b, r)) (hF : Fits s N M) (hm : M + s.rt.length ≤ 90000) :
  Con Tryz.prog 289 #[.pointer (some ⟨p, 0, none⟩), .int .i64 g] E l (fun _ : Unit => .bool true) (fun _ => coA p (kTear s g) :: rgA b s.mb { r with over := [] } :: m) := by
 refine Con.body (vs := [.pointer (some ⟨p, 0, none⟩), .int .i64 g]) (n := 50) Tryz.func289 rfl rfl [(0, .pointer (some ⟨p, 0, none⟩)), (1, .int .i64 g)] (env_ok 2 rfl) <| J_pick hp <| sr <| ag rfl rfl <| nx <| mv rfl rfl <| mv rfl rfl <| L_op <| xc fc135 (.cons rfl (.cons rfl .nil)) rfl (coRing (s := s) (u := g) PC) fun _ => ?_
 refine J_slot (t := 10) (v := .pointer (some ⟨b, 0, none⟩)) rfl (by rw [look_is hl]; rfl) <| ag rfl rfl <| nxx <| mv rfl rfl <| L_pur rfl (p_eqNilPtr Tryz.underlying274 rfl) <| nq <| J_bool (t := 12) (c := false) rfl (rfl) <| C_false rfl ?_
 refine J_skip <| Q_then <| J_seq <| sr <| mv rfl rfl <| L_op <| xc fc22 (.cons rfl .nil) rfl (coReqs) fun _ => mv rfl rfl ?_
 refine L_op <| xc fc26 (.cons rfl (.cons rfl .nil)) rfl (coRqOf (s := s) (g := g) PC hF.ids (by have := hF.jn; have := hF.mm; omega)) <| JR fun a16 c16 hw16 hl16 hm16 hz16 => ?_
 have hol := ofQ_len s.rt g
 obtain ⟨xs, hxs⟩ : ∃ xs, xs = ofQ s.rt g := ⟨_, rfl⟩
 refine J_pick (A := row 104 13 _ _) PC ?_
 refine J_rowTo (ys := xs.map encQ) (v' := .slice a16 (xs.map encQ).length c16) (by rw [hxs]) (by rw [hxs]) <| J_slot (t := 16) (v := .slice a16 (xs.map encQ).length c16) rfl (by rw [hxs]) ?_
 rw [← hxs] at hol hz16
 have hmcap : c16 ≤ 9223372036854775807 := hm16
 have hml : (xs.map encQ).length = xs.length := List.length_map _
 refine J_pick (A := coA p s) PC ?_
 refine J_asTo (B := coA p (kTearL s (xs.take 0))) (by rw [List.take_zero]; rfl) <| L_pur rfl (p_len rfl Tryz.underlying54) <| mv rfl rfl <| nq <| J_block <| J_loop (α := Nat) (fun k => k ≤ xs.length) (fun k => row 104 13 (.slice a16 (xs.map encQ).length c16) (xs.map encQ) :: coA p (kTearL s (xs.take k)) :: m) (fun k => [(18, .int .i64 (k : Int)), (16, .slice a16 (xs.map encQ).length c16), (17, .int .i64 ((xs.map encQ).length : Int)), (0, .pointer (some ⟨p, 0, none⟩)), (1, .int .i64 g), (5, .pointer (some ⟨b, 0, none⟩))]) (fun k => xs.length - k) 0 (by omega) SU KE ?_
 intro k hk
 refine sr <| L_pur rfl (p_lss rfl rfl) <| nq <| J_seq ?_
 refine C_dec rfl (fun h19 => ?_) (fun h19 => ?_)
 have hlt : k < xs.length := by omega
 obtain ⟨bx, ox, rfl⟩ := hz16 (by intro h; rw [h] at hml; simp at hml; omega)
 obtain ⟨c, hcc⟩ : ∃ c, xs[k]? = some c := ⟨_, List.getElem?_eq_getElem hlt⟩
 have hFk : Fits (kTearL s (xs.take k)) N (M + k) := by have := hF.tearL (l := xs.take k) (by simp; omega); rwa [List.length_take, Nat.min_eq_left (by omega)] at this
 have hFd : Fits { (kTearL s (xs.take k)) with rt := del (kTearL s (xs.take k)).rt c.id } N (M + k) := hFk.delAny c.id
 refine J_skip <| Q_then <| J_seq <| J_block <| sr <| L_pur rfl (p_indexAddr rfl rfl Tryz.underlying54 ty104 (by omega) (by omega)) ?_
 refine L_val rfl (v_loadE rfl ty104 HS (by first | (simp only [Int.toNat_natCast, List.getElem?_map, hcc]; rfl) | (simp only [Int.toNat_natCast, List.getElem?_map, hcd]; rfl) | simp | rfl)) ?_
 refine L_op <| x_alloc ty104 rfl fun b7 => L_op <| x_store rfl rfl ty104 rfl SM SM RO PT ?_
 refine J_pick (A := blk b7 _ _) PC ?_
 refine J_asTo (B := blk b7 104 (encQ c)) (by rfl) <| nq <| J_seq <| J_drawL (some 4) mixed <| ip 0 rfl rfl rfl rfl (p_move rfl) <| ip 2 rfl rfl rfl rfl (p_fieldAddr rfl fa104_0) <| iv 3 rfl rfl rfl rfl (fun _ => v_loadA rfl ty39 HS CT) ?_
 refine i1 1 rfl <| xc fc22 (.cons rfl .nil) rfl (coReqs) fun _ => i1 4 rfl <| xc fc87 (.cons rfl (.cons rfl .nil)) rfl (coRqDrop (s := (kTearL s (xs.take k))) (i := c.id) PC) fun _ => ?_
 refine i0 <| qx <| mv rfl rfl <| fa rfl rfl fa104_0 <| L_val rfl (v_loadA rfl ty39 HS CT) ?_
 refine L_op <| xc fc88 (.cons rfl (.cons rfl .nil)) rfl (coForget (s := { (kTearL s (xs.take k)) with rt := del (kTearL s (xs.take k)).rt c.id }) (i := c.id) PC hFd) fun _ => ?_
 refine nq <| J_drawL (some 11) mixed <| ip 0 rfl rfl rfl rfl (p_move rfl) <| ip 2 rfl rfl rfl rfl (p_fieldAddr rfl fa104_0) <| iv 3 rfl rfl rfl rfl (fun _ => v_loadA rfl ty39 HS CT) ?_
 refine ip 4 rfl rfl rfl rfl (p_fieldAddr rfl fa104_1) <| ip 5 rfl rfl rfl rfl (p_fieldAddr rfl fa31_2) <| iv 6 rfl rfl rfl rfl (fun _ => v_load rfl ty22 HS (by exact rfl)) ?_
 refine ip 7 rfl rfl rfl rfl (p_fieldAddr rfl fa104_1) <| ip 8 rfl rfl rfl rfl (p_fieldAddr rfl fa31_0) <| iv 9 rfl rfl rfl rfl (fun _ => v_load rfl ty3 HS (by exact rfl)) ?_
 refine ip 10 rfl rfl rfl rfl (bld41 (.cons rfl (.cons rfl (.cons rfl (.cons rfl .nil)))) (by repeat constructor)) <| J_slot (t := 41) (v := .agg (encD (deedG c)).toArray) rfl rfl <| i1 1 rfl <| xc fc17 (.cons rfl .nil) rfl (coJournal) fun _ => i1 11 rfl <| xc fc134 (.cons rfl (.cons rfl .nil)) rfl (coJAdd (s := kForget { (kTearL s (xs.take k)) with rt := del (kTearL s (xs.take k)).rt c.id } c.id) (d := deedG c) PC (by have := hFk.jn; have := hFk.mm; show (kTearL s (xs.take k)).jn.length ≤ 200000; omega)) fun _ => ?_
 refine J_pick (A := coA p _) PC ?_
 refine J_asTo (B := coA p (kTearL s (xs.take (k + 1)))) (by rw [List.take_add_one, hcc, Option.toList_some, kTearL_snoc]; rfl) <| i0 <| Q_blk_normal <| qr <| L_pur rfl (p_add64 rfl rfl (by omega)) <| mv rfl rfl <| nq ?_
 exact J_again (k + 1) (by omega) (by omega) SU KE
 have hkx : k = xs.length := by omega
 subst hkx
 rw [List.take_length]
 have hl2 : look (kTearL s xs).rg g = some (b, r) := by rw [kTearL_rg.1]; exact hl
 refine J_exit <| Q_then_exit <| Q_then_exit <| Q_blk_this <| qx <| mv rfl rfl <| L_op <| xc fc303 (.cons rfl .nil) rfl (coClear (s := kTearL s xs) (u := g) (r := r) PC hl2) fun _ => ?_
 refine J_pick (A := coA p _) PC ?_
 refine J_asTo (B := coA p (kCleared (kTearL s xs) g)) (by rfl) <| nx <| mv rfl rfl <| mv rfl rfl <| L_pur rfl (bld418 (.cons rfl (.cons rfl .nil)) (by repeat constructor)) <| J_slot (t := 48) (v := .agg (encI (9, g)).toArray) rfl rfl <| L_op <| xc fc290 (.cons rfl (.cons rfl .nil)) rfl (coGoneRing (s := kCleared (kTearL s xs) g) (u := g) (b := b) (r := { r with over := [] }) PC (cleared_look hl2)) fun _ => ?_
 refine nx <| ag rfl rfl <| nq <| J_ret <| J_pick (A := coA p _) PC ?_
 refine J_asTo (B := coA p (kTear s g)) (by unfold kTear; rw [hl, ← hxs]; rfl) <| J_pick (A := rgA b _ _) PC ?_
 refine J_asTo (B := rgA b s.mb { r with over := [] }) (by rw [show (kCleared (kTearL s xs) g).mb = s.mb from kTearL_rg.2.1]) ?_
 exact J_return (()) Tryz.results289 (.tmp rfl .nil) rfl SU
end Go.Pse
namespace Go.Pse
open Go.RowKit Go.Proofs
theorem coRpCaller {E : World} {l m : List As} {p : Nat} {s : KS} (hp : Pick (coA p s) l m) {u : Int} {b : Nat} {c : ID × Bool} (hl : look s.rp u = some (b, c)) :
  Con Tryz.prog 244 #[.pointer (some ⟨b, 0, none⟩)] E l (fun _ : Unit => .tuple #[.agg (encI c.1).toArray, .bool c.2]) (fun _ => coA p s :: m) := fun w H => by
 refine (?_ : Jk E l 0 [] fun _ w => Calls Tryz.prog 244 #[.pointer (some ⟨b, 0, none⟩)] w fun e w' => ∃ x, e = .returned ((fun _ : Unit => .tuple #[.agg (encI c.1).toArray, .bool c.2]) x) ∧ Sep E w' ((fun _ : Unit => coA p s :: m) x)) w _ H fr0
 obtain ⟨j, hj⟩ := look_ix hl
 have hjl := (List.getElem?_eq_some_iff.1 hj).1
 refine J_pick hp <| J_coO fun bn be br bg bt bs bp bl bk _ => J_keyd (ps := ptrs s.rp) HS fun hK => ?_
 refine J_pick (A := each rpF s.rp) PC ?_
 refine J_eachOut hj ?_
 skip
 refine J_asTo (B := rpA b c) (by rfl) <| J_con (rpCaller (c := c) PC) fun x => ?_
 refine J_pick (A := rpA b c) PC ?_
 refine J_asTo (B := rpF (u, b, c)) (by rfl) <| J_pick (A := each rpF _) PC ?_
 refine J_pick (A := rpF (u, b, _)) PC ?_
 refine J_eachIn (u, b, c) hjl ?_
 skip
 refine J_asTo (B := each rpF s.rp) (by rw [lset_same hj]) <| J_coS (p := p) (s := s) bn be br bg bt bs bp bl bk PX trivial ?_
 exact J_end SU
theorem coEpSenders {E : World} {l m : List As} {p : Nat} {s : KS} (hp : Pick (coA p s) l m) {u : Int} {b : Nat} {out : List Msg} {inn : List Rcv} (hl : look s.ep u = some (b, out, inn)) (hbo : out.length ≤ 100000) (hbi : inn.length ≤ 100000) :
  Con Tryz.prog 300 #[.pointer (some ⟨b, 0, none⟩)] E l (fun x : Value => x) (fun x => row 340 5 x (out.map encM) :: coA p s :: m) := fun w H => by
 refine (?_ : Jk E l 0 [] fun _ w => Calls Tryz.prog 300 #[.pointer (some ⟨b, 0, none⟩)] w fun e w' => ∃ x, e = .returned ((fun x : Value => x) x) ∧ Sep E w' ((fun x : Value => row 340 5 x (out.map encM) :: coA p s :: m) x)) w _ H fr0
 obtain ⟨j, hj⟩ := look_ix hl
 have hjl := (List.getElem?_eq_some_iff.1 hj).1
 refine J_pick hp <| J_coO fun bn be br bg bt bs bp bl bk _ => J_keyd (ps := ptrs s.ep) HS fun hK => ?_
 refine J_pick (A := each epF s.ep) PC ?_
 refine J_eachOut hj ?_
 skip
 refine J_asTo (B := epA b out inn) (by rfl) <| J_con (epSenders (out := out) (inn := inn) PC hbo hbi) fun x => ?_
 refine J_pick (A := epA b out inn) PC ?_
 refine J_asTo (B := epF (u, b, out, inn)) (by rfl) <| J_pick (A := each epF _) PC ?_
 refine J_pick (A := epF (u, b, _)) PC ?_
 refine J_eachIn (u, b, out, inn) hjl ?_
 skip
 refine J_asTo (B := each epF s.ep) (by rw [lset_same hj]) <| J_coS (p := p) (s := s) bn be br bg bt bs bp bl bk PX trivial ?_
 exact J_end SU
theorem coEpReceivers {E : World} {l m : List As} {p : Nat} {s : KS} (hp : Pick (coA p s) l m) {u : Int} {b : Nat} {out : List Msg} {inn : List Rcv} (hl : look s.ep u = some (b, out, inn)) (hbo : out.length ≤ 100000) (hbi : inn.length ≤ 100000) :
  Con Tryz.prog 28 #[.pointer (some ⟨b, 0, none⟩)] E l (fun x : Value => x) (fun x => row 176 3 x (inn.map encR) :: coA p s :: m) := fun w H => by
 refine (?_ : Jk E l 0 [] fun _ w => Calls Tryz.prog 28 #[.pointer (some ⟨b, 0, none⟩)] w fun e w' => ∃ x, e = .returned ((fun x : Value => x) x) ∧ Sep E w' ((fun x : Value => row 176 3 x (inn.map encR) :: coA p s :: m) x)) w _ H fr0
 obtain ⟨j, hj⟩ := look_ix hl
 have hjl := (List.getElem?_eq_some_iff.1 hj).1
 refine J_pick hp <| J_coO fun bn be br bg bt bs bp bl bk _ => J_keyd (ps := ptrs s.ep) HS fun hK => ?_
 refine J_pick (A := each epF s.ep) PC ?_
 refine J_eachOut hj ?_
 skip
 refine J_asTo (B := epA b out inn) (by rfl) <| J_con (epReceivers (out := out) (inn := inn) PC hbo hbi) fun x => ?_
 refine J_pick (A := epA b out inn) PC ?_
 refine J_asTo (B := epF (u, b, out, inn)) (by rfl) <| J_pick (A := each epF _) PC ?_
 refine J_pick (A := epF (u, b, _)) PC ?_
 refine J_eachIn (u, b, out, inn) hjl ?_
 skip
 refine J_asTo (B := each epF s.ep) (by rw [lset_same hj]) <| J_coS (p := p) (s := s) bn be br bg bt bs bp bl bk PX trivial ?_
 exact J_end SU
theorem coWaitsEp {E : World} {l m : List As} {p : Nat} {s : KS} (hp : Pick (coA p s) l m) {u : Int} {b : Nat} {out : List Msg} {inn : List Rcv} (hl : look s.ep u = some (b, out, inn)) (hbo : out.length ≤ 100000) (hbi : inn.length ≤ 100000) :
  Con Tryz.prog 286 #[.pointer (some ⟨p, 0, none⟩), .agg (encI (4, u)).toArray] E l (fun v : Value => v) (fun v => row 39 2 v ((out.map Prod.fst ++ inn.map Prod.fst).map encI) :: coA p s :: m) := by
 refine Con.body (vs := [.pointer (some ⟨p, 0, none⟩), .agg (encI (4, u)).toArray]) (n := 80) Tryz.func286 rfl rfl [(0, .pointer (some ⟨p, 0, none⟩)), (1, .agg (encI (4, u)).toArray)] (env_ok 2 rfl) <| J_pick hp <| sr <| L_op <| x_box rfl rfl rfl fun b3 => ag rfl rfl <| nx <| ag rfl rfl ?_
 refine J_nil (el := 39) (sz := 2) <| nxx <| fa rfl rfl fa418_0 <| L_val rfl (v_load rfl ty3 HS (by exact rfl)) ?_
 refine nq <| J_block <| sr <| L_pur rfl (p_eql rfl rfl) <| ag rfl rfl <| nq <| J_bool (t := 17) (c := true) rfl (rfl) <| C_true rfl ?_
 refine sr <| mv rfl rfl <| fa rfl rfl fa418_1 <| L_val rfl (v_load rfl ty3 HS (by exact rfl)) ?_
 refine L_op <| xc fc27 (.cons rfl (.cons rfl .nil)) rfl (coEp (s := s) (u := u) PC) fun _ => ?_
 refine J_slot (t := 22) (v := .pointer (some ⟨b, 0, none⟩)) rfl (by rw [look_is hl]; rfl) <| ag rfl rfl <| nx <| mv rfl rfl <| L_pur rfl (p_neNilPtr Tryz.underlying57 rfl) <| nq <| J_bool (t := 24) (c := true) rfl (rfl) <| C_true rfl ?_
 refine J_seq <| sr <| mv rfl rfl <| L_op <| xc fc300 (.cons rfl .nil) rfl (coEpSenders (s := s) (u := u) PC hl hbo hbi) <| JR fun a26 c26 hw26 hl26 hm26 hz26 => ?_
 have hmo : (out.map encM).length = out.length := List.length_map _
 refine L_pur rfl (p_len rfl Tryz.underlying177) <| mv rfl rfl <| nq <| J_block <| J_loop2 (fun k v5 => k ≤ out.length) (fun k v5 => row 39 2 v5 (((out.take k).map Prod.fst).map encI) :: row 340 5 (.slice a26 (out.map encM).length c26) (out.map encM) :: blk b3 418 [.int .i64 4, .int .i64 u] :: coA p s :: m) (fun k v5 => [(28, .int .i64 (k : Int)), (5, v5), (26, .slice a26 (out.map encM).length c26), (27, .int .i64 ((out.map encM).length : Int)), (6, .pointer (some ⟨b, 0, none⟩)), (3, .pointer (some ⟨b3, 0, none⟩)), (0, .pointer (some ⟨p, 0, none⟩))]) (fun k v5 => out.length - k) 0 _ (by omega) SU KE ?_
 intro k v5 hk
 refine sr <| L_pur rfl (p_lss rfl rfl) <| nq <| J_seq ?_
 refine C_dec rfl (fun h29 => ?_) (fun h29 => ?_)
 have hlt : k < out.length := by omega
 obtain ⟨bx, ox, rfl⟩ := hz26 (by intro h; rw [h] at hmo; simp at hmo; omega)
 obtain ⟨c, hcc⟩ : ∃ c, out[k]? = some c := ⟨_, List.getElem?_eq_getElem hlt⟩
 refine J_skip <| Q_then <| J_seq <| J_block <| sr <| L_pur rfl (p_indexAddr rfl rfl Tryz.underlying177 ty340 (by omega) (by omega)) ?_
 refine L_val rfl (v_loadE rfl ty340 HS (by first | (simp only [Int.toNat_natCast, List.getElem?_map, hcc]; rfl) | (simp only [Int.toNat_natCast, List.getElem?_map, hcd]; rfl) | simp | rfl)) ?_
 refine L_op <| x_alloc ty340 rfl fun b8 => L_op <| x_store rfl rfl ty340 rfl SM SM RO PT ?_
 refine ny <| mv rfl rfl <| fa rfl rfl fa340_0 <| L_val rfl (v_loadA rfl ty39 HS CT) ?_
 refine L_op <| x_lit (vals := [_]) Tryz.underlying208 ty39 rfl (.cons rfl .nil) (.agg .nil) (Wf.cons rfl rfl Wf.nil) rfl (by decide) rfl rfl <| JR fun a35 c35 hw35 hl35 hm35 hz35 => L_op <| x_app rfl rfl Tryz.underlying208 ty39 rfl rfl PC (fun w H => sep_reads HS H) (by simp; omega) (by simp; omega) rfl <| JE (((out.take (k + 1)).map Prod.fst).map encI) (by rw [List.take_add_one, hcc]; simp [encI]) fun a36 c36 hw36 hl36 hm36 hz36 => ag rfl rfl <| L_nil ?_
 refine Q_blk_normal <| qr <| L_pur rfl (p_add64 rfl rfl (by omega)) <| mv rfl rfl <| nq ?_
 exact J_again2 (k + 1) _ (by omega) (by omega) SU KE
 have hko : k = out.length := by omega
 subst hko
 refine J_pick (A := row 39 2 v5 _) PC ?_
 refine J_rowEq (ys := (out.map Prod.fst ++ (inn.take 0).map Prod.fst).map encI) (by rw [List.take_length, List.take_zero]; simp) <| J_exit <| Q_then_exit <| Q_then_exit <| Q_blk_this <| qx <| mv rfl rfl <| L_op <| xc fc28 (.cons rfl .nil) rfl (coEpReceivers (s := s) (u := u) PC hl hbo hbi) ?_
 refine JR fun a39 c39 hw39 hl39 hm39 hz39 => ?_
 have hmi : (inn.map encR).length = inn.length := List.length_map _
 refine L_pur rfl (p_len rfl Tryz.underlying59) <| mv rfl rfl <| nq <| J_block <| J_loop2 (fun k v5 => k ≤ inn.length) (fun k v5 => row 39 2 v5 ((out.map Prod.fst ++ (inn.take k).map Prod.fst).map encI) :: row 176 3 (.slice a39 (inn.map encR).length c39) (inn.map encR) :: coA p s :: m) (fun k v5 => [(41, .int .i64 (k : Int)), (5, v5), (39, .slice a39 (inn.map encR).length c39), (40, .int .i64 ((inn.map encR).length : Int)), (0, .pointer (some ⟨p, 0, none⟩))]) (fun k v5 => inn.length - k) 0 _ (by omega) SU KE ?_
 intro k v5 hk
 refine sr <| L_pur rfl (p_lss rfl rfl) <| nq <| J_seq ?_
 refine C_dec rfl (fun h42 => ?_) (fun h42 => ?_)
 have hlt : k < inn.length := by omega
 obtain ⟨bx, ox, rfl⟩ := hz39 (by intro h; rw [h] at hmi; simp at hmi; omega)
 obtain ⟨c, hcc⟩ : ∃ c, inn[k]? = some c := ⟨_, List.getElem?_eq_getElem hlt⟩
 refine J_skip <| Q_then <| J_seq <| J_block <| sr <| L_pur rfl (p_indexAddr rfl rfl Tryz.underlying59 ty176 (by omega) (by omega)) ?_
 refine L_val rfl (v_loadE rfl ty176 HS (by first | (simp only [Int.toNat_natCast, List.getElem?_map, hcc]; rfl) | (simp only [Int.toNat_natCast, List.getElem?_map, hcd]; rfl) | simp | rfl)) ?_
 refine L_op <| x_alloc ty176 rfl fun b10 => L_op <| x_store rfl rfl ty176 rfl SM SM RO PT ?_
 refine ny <| mv rfl rfl <| fa rfl rfl fa176_0 <| L_val rfl (v_loadA rfl ty39 HS CT) ?_
 refine L_op <| x_lit (vals := [_]) Tryz.underlying208 ty39 rfl (.cons rfl .nil) (.agg .nil) (Wf.cons rfl rfl Wf.nil) rfl (by decide) rfl rfl <| JR fun a48 c48 hw48 hl48 hm48 hz48 => L_op <| x_app rfl rfl Tryz.underlying208 ty39 rfl rfl PC (fun w H => sep_reads HS H) (by simp; omega) (by simp; omega) rfl <| JE ((out.map Prod.fst ++ (inn.take (k + 1)).map Prod.fst).map encI) (by rw [List.take_add_one, hcc]; simp [encI]) fun a49 c49 hw49 hl49 hm49 hz49 => ag rfl rfl <| L_nil ?_
 refine Q_blk_normal <| qr <| L_pur rfl (p_add64 rfl rfl (by omega)) <| mv rfl rfl <| nq ?_
 exact J_again2 (k + 1) _ (by omega) (by omega) SU KE
 have hko : k = inn.length := by omega
 subst hko
 refine J_pick (A := row 39 2 v5 _) PC ?_
 refine J_rowEq (ys := (out.map Prod.fst ++ inn.map Prod.fst).map encI) (by rw [List.take_length]) <| J_exit <| Q_then_exit <| Q_then_exit <| Q_blk_this <| Q_blk_normal <| qx <| mv rfl rfl ?_
 refine ag rfl rfl <| nq <| J_ret ?_
 exact J_return (_) Tryz.results286 (.tmp rfl .nil) rfl SU
theorem coWaitsNt {E : World} {l m : List As} {p : Nat} {s : KS} (hp : Pick (coA p s) l m) {u : Int} {b : Nat} {w0 : Int} {xs : List ID} (hl : look s.nt u = some (b, w0, xs)) (hb : xs.length ≤ 100000) :
    Con Tryz.prog 286 #[.pointer (some ⟨p, 0, none⟩), .agg (encI (5, u)).toArray] E l (fun v : Value => v) (fun v => row 39 2 v (xs.map encI) :: coA p s :: m) := by
  refine Con.body (vs := [.pointer (some ⟨p, 0, none⟩), .agg (encI (5, u)).toArray]) (n := 80) Tryz.func286 rfl rfl [(0, .pointer (some ⟨p, 0, none⟩)), (1, .agg (encI (5, u)).toArray)] (env_ok 2 rfl) <| J_pick hp <| sr <| L_op <| x_box rfl rfl rfl fun b3 => ag rfl rfl <| nx <| ag rfl rfl ?_
  refine nxx <| fa rfl rfl fa418_0 <| L_val rfl (v_load rfl ty3 HS (by exact rfl)) ?_
  refine nq <| J_block <| sr <| L_pur rfl (p_eql rfl rfl) <| ag rfl rfl <| nq <| J_bool (t := 17) (c := false) rfl (rfl) <| C_false rfl ?_
  refine sr <| L_pur rfl (p_eql rfl rfl) <| ag rfl rfl <| nq <| J_bool (t := 51) (c := true) rfl (rfl) <| C_true rfl <| sr <| mv rfl rfl ?_
  refine fa rfl rfl fa418_1 <| L_val rfl (v_load rfl ty3 HS (by exact rfl)) ?_
  refine L_op <| xc fc36 (.cons rfl (.cons rfl .nil)) rfl (coNotif (s := s) (u := u) PC) fun _ => ?_
  refine J_slot (t := 56) (v := .pointer (some ⟨b, 0, none⟩)) rfl (by rw [look_is hl]; rfl) <| ag rfl rfl <| nx <| mv rfl rfl <| L_pur rfl (p_neNilPtr Tryz.underlying79 rfl) <| nq <| J_bool (t := 58) (c := true) rfl (rfl) <| C_true rfl ?_
  refine J_region <| mv rfl rfl <| L_op <| xc fc301 (.cons rfl .nil) rfl (coNtWaits (s := s) (u := u) PC hl hb) <| JR fun a60 c60 hw60 hl60 hm60 hz60 => ag rfl rfl <| L_nil <| Q_blk_normal ?_
  refine qx <| mv rfl rfl <| ag rfl rfl <| nq <| J_ret ?_
  exact J_return (_) Tryz.results286 (.tmp rfl .nil) rfl SU
theorem coWaitsRp {E : World} {l m : List As} {p : Nat} {s : KS} (hp : Pick (coA p s) l m) {u : Int} {b : Nat} {c : ID × Bool} (hl : look s.rp u = some (b, c)) :
  Con Tryz.prog 286 #[.pointer (some ⟨p, 0, none⟩), .agg (encI (7, u)).toArray] E l (fun v : Value => v) (fun v => row 39 2 v ((if c.2 = true then [c.1] else []).map encI) :: coA p s :: m) := by
 refine Con.body (vs := [.pointer (some ⟨p, 0, none⟩), .agg (encI (7, u)).toArray]) (n := 80) Tryz.func286 rfl rfl [(0, .pointer (some ⟨p, 0, none⟩)), (1, .agg (encI (7, u)).toArray)] (env_ok 2 rfl) <| J_pick hp <| sr <| L_op <| x_box rfl rfl rfl fun b3 => ag rfl rfl <| nx <| ag rfl rfl ?_
 refine J_nil (el := 39) (sz := 2) <| nxx <| fa rfl rfl fa418_0 <| L_val rfl (v_load rfl ty3 HS (by exact rfl)) ?_
 refine nq <| J_block <| sr <| L_pur rfl (p_eql rfl rfl) <| ag rfl rfl <| nq <| J_bool (t := 17) (c := false) rfl (rfl) <| C_false rfl ?_
 refine sr <| L_pur rfl (p_eql rfl rfl) <| ag rfl rfl <| nq <| J_bool (t := 51) (c := false) rfl (rfl) <| C_false rfl <| sr <| L_pur rfl (p_eql rfl rfl) ?_
 refine ag rfl rfl <| nq <| J_bool (t := 61) (c := true) rfl (rfl) <| C_true rfl <| sr <| mv rfl rfl <| fa rfl rfl fa418_1 <| L_val rfl (v_load rfl ty3 HS (by exact rfl)) ?_
 refine L_op <| xc fc20 (.cons rfl (.cons rfl .nil)) rfl (coReply (s := s) (u := u) PC) fun _ => ?_
 refine J_slot (t := 66) (v := .pointer (some ⟨b, 0, none⟩)) rfl (by rw [look_is hl]; rfl) <| ag rfl rfl <| nx <| mv rfl rfl <| L_pur rfl (p_neNilPtr Tryz.underlying42 rfl) <| nq <| J_bool (t := 68) (c := true) rfl (rfl) <| C_true rfl ?_
 refine sr <| mv rfl rfl <| L_op <| xc fc244 (.cons rfl .nil) rfl (coRpCaller (s := s) (u := u) (c := c) PC hl) fun _ => ?_
 refine mv rfl rfl <| L_pur rfl (p_extract rfl rfl) <| L_pur rfl (p_extract rfl rfl) <| L_op <| x_alloc ty39 rfl fun b13 => L_op <| x_store rfl rfl ty39 rfl SM SM RO PT ?_
 refine J_pick (A := blk b13 _ _) PC ?_
 refine J_asTo (B := blk b13 39 (encI c.1)) (by rfl) <| ag rfl rfl <| nx <| mv rfl rfl <| nq ?_
 refine C_split rfl (fun h74 => ?_) (fun h74 => ?_)
 refine J_region <| mv rfl rfl <| L_val rfl (v_loadA rfl ty39 HS CT) ?_
 refine L_op <| x_lit (vals := [_]) Tryz.underlying208 ty39 rfl (.cons rfl .nil) (.agg .nil) (Wf.cons rfl rfl Wf.nil) rfl (by decide) rfl rfl <| JR fun a77 c77 hw77 hl77 hm77 hz77 => L_op <| x_app rfl rfl Tryz.underlying208 ty39 rfl rfl PC (fun w H => sep_reads HS H) (by simp) (by simp) rfl <| JE ((if c.2 = true then [c.1] else []).map encI) (by rw [if_pos h74]; rfl) fun a78 c78 hw78 hl78 hm78 hz78 => ag rfl rfl <| L_nil ?_
 refine Q_blk_normal <| qx <| mv rfl rfl <| ag rfl rfl <| nq <| J_ret ?_
 exact J_return (_) Tryz.results286 (.tmp rfl .nil) rfl SU
 refine J_pick (A := row 39 2 (.slice none 0 0) []) PC ?_
 refine J_rowEq (ys := (if c.2 = true then [c.1] else []).map encI) (by rw [h74]; rfl) <| J_skip <| Q_blk_normal <| qx <| mv rfl rfl <| ag rfl rfl <| nq <| J_ret ?_
 exact J_return (_) Tryz.results286 (.tmp rfl .nil) rfl SU
def kEnds (s : KS) (l : List ID) : KS := l.foldl (fun s i => kDec s.rt.length s i (-9) 0) s
theorem kEnds_snoc {s : KS} {l : List ID} {i : ID} : kEnds s (l ++ [i]) = kDec (kEnds s l).rt.length (kEnds s l) i (-9) 0 := by unfold kEnds; rw [List.foldl_append]; rfl
theorem Fits.ends {N M : Nat} : ∀ {l : List ID} {s : KS}, Fits s N M → Fits (kEnds s l) N M
  | [], _, h => h
  | i :: l, s, h => Fits.ends (l := l) (Fits.dec _ (i := i) (r := -9) (v := 0) h).1
end Go.Pse
namespace Go.Pse
open Go.RowKit
section
variable {P : Program} {ops : Array Oper} {Q : Exit → Act → World → Prop} {E : World} {l L : List As} {n : Nat} {F : Env}
theorem I_takeOnP {i : Nat} {o : Oper} {v : Value} {d : Nat} {g : Option Nat} {fuel : Nat} {listed : Array Bool} (ho : ops[i]? = some o) (hd : o.dst = some d) (hdn : Nat.blt d n = true) {j t : Nat} {c : Bool} {og : Oper} (hg : o.guard = some (j, c)) (hj : ops[j]? = some og) (ht : og.dst = some t) (hb : get F t = some (.bool c))
    (hok : takeOkP g ops listed i = true)
    (hQ : ∀ c a v w, Q (.panic c) (a.put (some d) v) w → Q (.panic c) a w) (hv : Pur P o F n v)
    (k : Jk E l n ((d, v) :: F) (wpI P .any ops Q (Inv L) g fuel (listed.setIfInBounds i true))) : Jk E l n F (wpI P .any ops Q (Inv L) g (fuel + 1) listed) := fun w a H hF => by
  simp only [takeOkP, Bool.and_eq_true] at hok
  obtain ⟨⟨⟨h1, h2⟩, h3⟩, h4⟩ := hok
  have h0 : yielded ops a.tmps j = some c := by simp [yielded, hj, ht, hF.get t _ hb]
  exact wpI_firstP ho (Region.noSelect_spec h1) (by rw [hd]; exact fun c a w => hQ c a v w) (fun e => by subst e; simp at h4) fuel listed a w (Region.free_spec ho h2) (by simpa using h3) (Or.inl ⟨by simp [Region.wanted, hg, h0], fun w _ => hv a hF w⟩) (by rw [hd]; exact k w _ H (hF.put hdn))
end
end Go.Pse
namespace Go.Pse
open Go.RowKit Go.Proofs
/-! ### plain: what is decided, one thing at a time; all but rings, memory, the journal stays -/
def atJ (jn : List Deed) (i : ID) : Option Deed := jn.find? fun d => decide (d.1 = i)
theorem atJ_none {jn : List Deed} {i : ID} (h0 : ∀ e ∈ jn, e.1 ≠ i) : atJ jn i = none := List.find?_eq_none.2 fun e he => by simpa using h0 e he
def askR (jn : List Deed) (i : ID) : Int × Int × Bool := match atJ jn i with
  | none => (0, 0, false)
  | some d => (d.2.2.2.1, d.2.2.2.2.1, true)
def rqN (i : ID) (e : Sqe) : Rq := ⟨i, e, 0, false, false⟩
def rtS (ps : List (ID × Rq)) (i : ID) : List (ID × Rq) := match look ps i with
  | none => ps
  | some q => ins ps i { q with started := true }
end Go.Pse
namespace Go.Pse
open Go.RowKit Go.Proofs
/-! ### How all begins: what hangs on the number of threads, of units, on what is shared, and on nothing else -/
abbrev Core := Int × Bool × List (Place × SV) × List (Place × M1) × List (Int × Th) × List (Int × Int)
def kCore (s : KS) : Core := (s.cu, s.sh, s.sl, s.mp, s.th, s.q)
def kStep (k : Core) (b t h : Int) : Core := (k.1, k.2.1, tput b k.2.2.1 0 (tcap8 b k.1 ++ if k.2.1 then tcap2 t h else []), tmap b k.2.2.2.1 2, ins k.2.2.2.2.1 (b + 1) (thOf b), qAdd k.2.2.2.2.2 (b + 1) 4)
def cTh (k : Core) (u h : Int) : Nat → Core
  | 0 => k
  | i + 1 => kStep (cTh k u h i) (bOf u i) (i : Int) h
theorem kThread_core {s : KS} {b t h : Int} {r c : Nat} : kCore (kThread s b t h r c) = kStep (kCore s) b t h := by
  simp only [kCore, kStep, kThread, tcaps]
  congr 1
theorem kTh_core {s : KS} {h : Int} {bs : Nat → Nat × Nat} : ∀ i, kCore (kTh s h bs i) = cTh (kCore s) s.cu h i
  | 0 => rfl
  | i + 1 => by
    rw [kTh, kThread_core, kTh_core i, cTh]
def coreN (ct cu : Nat) (sh : Bool) : Core := cTh ((cu : Int), sh, [], [], [], []) (cu : Int) (hOf (ct : Int) (cu : Int)) ct
theorem cut_id {n lo hi : Int} (h : lo ≤ n ∧ n ≤ hi) : cutI n lo hi = n := by unfold cutI; split <;> split <;> omega
section
variable {ct cu : Nat} {cs cc : Int} {sh : Bool} {g : NewG} (h1 : 1 ≤ ct ∧ ct ≤ 3) (h2 : 1 ≤ cu ∧ cu ≤ 12)
include h1 h2 in
theorem kNew_is : kNew (ct : Int) (cu : Int) cs cc sh g = kTh (kBase (ct : Int) (cu : Int) (cutI cs 0 3) (cutI cc 0 4) sh g.mb g.be g.bn) (hOf (ct : Int) (cu : Int)) g.bs ct := by
  unfold kNew
  rw [cut_id (show (1 : Int) ≤ (ct : Int) ∧ (ct : Int) ≤ 3 by omega), cut_id (show (1 : Int) ≤ (cu : Int) ∧ (cu : Int) ≤ 12 by omega), Int.toNat_natCast]
include h1 h2 in
theorem kNew_core : kCore (kNew (ct : Int) (cu : Int) cs cc sh g) = coreN ct cu sh := by
  rw [kNew_is h1 h2, kTh_core]
  cases sh <;> rfl
include h1 h2 in
include h1 h2 in
end
end Go.Pse
namespace Go.Pse
open Go.RowKit Go.Proofs
/-! ### plain: one thread alone, two that share: how they begin -/
structure Al1 (K : KS) (g : NewG) : Prop where
 rt : K.rt = []
 jn : K.jn = []
 tm : K.tm = []
 nt : K.nt = []
 ep : K.ep = []
 rp : K.rp = [(7, (g.bs 0).2, (0, 0), false)]
 rg : K.rg = [(4, (g.bs 0).1, rgNew 5 6 3 4)]
 be : look K.be 4 = none
 mem : K.mem = List.replicate 64 zrow
 tk : K.tk = [(4, 0)]
 th : K.th = [(2, thOf 1)]
 q : K.q = [(2, 4)]
 pr : K.pr = []
 mr : K.mr = []
 sp : K.sp = [(3, true)]
 mp : K.mp = [((3, 0), (5, 3)), ((3, 1), (6, 3))]
 sl : K.sl = (coreN 1 6 false).2.2.1
 fit : Fits K 40 60
theorem al1_sl (g : NewG) : (kNew 1 6 3 4 false g).sl = (coreN 1 6 false).2.2.1 := by
  have hc : kCore (kNew ((1 : Nat) : Int) ((6 : Nat) : Int) 3 4 false g) = coreN 1 6 false := kNew_core (by omega) (by omega)
  rw [show ((1 : Nat) : Int) = 1 from rfl, show ((6 : Nat) : Int) = 6 from rfl] at hc
  unfold kCore at hc
  rw [← hc]
theorem al1_fit (g : NewG) : Fits (kNew 1 6 3 4 false g) 40 60 := by
  refine ⟨by omega, by omega, Ids.nil, by show 0 ≤ 60; omega, by show 0 ≤ 40; omega, fun x hx => (by cases hx), fun x hx => (by cases hx), fun x hx => ?_, fun x hx => ?_, zrow_ok⟩
  · obtain rfl := List.mem_singleton.1 (show x ∈ [(7, (g.bs 0).2, (0, 0), false)] from hx)
    exact ⟨by show (1 : Int) ≤ 7; omega, by show (7 : Int) ≤ 64; omega⟩
  · obtain rfl := List.mem_singleton.1 (show x ∈ [(4, (g.bs 0).1, rgNew 5 6 3 4)] from hx)
    exact ⟨rgNew_ok (a := 5) (by omega), by show 0 ≤ 60; omega⟩
theorem al1_is (g : NewG) : Al1 (kNew 1 6 3 4 false g) g := ⟨rfl, rfl, rfl, rfl, rfl, rfl, rfl, rfl, rfl, rfl, rfl, rfl, rfl, rfl, rfl, rfl, al1_sl g, al1_fit g⟩
section
variable {K : KS} {g : NewG} {L : List (Place × SV)} {q pr : List (Int × Int)} {c w : Int} {jn : List Deed} {RG : List (Int × Nat × Rg)} {MS : List (List Int)} {e : Sqe}
end
end Go.Pse
namespace Go.Pse
open Go.RowKit Go.Proofs
/-! ### plain: addresses of a node's slots -/
theorem addr_or : ∀ k : Nat, k < 16 → bits .or .u32 ((k : Int) * 256) 4 = (k : Int) * 256 + 4 := by decide
theorem addr_shl : ∀ k : Nat, k < 16 → IntKind.u32.wrap ((k : Int) * 2 ^ 8) = (k : Int) * 256 := by decide
abbrev atK (k : Nat) : Int := (k : Int) * 256 + 4
theorem joinC {E : World} {l : List As} {k : Nat} (hk : k < 16) :
    Con Tryz.prog 23 #[.int .i64 (k : Int), .int .i64 4] E l (fun _ : Unit => .int .u32 (atK k)) (fun _ => l) := by
  refine Con.body (vs := [.int .i64 (k : Int), .int .i64 4]) (n := 12) Tryz.func23 rfl rfl [(0, .int .i64 (k : Int)), (1, .int .i64 4)] (env_ok 2 rfl) <| sr <| ag rfl rfl <| nx <| mv rfl rfl <| L_pur rfl (p_conv rfl Tryz.underlying3 Tryz.underlying22) <| J_slot (t := 6) (v := .int .u32 (k : Int)) rfl (by rw [wrap32u_of (by omega)]) <| L_pur rfl (p_shl rfl rfl (by omega) (by have : (IntKind.u32.bits : Int) = 32 := rfl; omega)) ?_
  refine J_slot (t := 7) (v := .int .u32 ((k : Int) * 256)) rfl (by rw [← addr_shl k hk]; rfl) <| mv rfl rfl <| L_pur rfl (p_conv rfl Tryz.underlying3 Tryz.underlying22) <| J_slot (t := 9) (v := .int .u32 4) rfl rfl <| L_pur rfl (p_and rfl rfl) <| J_slot (t := 10) (v := .int .u32 4) rfl rfl <| L_pur rfl (p_or rfl rfl) <| J_slot (t := 11) (v := .int .u32 (atK k)) rfl (by rw [addr_or k hk]) ?_
  refine ag rfl rfl <| nq <| J_ret ?_
  refine J_return (()) Tryz.results23 (.tmp rfl .nil) ?_ ?_
  · rfl
  · exact SU
theorem slotC {E : World} {l : List As} {k : Nat} (hk : k < 16) :
    Con Tryz.prog 16 #[.int .i64 (k : Int)] E l (fun _ : Unit => .int .u32 (atK k)) (fun _ => l) := by
  refine Con.body (vs := [.int .i64 (k : Int)]) (n := 5) Tryz.func16 rfl rfl [(0, .int .i64 (k : Int))] (env_ok 1 rfl) <| sr <| ag rfl rfl <| nx <| mv rfl rfl <| L_op <| xc fc23 (.cons rfl (.cons rfl .nil)) rfl (joinC hk) fun _ => ag rfl rfl ?_
  refine nq <| J_ret ?_
  exact J_return (()) Tryz.results16 (.tmp rfl .nil) rfl SU
def actA (a p : Nat) (T : Th) (q : Rq) (i : ID) : As := blk a 250 [.pointer (some ⟨p, 0, none⟩), .int .i64 T.unit, .int .i64 T.space, .int .i64 T.ring, .int .i64 T.root.kind, .int .i64 T.root.obj, .int .i64 T.root.size, .int .i64 T.root.badge, .int .i64 T.root.rights, .int .i64 q.id.1, .int .i64 q.id.2, .int .i64 q.e.op, .int .i64 q.e.flags, .int .u32 q.e.tag, .int .u32 q.e.cap, .int .u32 q.e.a, .int .u32 q.e.b, .int .u32 q.e.c, .int .u32 q.e.time, .int .i64 q.prev, .bool q.soft, .bool q.started, .int .i64 i.1, .int .i64 i.2]
theorem failsC {E : World} {l : List As} {n : Int} (hn : 0 ≤ n ∧ n ≤ 100) :
    Con Tryz.prog 128 #[.int .i64 n] E l (fun _ : Unit => .agg #[.int .i64 (-n), .int .u32 0, .bool false]) (fun _ => l) := by
  refine Con.body (vs := [.int .i64 n]) (n := 6) Tryz.func128 rfl rfl [(0, .int .i64 n)] (env_ok 1 rfl) <| sr <| L_op <| x_alloc ty247 rfl fun b2 => nx <| mv rfl rfl <| L_pur rfl (p_neg64 rfl (by omega)) <| L_pur rfl (bld247 (.cons rfl .nil) (by repeat constructor)) ?_
  refine L_op <| x_store rfl rfl ty247 rfl SM SM RO PT ?_
  refine nq <| J_ret ?_
  refine J_return (()) Tryz.results128 (.cellA rfl ty247 HS CT .nil) ?_ ?_
  · rfl
  · exact SU
end Go.Pse
namespace Go.Pse
open Go.RowKit Go.Proofs
theorem rtStartC {E : World} {l m : List As}  {b o : Nat} {ps : List (ID × Rq)} (hp : Pick (rtA b o ps) l m) {i : ID} :
    Con Tryz.prog 52 #[.pointer (some ⟨b, o, none⟩), .agg (encI i).toArray] E l (fun _ : Unit => .bool (look ps i).isSome) (fun _ => rtA b o (rtS ps i) :: m) := by
  refine Con.body (vs := [.pointer (some ⟨b, o, none⟩), .agg (encI i).toArray]) (n := 25) Tryz.func52 rfl rfl [(0, .pointer (some ⟨b, o, none⟩)), (1, .agg (encI i).toArray)] (env_ok 2 rfl) <| J_pick hp <| J_rtO fun ob _ => sr <| L_op <| x_box rfl rfl rfl fun b3 => ag rfl rfl <| nq ?_
  refine J_seq <| J_drawL none mixed <| ip 0 rfl rfl rfl rfl (p_move rfl) <| ip 1 rfl rfl rfl rfl (p_nilCheck rfl) <| ip 2 rfl rfl rfl rfl (p_fieldAddr rfl fa120_0) <| iv 3 rfl rfl rfl rfl (fun _ => v_loadL rfl ty118 HS rfl (by exact rfl)) ?_
  refine iv 4 rfl rfl rfl rfl (fun _ => v_loadA rfl ty39 HS CT) ?_
  refine iv 5 rfl rfl rfl rfl (fun _ => v_lookOk (ek := kI) (ev := evQ) (a := i) rfl rfl ky39 Tryz.underlying118 zv104 HS) ?_
  refine J_slot (t := 13) (v := .tuple #[evQ ((look ps i).getD q00), .bool (look ps i).isSome]) rfl (by cases look ps i <;> rfl) <| ip 6 rfl rfl rfl rfl (p_move rfl) <| ip 7 rfl rfl rfl rfl (p_extract rfl rfl) <| ip 8 rfl rfl rfl rfl (p_extract rfl rfl) <| i1 9 rfl <| x_alloc ty104 rfl fun b5 => i1 10 rfl <| x_store rfl rfl ty104 rfl SM SM RO PT ?_
  refine ip 11 rfl rfl rfl rfl (p_assign rfl) <| i0 <| Q_then <| J_seq <| sr <| mv rfl rfl <| nq ?_
  refine C_split rfl (fun h16 => ?_) (fun h16 => ?_)
  obtain ⟨q, hq⟩ : ∃ q, look ps i = some q := by
    cases hz : look ps i with
    | none => rw [hz] at h16; simp at h16
    | some q => exact ⟨q, rfl⟩
  rcases ob with _ | bm
  · exact J_mapNone (ps := ps) HS fun hps => by rw [hps] at hq; cases hq
  refine J_pick (A := blk b5 _ _) PC ?_
  refine J_asTo (B := blk b5 104 (encQ q)) (by rw [hq]; rfl) ?_
  have hrs : rtS ps i = ins ps i { q with started := true } := by unfold rtS; rw [hq]
  refine sr <| fa rfl rfl fa104_4 <| L_op <| x_store rfl rfl ty4 rfl SM SM RO PT ?_
  refine J_pick (A := blk b5 _ _) PC ?_
  refine J_asTo (B := blk b5 104 (encQ { q with started := true })) (by rfl) <| nq <| J_drawT 6 mixed (by kernel_rfl) <| sm rfl rfl <| sp rfl (p_nilCheck rfl) <| sp rfl (p_fieldAddr rfl fa120_0) <| S_val rfl (v_loadL rfl ty118 HS rfl (by exact rfl)) ?_
  refine S_val rfl (v_loadA rfl ty39 HS CT) ?_
  refine S_val rfl (v_loadA rfl ty104 HS CT) ?_
  refine S_nil <| L_op <| x_mapUpdate (ek := kI) (ev := evQ) (a := i) (c := { q with started := true }) rfl rfl rfl ky39 Tryz.underlying118 PC ?_
  refine nx <| mv rfl rfl <| ag rfl rfl <| nq <| J_ret <| J_pick (A := mapV kI evQ _ _) PC ?_
  refine J_mapEq (qs := rtS ps i) (by rw [hrs]) <| J_rtS (b := b) (o := o) (ps := rtS ps i) _ PX trivial ?_
  exact J_return (()) Tryz.results52 (.tmp rfl .nil) rfl SU
  have hno : look ps i = none := by
    cases hz : look ps i with
    | none => rfl
    | some q => rw [hz] at h16; simp at h16
  have hrs : rtS ps i = ps := by unfold rtS; rw [hno]
  refine J_skip <| qx <| mv rfl rfl <| ag rfl rfl <| nq <| J_ret <| J_rtS (b := b) (o := o) (ps := ps) _ PX trivial ?_
  refine J_asTo (B := rtA b o (rtS ps i)) (by rw [hrs]) ?_
  exact J_return (()) Tryz.results52 (.tmp rfl .nil) rfl SU
theorem coRqStart {E : World} {l m : List As} {p : Nat} {s : KS} (hp : Pick (coA p s) l m) {i : ID} :
    Con Tryz.prog 52 #[.pointer (some ⟨p, 10, none⟩), .agg (encI i).toArray] E l (fun _ : Unit => .bool (look s.rt i).isSome) (fun _ => coA p { s with rt := rtS s.rt i } :: m) := fun w H => by
  refine (?_ : Jk E l 0 [] fun _ w => Calls Tryz.prog 52 #[.pointer (some ⟨p, 10, none⟩), .agg (encI i).toArray] w fun e w' => ∃ x, e = .returned ((fun _ : Unit => .bool (look s.rt i).isSome) x) ∧ Sep E w' ((fun _ : Unit => coA p { s with rt := rtS s.rt i } :: m) x)) w _ H fr0
  refine J_pick hp <| J_coO fun bn be br bg bt bs bp bl bk _ => J_con (rtStartC (ps := s.rt) (i := i) PC) fun x => ?_
  refine J_coS (p := p) (s := { s with rt := rtS s.rt i }) bn be br bg bt bs bp bl bk PX trivial ?_
  exact J_end SU
def idxJ (xs : List Deed) (i : ID) : Option Nat := xs.findIdx? fun d => decide (d.1 = i)
theorem idxJ_some {xs : List Deed} {i : ID} {k : Nat} {d : Deed} (h : xs[k]? = some d) (hd : d.1 = i) (h0 : ∀ e ∈ xs.take k, e.1 ≠ i) : idxJ xs i = some k ∧ atJ xs i = some d := by
  obtain ⟨hk, he⟩ := List.getElem?_eq_some_iff.1 h
  have hj : ∀ j (hj : j < k), xs[j].1 ≠ i := fun j hj => h0 _ (List.mem_iff_getElem.2 ⟨j, by simp; omega, by simp⟩)
  constructor
  · unfold idxJ
    rw [List.findIdx?_eq_some_iff_getElem]
    exact ⟨hk, by rw [he]; simpa using hd, fun j hj' => by simpa using hj j hj'⟩
  · unfold atJ
    rw [List.find?_eq_some_iff_getElem]
    exact ⟨by simpa using hd, k, hk, he, fun j hj' => by simpa using hj j hj'⟩
theorem idxJ_none {xs : List Deed} {i : ID} (h0 : ∀ e ∈ xs, e.1 ≠ i) : idxJ xs i = none ∧ atJ xs i = none := by
  constructor
  · unfold idxJ
    rw [List.findIdx?_eq_none_iff]
    intro e he
    simpa using h0 e he
  · exact atJ_none h0
theorem idxJ_at {xs : List Deed} {i : ID} {k : Nat} (h : idxJ xs i = some k) : ∃ d, xs[k]? = some d ∧ atJ xs i = some d := by
  unfold idxJ at h
  rw [List.findIdx?_eq_some_iff_getElem] at h
  obtain ⟨hk, h1, h2⟩ := h
  refine ⟨xs[k], List.getElem?_eq_getElem hk, ?_⟩
  unfold atJ
  rw [List.find?_eq_some_iff_getElem]
  exact ⟨h1, k, hk, rfl, fun j hj => by simpa using h2 j hj⟩
theorem idxJ_no {xs : List Deed} {i : ID} (h : idxJ xs i = none) : atJ xs i = none := by
  unfold idxJ at h
  rw [List.findIdx?_eq_none_iff] at h
  exact atJ_none fun e he => by simpa using h e he
theorem atC {E : World} {l : List As} {v : Value} {xs : List Deed} {i : ID} (hr : ∀ w, Sep E w l → Reads w 7 v (xs.map encD)) (hb : xs.length ≤ 200000) :
    Con Tryz.prog 19 #[v, .agg (encI i).toArray] E l (fun _ : Unit => .tuple #[.int .i64 (((idxJ xs i).getD 0 : Nat) : Int), .bool (idxJ xs i).isSome]) (fun _ => l) := by
  refine Con.body (vs := [v, .agg (encI i).toArray]) (n := 21) Tryz.func19 rfl rfl [(0, v), (1, .agg (encI i).toArray)] (env_ok 2 rfl) <| J_readsB hr fun hw a cap hv h1 h2 h3 => ?_
  subst hv
  have hm : cap ≤ 9223372036854775807 := h2
  have hml : (xs.map encD).length = xs.length := List.length_map _
  refine sr <| L_op <| x_box rfl rfl rfl fun b3 => ag rfl rfl <| ag rfl rfl <| nq <| J_seq <| J_seq ?_
  refine J_pick (A := blk b3 _ _) PC ?_
  refine J_asTo (B := blk b3 39 (encI i)) (by rfl) <| J_region <| ag rfl rfl <| nq <| J_block <| J_loop (α := Nat) (fun k => k ≤ xs.length ∧ ∀ e ∈ xs.take k, e.1 ≠ i) (fun k => blk b3 39 (encI i) :: l) (fun k => [(6, .int .i64 (k : Int)), (0, .slice a (xs.map encD).length cap), (3, .pointer (some ⟨b3, 0, none⟩))]) (fun k => xs.length - k) 0 ⟨by omega, by simp⟩ SU KE ?_
  intro k hk
  obtain ⟨hk, h0⟩ := hk
  refine J_seq <| sr <| mv rfl rfl <| mv rfl rfl <| L_pur rfl (p_len rfl Tryz.underlying32) <| L_pur rfl (p_lss rfl rfl) <| nq ?_
  refine C_dec rfl (fun h10 => ?_) (fun h10 => ?_)
  have hlt : k < xs.length := by omega
  obtain ⟨bx, ox, rfl⟩ := h3 (by intro h; rw [h] at hml; simp at hml; omega)
  obtain ⟨c, hcc⟩ : ∃ c, xs[k]? = some c := ⟨_, List.getElem?_eq_getElem hlt⟩
  refine J_skip <| Q_then <| J_seq <| J_block <| J_seq <| J_drawS mixed (by kernel_rfl) <| sm rfl rfl <| sm rfl rfl ?_
  refine sp rfl (p_indexAddr rfl rfl Tryz.underlying32 ty41 (by omega) (by omega)) <| sp rfl (p_fieldAddr rfl fa41_0) ?_
  refine S_val rfl (by first | exact v_loadFA rfl ty39 HS (by first | (simp only [Int.toNat_natCast, List.getElem?_map, hcc]; rfl) | (simp only [Int.toNat_natCast, List.getElem?_map, hcd]; rfl) | simp | rfl) CT | exact v_loadRFA rfl ty39 (fun w H => hr w (Sub.sep SU H)) (by first | (simp only [Int.toNat_natCast, List.getElem?_map, hcc]; rfl) | (simp only [Int.toNat_natCast, List.getElem?_map, hcd]; rfl) | simp | rfl) CT) ?_
  refine S_val rfl (v_loadA rfl ty39 HS CT) ?_
  refine sp rfl (p_eqv rfl rfl (fun w => eg39 _ _ _ _ _ w) (fun w => eqv39 _ _ _ _ w)) <| J_slot (t := 19) (v := .bool (decide (c.1 = i))) rfl (by congr 1; simp [Prod.ext_iff]) <| sq ?_
  refine C_dec rfl (fun h19 => ?_) (fun h19 => ?_)
  have hix := idxJ_some hcc h19 h0
  refine sr <| mv rfl rfl <| ag rfl rfl <| ag rfl rfl <| nq <| J_ret <| Q_blk_ret <| Q_then_ret ?_
  refine Q_then_ret <| Q_blk_ret <| Q_then_ret ?_
  refine J_return (()) Tryz.results19 (.tmp rfl (.tmp rfl .nil)) ?_ ?_
  · simp [one, hix.1]
  · exact SU
  refine J_skip <| Q_blk_normal <| qr <| mv rfl rfl <| L_pur rfl (p_add64 rfl rfl (by omega)) <| ag rfl rfl <| nq ?_
  exact J_again (k + 1) (by omega) (⟨by omega, fun e he => by
      rw [List.take_add_one, hcc] at he
      rcases List.mem_append.1 he with h | h
      · exact h0 e h
      · rw [List.mem_singleton.1 h]; exact h19⟩) SU KE
  have hkx : k = xs.length := by omega
  rw [hkx, List.take_length] at h0
  have hix := idxJ_none h0
  refine J_exit <| Q_then_exit <| Q_then_exit <| Q_blk_this <| qx <| ag rfl rfl <| ag rfl rfl <| nq ?_
  refine J_ret ?_
  refine J_return (()) Tryz.results19 (.tmp rfl (.tmp rfl .nil)) ?_ ?_
  · simp [one, hix.1]
  · exact SU
abbrev encE (o : Option (Int × Int)) : Value := .agg #[.int .i64 (o.getD (0, 0)).1, .int .u32 (o.getD (0, 0)).2, .bool o.isNone]
end Go.Pse
namespace Go.Pse
open Go.RowKit Go.Proofs
/-! ### plain: addresses; the way to a slot -/
theorem shl1_24 : ∀ k : Nat, k ≤ 24 → shl1 (k : Int) = 2 ^ k ∧ (2 : Int) ^ k ≤ 16777216 ∧ (1 : Int) ≤ 2 ^ k := by decide
theorem and_mask64 {n : Int} {k : Nat} (hk : k ≤ 24) (hn : 0 ≤ n ∧ n < 4294967296) : bits .and .i64 n (2 ^ k - 1) = n % 2 ^ k := by
  obtain ⟨X, rfl⟩ := Int.eq_ofNat_of_zero_le hn.1
  have h2 : 1 ≤ 2 ^ k ∧ 2 ^ k ≤ 16777216 := ⟨Nat.one_le_two_pow, by have : (2 : Nat) ^ k ≤ 2 ^ 24 := Nat.pow_le_pow_right (by omega) hk; omega⟩
  have e : ((2 : Int) ^ k - 1) = ((2 ^ k - 1 : Nat) : Int) := by rw [Int.ofNat_sub h2.1]; push_cast; rfl
  have h3 : X % 2 ^ k ≤ X := Nat.mod_le _ _
  rw [e]
  show IntKind.i64.wrap ((BitVec.ofInt 64 (X : Int) &&& BitVec.ofInt 64 ((2 ^ k - 1 : Nat) : Int)).toNat : Nat) = _
  rw [BitVec.toNat_and, BitVec.ofInt_natCast, BitVec.ofInt_natCast, BitVec.toNat_ofNat, BitVec.toNat_ofNat, Nat.mod_eq_of_lt (show X < 2 ^ 64 by omega), Nat.mod_eq_of_lt (show 2 ^ k - 1 < 2 ^ 64 by omega), Nat.and_two_pow_sub_one_eq_mod, wrap64_of (by omega)]
  push_cast; rfl
theorem and15 {n : Int} (hn : 0 ≤ n ∧ n < 4294967296) : bits .and .i64 n 15 = n % 16 := and_mask64 (k := 4) (by omega) hn
def rightB (v d : Int) : Bool := decide (0 ≤ d) && decide (d ≤ 24) && decide (0 ≤ v) && decide (v < 2 ^ d.toNat)
theorem rightB_is {v d : Int} (h : rightB v d = true) : (0 ≤ d ∧ d ≤ 24) ∧ (0 ≤ v ∧ v < 16777216) ∧ v < 2 ^ d.toNat := by
  unfold rightB at h
  simp only [Bool.and_eq_true, decide_eq_true_eq] at h
  obtain ⟨k, rfl⟩ : ∃ k : Nat, d = k := ⟨d.toNat, by omega⟩
  have := (shl1_24 k (by omega)).2
  rw [Int.toNat_natCast] at h ⊢
  omega
def splitA (a : Int) : Option (Int × Int) := if decide (a % 256 < 4) || !rightB (a / 256) (a % 256) then none else some (a / 256, a % 256)
def stepA (c : Cap) (v d : Int) : Option (Int × Int) :=
  if decide (c.kind ≠ 2) || !checkC c || !rightB v d || decide (d < c.size + 4) then none
  else if v / 2 ^ (d - c.size).toNat ≠ c.badge then none
  else some (v / 2 ^ (d - c.size - 4).toNat % 16, d - c.size - 4)
def findA (sl : List (Place × SV)) : Nat → Cap → Int → Int → Option Place
  | 0, _, _, _ => none
  | n + 1, c, v, d => match stepA c v d with
    | none => none
    | some (k, r) => if r = 0 then some (c.obj, k) else match look sl (c.obj, k) with
      | none => none
      | some s => findA sl n s.1 (v % 2 ^ r.toNat) r
def kFind (sl : List (Place × SV)) (root : Cap) (a : Int) : Option Place := match splitA a with
  | none => none
  | some x => findA sl 6 root x.1 x.2
def kCap (sl : List (Place × SV)) (root : Cap) (a kind : Int) : Cap × Place × Int := match kFind sl root a with
  | none => (c0, (0, 0), 2)
  | some p => match look sl p with
    | none => (c0, (0, 0), 4)
    | some v => if kind ≠ 0 ∧ v.1.kind ≠ kind then (c0, (0, 0), 5) else (v.1, p, 0)
theorem splitA_is {a v d : Int} (h : splitA a = some (v, d)) : (0 ≤ d ∧ d ≤ 24) ∧ (0 ≤ v ∧ v < 16777216) := by
  unfold splitA at h
  split at h
  · cases h
  · rename_i h1
    simp at h1 h
    obtain ⟨rfl, rfl⟩ := h
    have := rightB_is h1.2
    exact ⟨this.1, this.2.1⟩
theorem checkC_node {c : Cap} (h : checkC c = true) (hk : c.kind = 2) : (0 ≤ c.size ∧ c.size ≤ 8) ∧ (1 ≤ c.obj ∧ c.obj ≤ 64) := by
  unfold checkC inB at h
  simp [hk] at h
  omega
theorem stepA_is {c : Cap} {v d k r : Int} (h : stepA c v d = some (k, r)) : (0 ≤ r ∧ r ≤ 24) ∧ (0 ≤ k ∧ k < 16) := by
  unfold stepA at h
  split at h
  · cases h
  · rename_i h1
    split at h
    · cases h
    · simp at h1 h
      obtain ⟨⟨⟨h3, h4⟩, h5⟩, h6⟩ := h1
      have := checkC_node h4 h3
      have := rightB_is h5
      omega
theorem div_small {v : Int} {k : Nat} (h : 0 ≤ v ∧ v < 16777216) : 0 ≤ v / 2 ^ k ∧ v / 2 ^ k < 4294967296 := by
  have h1 : (0 : Int) < 2 ^ k := Int.pow_pos (by omega)
  exact ⟨Int.ediv_nonneg h.1 (by omega), by have := Int.ediv_le_self (2 ^ k) h.1; omega⟩
theorem rightG {E : World} {l : List As} {v d : Int} :
    Con Tryz.prog 299 #[.int .i64 v, .int .i64 d] E l (fun _ : Unit => .bool (rightB v d)) (fun _ => l) := by
  refine Con.body (vs := [.int .i64 v, .int .i64 d]) (n := 21) Tryz.func299 rfl rfl [(0, .int .i64 v), (1, .int .i64 d)] (env_ok 2 rfl) <| sr <| ag rfl rfl <| nx <| mv rfl rfl <| L_pur rfl (p_geq rfl rfl) <| mv rfl rfl ?_
  refine J_gsplit (t := 7) rfl (fun h7 => ?_) (fun h7 => ?_)
  refine L_op <| G_on rfl rfl rfl <| J_pur (p_move rfl) rfl rfl rfl <| L_op <| G_on rfl rfl rfl <| J_pur (p_leq rfl rfl) rfl rfl rfl <| L_pur rfl (p_pick_t rfl rfl) <| mv rfl rfl ?_
  refine J_gsplit (t := 11) rfl (fun h11 => ?_) (fun h11 => ?_)
  refine L_op <| G_on rfl rfl rfl <| J_pur (p_move rfl) rfl rfl rfl <| L_op <| G_on rfl rfl rfl <| J_pur (p_geq rfl rfl) rfl rfl rfl <| L_pur rfl (p_pick_t rfl rfl) <| mv rfl rfl ?_
  refine J_gsplit (t := 15) rfl (fun h15 => ?_) (fun h15 => ?_)
  have hd : 0 ≤ d ∧ d ≤ 24 := ⟨by simpa using h7, by simpa using h11⟩
  obtain ⟨k, hk⟩ : ∃ k : Nat, d = k := ⟨d.toNat, by omega⟩
  obtain ⟨g1, g2, g3⟩ := shl1_24 k (by omega)
  have hdk : d.toNat = k := by omega
  refine L_op <| G_on rfl rfl rfl <| J_pur (p_move rfl) rfl rfl rfl <| L_op <| G_on rfl rfl rfl <| J_pur (p_move rfl) rfl rfl rfl <| L_op <| G_on rfl rfl rfl ?_
  refine J_pur (p_shl rfl rfl (by omega) (by have : (IntKind.i64.bits : Int) = 64 := rfl; omega)) rfl rfl rfl <| J_slot (t := 18) (v := .int .i64 (2 ^ d.toNat)) rfl (by congr 1; rw [hk]; exact g1) <| L_op <| G_on rfl rfl rfl <| J_pur (p_lss rfl rfl) rfl rfl rfl <| L_pur rfl (p_pick_t rfl rfl) <| ag rfl rfl <| nq ?_
  refine J_ret ?_
  refine J_return (()) Tryz.results299 (.tmp rfl .nil) ?_ ?_
  · first | rfl | (simp_all [one, rightB]; done) | (simp_all [one, rightB] <;> omega) | (simp_all [one, rightB] <;> grind)
  · exact SU
  refine L_op <| G_off rfl rfl rfl rfl rfl rfl <| L_op <| G_off rfl rfl rfl rfl rfl rfl <| L_op <| G_off rfl rfl rfl rfl rfl rfl <| L_op <| G_off rfl rfl rfl rfl rfl rfl ?_
  refine L_pur rfl (p_pick_f rfl rfl) <| ag rfl rfl <| nq <| J_ret ?_
  refine J_return (()) Tryz.results299 (.tmp rfl .nil) ?_ ?_
  · first | rfl | (simp_all [one, rightB]; done) | (simp_all [one, rightB] <;> omega) | (simp_all [one, rightB] <;> grind)
  · exact SU
  refine L_op <| G_off rfl rfl rfl rfl rfl rfl <| L_op <| G_off rfl rfl rfl rfl rfl rfl <| L_pur rfl (p_pick_f rfl rfl) <| mv rfl rfl <| L_op <| G_off rfl rfl rfl rfl rfl rfl ?_
  refine L_op <| G_off rfl rfl rfl rfl rfl rfl <| L_op <| G_off rfl rfl rfl rfl rfl rfl <| L_op <| G_off rfl rfl rfl rfl rfl rfl <| L_pur rfl (p_pick_f rfl rfl) <| ag rfl rfl ?_
  refine nq <| J_ret ?_
  refine J_return (()) Tryz.results299 (.tmp rfl .nil) ?_ ?_
  · first | rfl | (simp_all [one, rightB]; done) | (simp_all [one, rightB] <;> omega) | (simp_all [one, rightB] <;> grind)
  · exact SU
  refine L_op <| G_off rfl rfl rfl rfl rfl rfl <| L_op <| G_off rfl rfl rfl rfl rfl rfl <| L_pur rfl (p_pick_f rfl rfl) <| mv rfl rfl <| L_op <| G_off rfl rfl rfl rfl rfl rfl ?_
  refine L_op <| G_off rfl rfl rfl rfl rfl rfl <| L_pur rfl (p_pick_f rfl rfl) <| mv rfl rfl <| L_op <| G_off rfl rfl rfl rfl rfl rfl <| L_op <| G_off rfl rfl rfl rfl rfl rfl ?_
  refine L_op <| G_off rfl rfl rfl rfl rfl rfl <| L_op <| G_off rfl rfl rfl rfl rfl rfl <| L_pur rfl (p_pick_f rfl rfl) <| ag rfl rfl <| nq <| J_ret ?_
  refine J_return (()) Tryz.results299 (.tmp rfl .nil) ?_ ?_
  · first | rfl | (simp_all [one, rightB]; done) | (simp_all [one, rightB] <;> omega) | (simp_all [one, rightB] <;> grind)
  · exact SU
theorem splitG {E : World} {l : List As} {a : Int} (ha : 0 ≤ a ∧ a < 4294967296) :
    Con Tryz.prog 284 #[.int .u32 a] E l (fun _ : Unit => .tuple #[.int .i64 ((splitA a).getD (0, 0)).1, .int .i64 ((splitA a).getD (0, 0)).2, .bool (splitA a).isSome]) (fun _ => l) := by
  refine Con.body (vs := [.int .u32 a]) (n := 23) Tryz.func284 rfl rfl [(0, .int .u32 a)] (env_ok 1 rfl) <| sr <| ag rfl rfl <| ag rfl rfl <| ag rfl rfl <| nx <| mv rfl rfl <| L_pur rfl (p_shr rfl rfl (by omega) (by decide)) ?_
  refine J_slot (t := 8) (v := .int .u32 (a / 256)) rfl (by rfl) <| L_pur rfl (p_conv rfl Tryz.underlying22 Tryz.underlying3) <| J_slot (t := 9) (v := .int .i64 (a / 256)) rfl (by rw [wrap64_of (by omega)]) <| mv rfl rfl <| L_op <| xc fc279 (.cons rfl (.cons rfl (.cons rfl .nil))) rfl (fieldC (n := a) (k := 8) (by omega) ha) fun _ => J_slot (t := 11) (v := .int .u32 (a % 256)) rfl (by rfl) <| L_pur rfl (p_conv rfl Tryz.underlying22 Tryz.underlying3) ?_
  refine J_slot (t := 12) (v := .int .i64 (a % 256)) rfl (by rw [wrap64_of (by omega)]) <| ag rfl rfl <| ag rfl rfl <| nxx <| mv rfl rfl <| L_pur rfl (p_lss rfl rfl) <| mv rfl rfl ?_
  refine J_gsplit (t := 15) rfl (fun h15 => ?_) (fun h15 => ?_)
  have e15 : decide (a % 256 < 4) = true := h15
  refine L_op <| G_off rfl rfl rfl rfl rfl rfl <| L_op <| G_off rfl rfl rfl rfl rfl rfl <| L_op <| G_off rfl rfl rfl rfl rfl rfl <| L_op <| G_off rfl rfl rfl rfl rfl rfl ?_
  refine L_pur rfl (p_pick_t rfl rfl) <| nq <| C_true rfl <| sr <| ag rfl rfl <| ag rfl rfl <| ag rfl rfl <| nq ?_
  refine J_ret <| Q_then_ret ?_
  refine J_return (()) Tryz.results284 (.tmp rfl (.tmp rfl (.tmp rfl .nil))) ?_ ?_
  · rw [show splitA a = none by unfold splitA; rw [e15]; rfl]; rfl
  · exact SU
  have e15 : decide (a % 256 < 4) = false := h15
  refine L_op <| G_on rfl rfl rfl <| J_pur (p_move rfl) rfl rfl rfl <| L_op <| G_on rfl rfl rfl <| J_pur (p_move rfl) rfl rfl rfl <| L_op <| G_on rfl rfl rfl ?_
  refine xc fc299 (.cons rfl (.cons rfl .nil)) rfl (rightG) fun _ => L_op <| G_on rfl rfl rfl <| J_pur (p_not rfl) rfl rfl rfl <| L_pur rfl (p_pick_f rfl rfl) <| nq ?_
  refine C_split rfl (fun h20 => ?_) (fun h20 => ?_)
  have e20 : (!rightB (a / 256) (a % 256)) = true := h20
  refine sr <| ag rfl rfl <| ag rfl rfl <| ag rfl rfl <| nq <| J_ret <| Q_then_ret ?_
  refine J_return (()) Tryz.results284 (.tmp rfl (.tmp rfl (.tmp rfl .nil))) ?_ ?_
  · rw [show splitA a = none by unfold splitA; rw [e15, e20]; rfl]; rfl
  · exact SU
  have e20 : (!rightB (a / 256) (a % 256)) = false := h20
  refine J_skip <| qx <| mv rfl rfl <| mv rfl rfl <| ag rfl rfl <| ag rfl rfl <| ag rfl rfl <| nq ?_
  refine J_ret ?_
  refine J_return (()) Tryz.results284 (.tmp rfl (.tmp rfl (.tmp rfl .nil))) ?_ ?_
  · rw [show splitA a = some (a / 256, a % 256) by unfold splitA; rw [e15, e20]; rfl]; rfl
  · exact SU
theorem stepG {E : World} {l : List As} {c : Cap} {v d : Int} :
    Con Tryz.prog 285 #[.agg (encC c).toArray, .int .i64 v, .int .i64 d] E l (fun _ : Unit => .tuple #[.int .i64 ((stepA c v d).getD (0, 0)).1, .int .i64 ((stepA c v d).getD (0, 0)).2, .bool (stepA c v d).isSome]) (fun _ => l) := by
  refine Con.body (vs := [.agg (encC c).toArray, .int .i64 v, .int .i64 d]) (n := 48) Tryz.func285 rfl rfl [(0, .agg (encC c).toArray), (1, .int .i64 v), (2, .int .i64 d)] (env_ok 3 rfl) <| sr <| L_op <| x_box rfl rfl rfl fun b3 => ag rfl rfl <| ag rfl rfl <| ag rfl rfl <| nxx ?_
  refine fa rfl rfl fa69_0 <| L_val rfl (v_load rfl ty3 HS (by exact rfl)) ?_
  refine L_pur rfl (p_neq rfl rfl) <| mv rfl rfl ?_
  refine J_gsplit (t := 13) rfl (fun h13 => ?_) (fun h13 => ?_)
  refine L_op <| G_off rfl rfl rfl rfl rfl rfl <| L_op <| G_off rfl rfl rfl rfl rfl rfl <| L_op <| G_off rfl rfl rfl rfl rfl rfl <| L_pur rfl (p_pick_t rfl rfl) <| mv rfl rfl ?_
  refine L_op <| G_off rfl rfl rfl rfl rfl rfl <| L_op <| G_off rfl rfl rfl rfl rfl rfl <| L_op <| G_off rfl rfl rfl rfl rfl rfl <| L_op <| G_off rfl rfl rfl rfl rfl rfl ?_
  refine L_pur rfl (p_pick_t rfl rfl) <| mv rfl rfl <| L_op <| G_off rfl rfl rfl rfl rfl rfl <| L_op <| G_off rfl rfl rfl rfl rfl rfl <| L_op <| G_off rfl rfl rfl rfl rfl rfl ?_
  refine L_op <| G_off rfl rfl rfl rfl rfl rfl <| L_op <| G_off rfl rfl rfl rfl rfl rfl <| L_pur rfl (p_pick_t rfl rfl) <| nq <| C_true rfl <| sr ?_
  refine ag rfl rfl <| ag rfl rfl <| ag rfl rfl <| nq <| J_ret <| Q_then_ret ?_
  refine J_return (()) Tryz.results285 (.tmp rfl (.tmp rfl (.tmp rfl .nil))) ?_ ?_
  · rw [show stepA c v d = none by unfold stepA; simp_all]; rfl
  · exact SU
  refine L_op <| G_on rfl rfl rfl <| J_val (v_loadA rfl ty69 HS CT) rfl rfl rfl ?_
  refine L_op <| G_on rfl rfl rfl <| xc fc61 (.cons rfl .nil) rfl (cCheck (c := c)) fun _ => L_op <| G_on rfl rfl rfl <| J_pur (p_not rfl) rfl rfl rfl <| L_pur rfl (p_pick_f rfl rfl) <| mv rfl rfl ?_
  refine J_gsplit (t := 18) rfl (fun h18 => ?_) (fun h18 => ?_)
  refine L_op <| G_off rfl rfl rfl rfl rfl rfl <| L_op <| G_off rfl rfl rfl rfl rfl rfl <| L_op <| G_off rfl rfl rfl rfl rfl rfl <| L_op <| G_off rfl rfl rfl rfl rfl rfl ?_
  refine L_pur rfl (p_pick_t rfl rfl) <| mv rfl rfl <| L_op <| G_off rfl rfl rfl rfl rfl rfl <| L_op <| G_off rfl rfl rfl rfl rfl rfl <| L_op <| G_off rfl rfl rfl rfl rfl rfl ?_
  refine L_op <| G_off rfl rfl rfl rfl rfl rfl <| L_op <| G_off rfl rfl rfl rfl rfl rfl <| L_pur rfl (p_pick_t rfl rfl) <| nq <| C_true rfl <| sr ?_
  refine ag rfl rfl <| ag rfl rfl <| ag rfl rfl <| nq <| J_ret <| Q_then_ret ?_
  refine J_return (()) Tryz.results285 (.tmp rfl (.tmp rfl (.tmp rfl .nil))) ?_ ?_
  · rw [show stepA c v d = none by unfold stepA; simp_all]; rfl
  · exact SU
  refine L_op <| G_on rfl rfl rfl <| J_pur (p_move rfl) rfl rfl rfl <| L_op <| G_on rfl rfl rfl <| J_pur (p_move rfl) rfl rfl rfl <| L_op <| G_on rfl rfl rfl ?_
  refine xc fc299 (.cons rfl (.cons rfl .nil)) rfl (rightG) fun _ => L_op <| G_on rfl rfl rfl <| J_pur (p_not rfl) rfl rfl rfl <| L_pur rfl (p_pick_f rfl rfl) <| mv rfl rfl ?_
  refine J_gsplit (t := 24) rfl (fun h24 => ?_) (fun h24 => ?_)
  refine L_op <| G_off rfl rfl rfl rfl rfl rfl <| L_op <| G_off rfl rfl rfl rfl rfl rfl <| L_op <| G_off rfl rfl rfl rfl rfl rfl <| L_op <| G_off rfl rfl rfl rfl rfl rfl ?_
  refine L_op <| G_off rfl rfl rfl rfl rfl rfl <| L_pur rfl (p_pick_t rfl rfl) <| nq <| C_true rfl <| sr <| ag rfl rfl <| ag rfl rfl ?_
  refine ag rfl rfl <| nq <| J_ret <| Q_then_ret ?_
  refine J_return (()) Tryz.results285 (.tmp rfl (.tmp rfl (.tmp rfl .nil))) ?_ ?_
  · rw [show stepA c v d = none by unfold stepA; simp_all]; rfl
  · exact SU
  have hk2 : c.kind = 2 := by simpa using h13
  have hck : checkC c = true := by simpa using h18
  have hri : rightB v d = true := by simpa using h24
  have hcn := checkC_node hck hk2
  have hrb := rightB_is hri
  refine L_op <| G_on rfl rfl rfl <| J_pur (p_move rfl) rfl rfl rfl <| L_op <| G_on rfl rfl rfl <| J_pur (p_fieldAddr rfl fa69_2) rfl rfl rfl <| L_op <| G_on rfl rfl rfl ?_
  refine J_val (v_load rfl ty3 HS (by exact rfl)) rfl rfl rfl ?_
  refine L_op <| G_on rfl rfl rfl <| J_pur (p_add64 rfl rfl (by omega)) rfl rfl rfl <| L_op <| G_on rfl rfl rfl <| J_pur (p_lss rfl rfl) rfl rfl rfl <| L_pur rfl (p_pick_f rfl rfl) <| nq ?_
  refine C_split rfl (fun h30 => ?_) (fun h30 => ?_)
  refine sr <| ag rfl rfl <| ag rfl rfl <| ag rfl rfl <| nq <| J_ret <| Q_then_ret ?_
  refine J_return (()) Tryz.results285 (.tmp rfl (.tmp rfl (.tmp rfl .nil))) ?_ ?_
  · rw [show stepA c v d = none by unfold stepA; simp_all]; rfl
  · exact SU
  have hge : c.size + 4 ≤ d := by simpa using h30
  refine J_skip <| qx <| mv rfl rfl <| fa rfl rfl fa69_2 <| L_val rfl (v_load rfl ty3 HS (by exact rfl)) ?_
  refine L_pur rfl (p_sub64 rfl rfl (by omega)) <| ag rfl rfl <| nq <| J_seq <| J_seq <| J_drawS mixed (by kernel_rfl) <| sm rfl rfl <| sm rfl rfl ?_
  refine sp rfl (p_shr rfl rfl (by omega) (by have : (IntKind.i64.bits : Int) = 64 := rfl; omega)) <| sp rfl (p_fieldAddr rfl fa69_3) <| S_val rfl (v_load rfl ty3 HS (by exact rfl)) ?_
  refine sp rfl (p_neq rfl rfl) <| sq ?_
  refine C_split rfl (fun h40 => ?_) (fun h40 => ?_)
  refine sr <| ag rfl rfl <| ag rfl rfl <| ag rfl rfl <| nq <| J_ret <| Q_then_ret ?_
  refine J_return (()) Tryz.results285 (.tmp rfl (.tmp rfl (.tmp rfl .nil))) ?_ ?_
  · rw [show stepA c v d = none by unfold stepA; simp_all]; rfl
  · exact SU
  refine J_skip <| qx <| mv rfl rfl <| L_pur rfl (p_sub64 rfl rfl (by omega)) <| ag rfl rfl <| nx <| mv rfl rfl <| mv rfl rfl ?_
  refine L_pur rfl (p_shr rfl rfl (by omega) (by have : (IntKind.i64.bits : Int) = 64 := rfl; omega)) <| L_pur rfl (p_and rfl rfl) <| J_slot (t := 46) (v := .int .i64 (v / 2 ^ (d - c.size - 4).toNat % 16)) rfl (by rw [and15 (div_small hrb.2.1)]) <| mv rfl rfl <| ag rfl rfl <| ag rfl rfl <| ag rfl rfl <| nq ?_
  refine J_ret ?_
  refine J_return (()) Tryz.results285 (.tmp rfl (.tmp rfl (.tmp rfl .nil))) ?_ ?_
  · rw [show stepA c v d = some (v / 2 ^ (d - c.size - 4).toNat % 16, d - c.size - 4) by unfold stepA; simp_all]; rfl
  · exact SU
theorem findG {E : World} {l m : List As} {b o : Nat} {ps : List (Place × SV)} (hp : Pick (slA b o ps) l m) {root : Cap} {a : Int} (ha : 0 ≤ a ∧ a < 4294967296) :
    Con Tryz.prog 267 #[.pointer (some ⟨b, o, none⟩), .agg (encC root).toArray, .int .u32 a] E l (fun _ : Unit => .tuple #[.agg (encI ((kFind ps root a).getD (0, 0))).toArray, .int .i64 (if (kFind ps root a).isSome then 0 else 2)]) (fun _ => slA b o ps :: m) := by
  refine Con.body (vs := [.pointer (some ⟨b, o, none⟩), .agg (encC root).toArray, .int .u32 a]) (n := 63) Tryz.func267 rfl rfl [(0, .pointer (some ⟨b, o, none⟩)), (1, .agg (encC root).toArray), (2, .int .u32 a)] (env_ok 3 rfl) <| J_pick hp <| sr <| L_op <| x_box rfl rfl rfl fun b4 => L_op <| x_alloc ty67 rfl fun b6 => ag rfl rfl ?_
  refine nx <| mv rfl rfl <| L_op <| xc fc284 (.cons rfl .nil) rfl (splitG ha) fun _ => mv rfl rfl <| L_pur rfl (p_extract rfl rfl) <| L_pur rfl (p_extract rfl rfl) <| L_pur rfl (p_extract rfl rfl) ?_
  refine ag rfl rfl <| ag rfl rfl <| ag rfl rfl <| nxx <| mv rfl rfl <| L_pur rfl (p_not rfl) <| nq ?_
  refine C_split rfl (fun h23 => ?_) (fun h23 => ?_)
  have hsp : splitA a = none := by
    cases hq : splitA a with
    | none => rfl
    | some y => rw [hq] at h23; simp at h23
  have hfk : kFind ps root a = none := by unfold kFind; rw [hsp]
  refine sr <| L_pur rfl (bld67 .nil (by repeat constructor)) <| L_op <| x_store rfl rfl ty67 rfl SM SM RO PT ?_
  refine ag rfl rfl <| nq <| J_ret <| Q_then_ret ?_
  refine J_return (()) Tryz.results267 (.cellA rfl ty67 HS CT (.tmp rfl .nil)) ?_ ?_
  · rw [hfk]; rfl
  · exact SU
  obtain ⟨⟨v0, d0⟩, hsp⟩ : ∃ x, splitA a = some x := by
    cases hq : splitA a with
    | none => rw [hq] at h23; simp at h23
    | some y => exact ⟨y, rfl⟩
  have hs0 := splitA_is hsp
  have hf0 : findA ps 6 root v0 d0 = kFind ps root a := by unfold kFind; rw [hsp]
  refine J_slot (t := 8) (v := .int .i64 (v0)) rfl (by rw [hsp]; rfl) <| J_slot (t := 9) (v := .int .i64 (d0)) rfl (by rw [hsp]; rfl) <| J_skip <| qx <| L_val rfl (v_loadA rfl ty69 HS CT) ?_
  refine L_op <| x_alloc ty69 rfl fun b11 => L_op <| x_store rfl rfl ty69 rfl SM SM RO PT ?_
  refine nq <| J_seq <| J_seq <| J_pick (A := blk b11 _ _) PC ?_
  refine J_asTo (B := blk b11 69 (encC root)) (by rfl) <| J_region <| mv rfl rfl <| nq <| J_block <| J_loop (α := Nat × Cap × Int × Int) (fun x => x.1 ≤ 6 ∧ ((0 ≤ x.2.2.2 ∧ x.2.2.2 ≤ 24) ∧ (0 ≤ x.2.2.1 ∧ x.2.2.1 < 16777216)) ∧ findA ps (6 - x.1) x.2.1 x.2.2.1 x.2.2.2 = kFind ps root a) (fun x => blk b11 69 (encC x.2.1) :: blk b6 67 [.int .i64 0, .int .i64 0] :: slA b o ps :: m) (fun x => [(26, .int .i64 (x.1 : Int)), (8, .int .i64 x.2.2.1), (9, .int .i64 x.2.2.2), (0, .pointer (some ⟨b, o, none⟩)), (11, .pointer (some ⟨b11, 0, none⟩)), (6, .pointer (some ⟨b6, 0, none⟩))]) (fun x => 6 - x.1) (0, root, v0, d0) ⟨by omega, hs0, hf0⟩ SU KE ?_
  intro x hx
  obtain ⟨k, c, v, d⟩ := x
  obtain ⟨hk, hv, hf⟩ := hx
  dsimp only at hk hv hf ⊢
  refine sr <| L_pur rfl (p_lss rfl rfl) <| nq <| J_seq ?_
  refine C_dec rfl (fun h27 => ?_) (fun h27 => ?_)
  obtain ⟨n, hn⟩ : ∃ n, 6 - k = n + 1 := ⟨5 - k, by omega⟩
  rw [hn, findA] at hf
  refine J_skip <| Q_then <| J_seq <| J_block <| sr <| L_val rfl (v_loadA rfl ty69 HS CT) ?_
  refine mv rfl rfl <| mv rfl rfl <| L_op <| xc fc285 (.cons rfl (.cons rfl (.cons rfl .nil))) rfl (stepG (c := c) (v := v) (d := d)) fun _ => mv rfl rfl <| L_pur rfl (p_extract rfl rfl) <| L_pur rfl (p_extract rfl rfl) <| L_pur rfl (p_extract rfl rfl) ?_
  refine ag rfl rfl <| ag rfl rfl <| ag rfl rfl <| nxx <| mv rfl rfl <| L_pur rfl (p_not rfl) <| nq ?_
  refine C_split rfl (fun h37 => ?_) (fun h37 => ?_)
  have hst : stepA c v d = none := by
    cases hq : stepA c v d with
    | none => rfl
    | some y => rw [hq] at h37; simp at h37
  rw [hst] at hf
  have hfk : kFind ps root a = none := hf.symm
  refine sr <| L_pur rfl (bld67 .nil (by repeat constructor)) <| L_op <| x_store rfl rfl ty67 rfl SM SM RO PT ?_
  refine ag rfl rfl <| nq <| J_ret <| Q_then_ret <| Q_blk_ret <| Q_then_ret <| Q_then_ret <| Q_blk_ret ?_
  refine Q_then_ret ?_
  refine J_return (()) Tryz.results267 (.cellA rfl ty67 HS CT (.tmp rfl .nil)) ?_ ?_
  · rw [hfk]; rfl
  · exact SU
  obtain ⟨⟨j, r⟩, hst⟩ : ∃ x, stepA c v d = some x := by
    cases hq : stepA c v d with
    | none => rw [hq] at h37; simp at h37
    | some y => exact ⟨y, rfl⟩
  rw [hst] at hf
  have hjr := stepA_is hst
  refine J_slot (t := 12) (v := .int .i64 (j)) rfl (by rw [hst]; rfl) <| J_slot (t := 13) (v := .int .i64 (r)) rfl (by rw [hst]; rfl) <| J_skip <| qx <| fa rfl rfl fa69_1 <| L_val rfl (v_load rfl ty3 HS (by exact rfl)) ?_
  refine mv rfl rfl <| L_pur rfl (bld67 (.cons rfl (.cons rfl .nil)) (by repeat constructor)) <| L_op <| x_alloc ty67 rfl fun b15 => L_op <| x_store rfl rfl ty67 rfl SM SM RO PT ?_
  refine J_pick (A := blk b15 _ _) PC ?_
  refine J_asTo (B := blk b15 67 (encI (c.obj, j))) (by rfl) <| nxx <| mv rfl rfl <| L_pur rfl (p_eql rfl rfl) <| nq ?_
  refine C_dec rfl (fun h44 => ?_) (fun h44 => ?_)
  have hfk : kFind ps root a = some (c.obj, j) := by rw [← hf]; exact if_pos h44
  refine sr <| L_val rfl (v_loadA rfl ty67 HS CT) ?_
  refine L_op <| x_store rfl rfl ty67 rfl SM SM RO PT ?_
  refine ag rfl rfl <| nq <| J_ret <| Q_then_ret <| Q_blk_ret <| Q_then_ret <| Q_then_ret <| Q_blk_ret ?_
  refine Q_then_ret ?_
  refine J_return (()) Tryz.results267 (.cellA rfl ty67 HS CT (.tmp rfl .nil)) ?_ ?_
  · rw [hfk]; rfl
  · exact SU
  dsimp only at hf
  rw [if_neg h44] at hf
  refine J_skip <| Q_then <| J_seq <| sr <| mv rfl rfl <| L_val rfl (v_loadA rfl ty67 HS CT) ?_
  refine L_op <| xc fc34 (.cons rfl (.cons rfl .nil)) rfl (slGetC (ps := ps) (p := (c.obj, j)) PC) fun _ => ?_
  refine mv rfl rfl <| L_pur rfl (p_extract rfl rfl) <| L_pur rfl (p_extract rfl rfl) <| L_op <| x_store rfl rfl ty69 rfl SM SM RO PT ?_
  refine ag rfl rfl <| nx <| mv rfl rfl <| L_pur rfl (p_not rfl) <| nq ?_
  refine C_split rfl (fun h53 => ?_) (fun h53 => ?_)
  have hsl : look ps (c.obj, j) = none := by
    cases hq : look ps (c.obj, j) with
    | none => rfl
    | some y => rw [hq] at h53; simp at h53
  rw [hsl] at hf
  have hfk : kFind ps root a = none := hf.symm
  refine sr <| L_pur rfl (bld67 .nil (by repeat constructor)) <| L_op <| x_store rfl rfl ty67 rfl SM SM RO PT ?_
  refine ag rfl rfl <| nq <| J_ret <| Q_then_ret <| Q_blk_ret <| Q_then_ret <| Q_then_ret <| Q_blk_ret ?_
  refine Q_then_ret ?_
  refine J_return (()) Tryz.results267 (.cellA rfl ty67 HS CT (.tmp rfl .nil)) ?_ ?_
  · rw [hfk]; rfl
  · exact SU
  obtain ⟨sv, hsv⟩ : ∃ x, look ps (c.obj, j) = some x := by
    cases hq : look ps (c.obj, j) with
    | none => rw [hq] at h53; simp at h53
    | some y => exact ⟨y, rfl⟩
  rw [hsv] at hf
  refine J_pick (A := blk b11 _ _) PC ?_
  refine J_asTo (B := blk b11 69 (encC sv.1)) (by rw [hsv]; rfl) ?_
  obtain ⟨rk, hrk⟩ : ∃ rk : Nat, r = rk := ⟨r.toNat, by omega⟩
  obtain ⟨g1, g2, g3⟩ := shl1_24 rk (by omega)
  have hrt : r.toNat = rk := by omega
  have hvm : 0 ≤ v % 2 ^ r.toNat ∧ v % 2 ^ r.toNat < 16777216 := by
    rw [hrt]
    exact ⟨Int.emod_nonneg _ (by omega), by have := Int.emod_lt_of_pos v (b := 2 ^ rk) (by omega); omega⟩
  refine J_skip <| qr <| mv rfl rfl <| mv rfl rfl <| L_pur rfl (p_shl rfl rfl (by omega) (by have : (IntKind.i64.bits : Int) = 64 := rfl; omega)) <| J_slot (t := 57) (v := .int .i64 (2 ^ rk)) rfl (by rw [← g1]; unfold shl1; rw [hrk]) <| L_pur rfl (p_sub64 rfl rfl (by omega)) <| L_pur rfl (p_and rfl rfl) ?_
  refine J_slot (t := 59) (v := .int .i64 (v % 2 ^ r.toNat)) rfl (by rw [hrt, and_mask64 (by omega) (by omega)]) <| mv rfl rfl <| ag rfl rfl <| ag rfl rfl <| L_nil <| Q_blk_normal <| qr <| L_pur rfl (p_add64 rfl rfl (by omega)) ?_
  refine mv rfl rfl <| nq ?_
  exact J_again ((k + 1, sv.1, v % 2 ^ r.toNat, r)) (by show 6 - (k + 1) < 6 - k; omega) (⟨by show k + 1 ≤ 6; omega, ⟨hjr.1, hvm⟩, by rw [← hf]; show findA ps (6 - (k + 1)) _ _ _ = _; rw [show 6 - (k + 1) = n by omega]⟩) SU KE
  have hfk : kFind ps root a = none := by rw [← hf, show 6 - k = 0 by omega]; rfl
  refine J_exit <| Q_then_exit <| Q_then_exit <| Q_blk_this <| qx <| L_pur rfl (bld67 .nil (by repeat constructor)) <| L_op <| x_store rfl rfl ty67 rfl SM SM RO PT ?_
  refine ag rfl rfl <| nq <| J_ret ?_
  refine J_return (()) Tryz.results267 (.cellA rfl ty67 HS CT (.tmp rfl .nil)) ?_ ?_
  · rw [hfk]; rfl
  · exact SU
end Go.Pse
