/-
  Rings, the journal, lists, notifications, endpoints, deadlines, replies: contracts.
-/
import Derived.Test.YthjbhkaokjdhmaaGreatC22
namespace Go.Pse
open Go.RowKit Go.Proofs

set_option maxRecDepth 100000 in
set_option maxHeartbeats 4000000 in
theorem ringPost {E : World} {l m : List As} {b mb : Nat} {r : Rg} {ms : List (List Int)} (hp : Picks [rgA b mb r, memA mb ms] l m) {c : Cqe} (hl : r.over.length ≤ 100000) (hR : RgOk r) (hM : MemOk ms) :
    Con Tryz.prog 65 #[.pointer (some ⟨b, 0, none⟩), .agg (encX c).toArray] E l (fun _ : Unit => .bool (postOk r ms)) (fun _ => rgA b mb (postR r ms c) :: memA mb (postM r ms c) :: m) := by
  refine Con.body (vs := [.pointer (some ⟨b, 0, none⟩), .agg (encX c).toArray]) (n := 26) Tryz.func65 rfl rfl [(0, .pointer (some ⟨b, 0, none⟩)), (1, .agg (encX c).toArray)] (env_ok 2 rfl) <| J_picks2 hp <| J_rgO fun v _ => J_row (.there .here) fun hw a cap hv h1 h2 h3 => ?_
  subst hv
  have hm : cap ≤ 9223372036854775807 := h2
  have hml : (r.over.map encX).length = r.over.length := List.length_map _
  refine sr <| L_op <| x_box rfl rfl rfl fun b3 => ag rfl rfl <| nxx <| mv rfl rfl <| nc rfl rfl <| fa rfl rfl fa138_7 ?_
  refine L_val rfl (v_load rfl ty136 HS (by exact rfl)) ?_
  refine L_pur rfl (p_len rfl Tryz.underlying136) <| L_pur rfl (p_eql rfl rfl) <| mv rfl rfl ?_
  refine J_gsplit (t := 11) rfl (fun h11 => ?_) (fun h11 => ?_)
  ·
    have he : r.over = [] := by simpa using h11
    refine L_op <| G_on rfl rfl rfl <| J_pur (p_move rfl) rfl rfl rfl <| L_op <| G_on rfl rfl rfl <| J_val (v_loadA rfl ty175 HS CT) rfl rfl rfl ?_
    refine L_op <| G_on rfl rfl rfl <| x_call Tryz.func97 nm97 bd97 (.cons rfl (.cons rfl .nil)) rfl (ringWrites (c := c) (r := r) (ms := ms) PX hR hM) fun _ => ?_
    refine L_pur rfl (p_pick_t rfl rfl) <| nq ?_
    refine C_split rfl (fun h15 => ?_) (fun h15 => ?_)
    ·
      have hok : postOk r ms = true := by unfold postOk; rw [he, h15]; rfl
      refine sr <| ag rfl rfl <| nq <| J_ret <| Q_then_ret <| J_pick (A := row 175 4 _ _) PC ?_
      refine J_rowEq (ys := (rgUp r).over.map encX) (by rfl) <| J_pick (A := blk b _ _) PC ?_
      refine J_asTo (B := blk b 138 [.pointer (some ⟨mb, 0, none⟩), .int .i64 (rgUp r).sq, .int .i64 (rgUp r).cq, .int .i64 (rgUp r).sb, .int .i64 (rgUp r).cb, .int .u32 (rgUp r).head, .int .u32 (rgUp r).tail, (.slice a (r.over.map encX).length cap)]) (by rw [h15, if_pos rfl]) <| J_pick (A := memA mb _) PC ?_
      refine J_asTo (B := memA mb (ms.set (r.cq - 1).toNat (rgRow r ms c))) (by rw [h15, if_pos rfl]) <| J_rgS (b := b) (mb := mb) (r := rgUp r) _ PX trivial ?_
      refine J_asTo (B := rgA b mb (postR r ms c)) (by rw [postR, hok]; rfl) <| J_pick (A := memA mb _) PC ?_
      refine J_asTo (B := memA mb (postM r ms c)) (by rw [postM, hok]; rfl) ?_
      refine J_return (()) Tryz.results65 (.tmp rfl .nil) ?_ ?_
      · simp [one, hok]
      · exact SU
    ·
      have hno : rgWrOk r ms = false := h15
      have hok : postOk r ms = false := by unfold postOk; rw [hno, Bool.and_false]
      refine J_skip <| Q_then <| J_seq <| J_pick (A := blk b _ _) PC ?_
      refine J_asTo (B := blk b 138 [.pointer (some ⟨mb, 0, none⟩), .int .i64 r.sq, .int .i64 r.cq, .int .i64 r.sb, .int .i64 r.cb, .int .u32 r.head, .int .u32 r.tail, (.slice a (r.over.map encX).length cap)]) (by rw [hno, if_neg (by decide)]) <| J_pick (A := memA mb _) PC ?_
      refine J_asTo (B := memA mb ms) (by rw [hno, if_neg (by decide)]) <| J_drawL (some 7) mixed <| ip 0 rfl rfl rfl rfl (p_move rfl) <| ip 1 rfl rfl rfl rfl (p_move rfl) <| ip 2 rfl rfl rfl rfl (p_nilCheck rfl) <| ip 3 rfl rfl rfl rfl (p_fieldAddr rfl fa138_7) <| iv 4 rfl rfl rfl rfl (fun _ => v_load rfl ty136 HS (by exact rfl)) ?_
      refine iv 5 rfl rfl rfl rfl (fun _ => v_loadA rfl ty175 HS CT) ?_
      refine i1 6 rfl <| x_lit (vals := [_]) Tryz.underlying136 ty175 rfl (.cons rfl .nil) (.agg .nil) (Wf.cons rfl rfl Wf.nil) rfl (by decide) rfl rfl <| JR fun a22 c22 hw22 hl22 hm22 hz22 => i1 7 rfl <| x_app rfl rfl Tryz.underlying136 ty175 rfl rfl PC (fun w H => sep_reads HS H) (by simp; omega) (by simp; omega) rfl <| JE ((r.over ++ [c]).map encX) (by simp) fun a23 c23 hw23 hl23 hm23 hz23 => ip 8 rfl rfl rfl rfl (p_nilCheck rfl) <| ip 9 rfl rfl rfl rfl (p_fieldAddr rfl fa138_7) ?_
      refine i1 10 rfl <| x_store rfl rfl ty136 rfl SM SM RO PT ?_
      refine i0 <| qx <| ag rfl rfl <| nq <| J_ret <| J_rgS (b := b) (mb := mb) (r := { r with over := r.over ++ [c] }) _ PX trivial ?_
      refine J_asTo (B := rgA b mb (postR r ms c)) (by rw [postR, hok]; rfl) <| J_pick (A := memA mb _) PC ?_
      refine J_asTo (B := memA mb (postM r ms c)) (by rw [postM, hok]; rfl) ?_
      refine J_return (()) Tryz.results65 (.tmp rfl .nil) ?_ ?_
      · simp [one, hok]
      · exact SU
  ·
    have he : r.over.isEmpty = false := by
      cases hov : r.over with
      | nil => rw [hov] at h11; simp at h11
      | cons x xs => rfl
    refine L_op <| G_off rfl rfl rfl rfl rfl rfl <| L_op <| G_off rfl rfl rfl rfl rfl rfl <| L_op <| G_off rfl rfl rfl rfl rfl rfl <| L_pur rfl (p_pick_f rfl rfl) <| nq ?_
    refine C_false rfl <| J_skip <| Q_then <| J_seq ?_
    have hok : postOk r ms = false := by unfold postOk; rw [he]; rfl
    refine J_drawL (some 7) mixed <| ip 0 rfl rfl rfl rfl (p_move rfl) <| ip 1 rfl rfl rfl rfl (p_move rfl) <| ip 2 rfl rfl rfl rfl (p_nilCheck rfl) <| ip 3 rfl rfl rfl rfl (p_fieldAddr rfl fa138_7) <| iv 4 rfl rfl rfl rfl (fun _ => v_load rfl ty136 HS (by exact rfl)) ?_
    refine iv 5 rfl rfl rfl rfl (fun _ => v_loadA rfl ty175 HS CT) ?_
    refine i1 6 rfl <| x_lit (vals := [_]) Tryz.underlying136 ty175 rfl (.cons rfl .nil) (.agg .nil) (Wf.cons rfl rfl Wf.nil) rfl (by decide) rfl rfl <| JR fun a22 c22 hw22 hl22 hm22 hz22 => i1 7 rfl <| x_app rfl rfl Tryz.underlying136 ty175 rfl rfl PC (fun w H => sep_reads HS H) (by simp; omega) (by simp; omega) rfl <| JE ((r.over ++ [c]).map encX) (by simp) fun a23 c23 hw23 hl23 hm23 hz23 => ip 8 rfl rfl rfl rfl (p_nilCheck rfl) <| ip 9 rfl rfl rfl rfl (p_fieldAddr rfl fa138_7) ?_
    refine i1 10 rfl <| x_store rfl rfl ty136 rfl SM SM RO PT ?_
    refine i0 <| qx <| ag rfl rfl <| nq <| J_ret <| J_rgS (b := b) (mb := mb) (r := { r with over := r.over ++ [c] }) _ PX trivial ?_
    refine J_asTo (B := rgA b mb (postR r ms c)) (by rw [postR, hok]; rfl) <| J_pick (A := memA mb _) PC ?_
    refine J_asTo (B := memA mb (postM r ms c)) (by rw [postM, hok]; rfl) ?_
    refine J_return (()) Tryz.results65 (.tmp rfl .nil) ?_ ?_
    · simp [one, hok]
    · exact SU

set_option maxRecDepth 100000 in
set_option maxHeartbeats 4000000 in
theorem ringTail {E : World} {l m : List As} {b mb : Nat} {r : Rg} (hp : Pick (rgA b mb r) l m) :
    Con Tryz.prog 17 #[.pointer (some ⟨b, 0, none⟩)] E l (fun _ : Unit => .int .u32 r.tail) (fun _ => rgA b mb r :: m) := by
  refine Con.body (vs := [.pointer (some ⟨b, 0, none⟩)]) (n := 7) Tryz.func17 rfl rfl [(0, .pointer (some ⟨b, 0, none⟩))] (env_ok 1 rfl) <| J_pick hp <| J_rgO fun v _ => sr <| ag rfl rfl <| nx <| mv rfl rfl <| nc rfl rfl ?_
  refine fa rfl rfl fa138_6 <| L_val rfl (v_load rfl ty37 HS (by exact rfl)) ?_
  refine ag rfl rfl <| nq <| J_ret <| J_rgS (b := b) (mb := mb) (r := r) v PX trivial ?_
  refine J_return (()) Tryz.results17 (.tmp rfl .nil) ?_ ?_
  · rfl
  · exact SU

set_option maxRecDepth 100000 in
set_option maxHeartbeats 4000000 in
theorem ringClear {E : World} {l m : List As} {b mb : Nat} {r : Rg} (hp : Pick (rgA b mb r) l m) :
    Con Tryz.prog 52 #[.pointer (some ⟨b, 0, none⟩)] E l (fun _ : Unit => .int .i64 (r.over.length : Int)) (fun _ => rgA b mb { r with over := [] } :: m) := by
  refine Con.body (vs := [.pointer (some ⟨b, 0, none⟩)]) (n := 13) Tryz.func52 rfl rfl [(0, .pointer (some ⟨b, 0, none⟩))] (env_ok 1 rfl) <| J_pick hp <| J_rgO fun v _ => J_row (.there .here) fun hw a cap hv h1 h2 h3 => ?_
  subst hv
  refine sr <| ag rfl rfl <| nx <| mv rfl rfl <| nc rfl rfl <| fa rfl rfl fa138_7 <| L_val rfl (v_load rfl ty136 HS (by exact rfl)) ?_
  refine L_pur rfl (p_len rfl Tryz.underlying136) <| ag rfl rfl <| nx <| mv rfl rfl <| nc rfl rfl <| fa rfl rfl fa138_7 <| L_op <| x_store rfl rfl ty136 rfl SM SM RO PT ?_
  refine nx <| mv rfl rfl <| ag rfl rfl <| nq <| J_ret <| J_nil (el := 175) (sz := 4) <| J_asTo (B := row 175 4 (.slice none 0 0) (({ r with over := [] } : Rg).over.map encX)) (by rfl) <| J_rgS (b := b) (mb := mb) (r := { r with over := [] }) (.slice none 0 0) PX trivial ?_
  refine J_return (()) Tryz.results52 (.tmp rfl .nil) ?_ ?_
  · simp [one]
  · exact SU

set_option maxRecDepth 100000 in
set_option maxHeartbeats 4000000 in
theorem jnlAdd {E : World} {l m : List As} {b o : Nat} {xs : List Deed} (hp : Pick (jnlA b o xs) l m) (hb : xs.length ≤ 200000) {d : Deed} :
    Con Tryz.prog 51 #[.pointer (some ⟨b, o, none⟩), .agg (encD d).toArray] E l (fun _ : Unit => .tuple #[]) (fun _ => jnlA b o (xs ++ [d]) :: m) := by
  refine Con.body (vs := [.pointer (some ⟨b, o, none⟩), .agg (encD d).toArray]) (n := 14) Tryz.func51 rfl rfl [(0, .pointer (some ⟨b, o, none⟩)), (1, .agg (encD d).toArray)] (env_ok 2 rfl) <| J_pick hp <| J_jnlO fun v _ => J_row (.there .here) fun hw a cap hv h1 h2 h3 => ?_
  subst hv
  have hm : cap ≤ 9223372036854775807 := h2
  have hml : (xs.map encD).length = xs.length := List.length_map _
  refine sr <| L_op <| x_box rfl rfl rfl fun b3 => nq <| J_drawL (some 7) mixed <| ip 0 rfl rfl rfl rfl (p_move rfl) <| ip 1 rfl rfl rfl rfl (p_move rfl) <| ip 2 rfl rfl rfl rfl (p_nilCheck rfl) ?_
  refine ip 3 rfl rfl rfl rfl (p_fieldAddr rfl fa115_0) <| iv 4 rfl rfl rfl rfl (fun _ => v_loadL rfl ty44 HS rfl (by exact rfl)) ?_
  refine iv 5 rfl rfl rfl rfl (fun _ => v_loadA rfl ty50 HS CT) ?_
  refine i1 6 rfl <| x_lit (vals := [_]) Tryz.underlying44 ty50 rfl (.cons rfl .nil) (.agg .nil) (Wf.cons rfl rfl Wf.nil) rfl (by decide) rfl rfl <| JR fun a10 c10 hw10 hl10 hm10 hz10 => i1 7 rfl <| x_app rfl rfl Tryz.underlying44 ty50 rfl rfl PC (fun w H => sep_reads HS H) (by simp; omega) (by simp; omega) rfl <| JE ((xs ++ [d]).map encD) (by simp) fun a11 c11 hw11 hl11 hm11 hz11 => ip 8 rfl rfl rfl rfl (p_nilCheck rfl) <| ip 9 rfl rfl rfl rfl (p_fieldAddr rfl fa115_0) ?_
  refine i1 10 rfl <| x_storeL rfl rfl ty44 rfl SM SM rfl RO rfl PT ?_
  refine i0 <| J_endnormal <| J_jnlS (b := b) (o := o) (xs := xs ++ [d]) _ PX trivial ?_
  exact J_return (()) Tryz.results51 .nil rfl SU

set_option maxRecDepth 100000 in
set_option maxHeartbeats 4000000 in
theorem clone42 {E : World} {l : List As} {v : Value} {xs : List (List Value)} (hr : ∀ w, Sep E w l → Reads w 7 v xs) (hb : xs.length ≤ 1000000) :
  Con Tryz.prog 42 #[v] E l (fun v' : Value => v') (fun v' => row 50 7 v' xs :: l) := by
 refine Con.body (vs := [v]) (n := 8) Tryz.func42 rfl rfl [(0, v)] (env_ok 1 rfl) <| J_reads hr fun hw a cap hv h1 h2 h3 => ?_
 subst hv
 refine sr <| ag rfl rfl <| nxx <| mv rfl rfl <| L_pur rfl (p_eqnil Tryz.underlying44 rfl) <| nq ?_
 refine C_split rfl (fun h4 => ?_) (fun h4 => ?_)
 ·
  obtain rfl : a = none := by simpa using h4
  obtain ⟨rfl, rfl⟩ := h3 rfl
  refine J_nil (el := 50) (sz := 7) <| sr <| ag rfl rfl <| nq <| J_ret <| Q_then_ret ?_
  exact J_return (_) Tryz.results42 (.tmp rfl .nil) rfl SU
 ·
  refine J_skip <| qx <| L_op <| x_lit (vals := []) Tryz.underlying44 ty50 rfl .nil .nil Wf.nil rfl (by decide) rfl rfl <| JR fun a5 c5 hw5 hl5 hm5 hz5 => mv rfl rfl <| L_op <| x_app rfl rfl Tryz.underlying44 ty50 rfl rfl PC (fun w H => hr w H.tail) (OM) (OM) rfl ?_
  refine JR fun a7 c7 hw7 hl7 hm7 hz7 => ag rfl rfl <| nq <| J_ret ?_
  exact J_return (_) Tryz.results42 (.tmp rfl .nil) rfl SU

set_option maxRecDepth 100000 in
set_option maxHeartbeats 4000000 in
theorem jnlAll {E : World} {l m : List As} {b o : Nat} {xs : List Deed} (hp : Pick (jnlA b o xs) l m) (hb : xs.length ≤ 200000) :
    Con Tryz.prog 15 #[.pointer (some ⟨b, o, none⟩)] E l (fun v : Value => v) (fun v => row 50 7 v (xs.map encD) :: jnlA b o xs :: m) := by
  refine Con.body (vs := [.pointer (some ⟨b, o, none⟩)]) (n := 8) Tryz.func15 rfl rfl [(0, .pointer (some ⟨b, o, none⟩))] (env_ok 1 rfl) <| J_pick hp <| J_jnlO fun v _ => J_row (.there .here) fun hw a cap hv h1 h2 h3 => ?_
  subst hv
  have hm : cap ≤ 9223372036854775807 := h2
  have hml : (xs.map encD).length = xs.length := List.length_map _
  refine sr <| ag rfl rfl <| nx <| mv rfl rfl <| nc rfl rfl <| fa rfl rfl fa115_0 <| L_val rfl (v_loadL rfl ty44 HS rfl (by exact rfl)) ?_
  refine L_op <| x_call Tryz.func42 nm42 bd42 (.cons rfl .nil) rfl (clone42 (xs := xs.map encD) (fun w H => sep_reads (xs := xs.map encD) HS H) (by simp; omega)) <| JR fun a7 c7 hw7 hl7 hm7 hz7 => ag rfl rfl <| nq <| J_ret <| J_jnlS (b := b) (o := o) (xs := xs) _ PX trivial ?_
  exact J_return (_) Tryz.results15 (.tmp rfl .nil) rfl SU

/-! ### plain: who waits, in order -/
theorem encI_one (c : ID) : ones (encI c) = true := rfl
theorem encI_len (c : ID) : (encI c).length = 2 := rfl
def isI (i c : ID) : Bool := decide (c.1 = i.1 ∧ c.2 = i.2)
theorem isI_iff {i c : ID} : isI i c = true ↔ c = i := by unfold isI; rw [decide_eq_true_eq, Prod.ext_iff]
theorem isI_eq (i c : ID) : isI i c = decide (c = i) := by rw [Bool.eq_iff_iff, isI_iff, decide_eq_true_eq]
def lpush (xs : List ID) (i : ID) : List ID := if i ∈ xs then xs else xs ++ [i]
def ldrop (xs : List ID) (i : ID) : List ID := xs.filter fun c => !isI i c
theorem ldrop_len (xs : List ID) (i : ID) : (ldrop xs i).length ≤ xs.length := List.length_filter_le _ _
theorem lpush_len (xs : List ID) (i : ID) : (lpush xs i).length ≤ xs.length + 1 := by unfold lpush; split <;> simp
theorem ldrop_mem {xs : List ID} {i c : ID} : c ∈ ldrop xs i ↔ c ∈ xs ∧ ¬ c = i := by
  unfold ldrop; rw [List.mem_filter]; simp [isI_eq]
theorem ldrop_no {xs : List ID} {i : ID} (h : i ∉ xs) : ldrop xs i = xs := by
  unfold ldrop; rw [List.filter_eq_self]; intro c hc; have : ¬ c = i := fun e => h (e ▸ hc); simp [isI_eq, this]
theorem ldrop_nodup {xs : List ID} (h : xs.Nodup) (i : ID) : (ldrop xs i).Nodup := List.Nodup.sublist List.filter_sublist h
theorem lpush_nodup {xs : List ID} (h : xs.Nodup) (i : ID) : (lpush xs i).Nodup := by
  unfold lpush; split
  · exact h
  · rename_i hi
    rw [List.nodup_append]
    refine ⟨h, by simp, fun x hx y hy => ?_⟩
    simp at hy; subst hy; exact fun e => hi (e ▸ hx)
theorem ldrop_head {x : ID} {xs : List ID} (h : (x :: xs).Nodup) : ldrop (x :: xs) x = xs := by
  have h1 := List.nodup_cons.1 h
  unfold ldrop
  rw [List.filter_cons, if_neg (by simp [isI_eq])]
  exact ldrop_no h1.1
theorem Who.push {xs : List ID} {ps : List (ID × Bool)} (h : Who xs ps) {i : ID} (hi : i ∉ xs) : Who (xs ++ [i]) (ins ps i true) := by
  refine ⟨by have := lpush_nodup h.1 i; unfold lpush at this; rwa [if_neg hi] at this, fun c => ?_⟩
  rw [look_ins, h.2]
  by_cases hc : i = c
  · subst hc; simp
  · have hc' : ¬ c = i := fun e => hc e.symm
    simp [hc, hc']
theorem Who.drop {xs : List ID} {ps : List (ID × Bool)} (h : Who xs ps) (i : ID) : Who (ldrop xs i) (del ps i) := by
  refine ⟨ldrop_nodup h.1 i, fun c => ?_⟩
  rw [look_del, h.2]
  by_cases hc : i = c
  · subst hc; simp [ldrop_mem]
  · have hc' : ¬ c = i := fun e => hc e.symm
    simp [hc, hc', ldrop_mem]
theorem Who.says {xs : List ID} {ps : List (ID × Bool)} (h : Who xs ps) (i : ID) : zof evB (.bool false) (look ps i) = .bool (decide (i ∈ xs)) := by
  rw [h.2]; by_cases hi : i ∈ xs <;> simp [zof, hi]

set_option maxRecDepth 100000 in
set_option maxHeartbeats 4000000 in
theorem clone81 {E : World} {l : List As} {v : Value} {xs : List (List Value)} (hr : ∀ w, Sep E w l → Reads w 2 v xs) (hb : xs.length ≤ 1000000) :
  Con Tryz.prog 81 #[v] E l (fun v' : Value => v') (fun v' => row 36 2 v' xs :: l) := by
 refine Con.body (vs := [v]) (n := 8) Tryz.func81 rfl rfl [(0, v)] (env_ok 1 rfl) <| J_reads hr fun hw a cap hv h1 h2 h3 => ?_
 subst hv
 refine sr <| ag rfl rfl <| nxx <| mv rfl rfl <| L_pur rfl (p_eqnil Tryz.underlying65 rfl) <| nq ?_
 refine C_split rfl (fun h4 => ?_) (fun h4 => ?_)
 ·
  obtain rfl : a = none := by simpa using h4
  obtain ⟨rfl, rfl⟩ := h3 rfl
  refine J_nil (el := 36) (sz := 2) <| sr <| ag rfl rfl <| nq <| J_ret <| Q_then_ret ?_
  exact J_return (_) Tryz.results81 (.tmp rfl .nil) rfl SU
 ·
  refine J_skip <| qx <| L_op <| x_lit (vals := []) Tryz.underlying65 ty36 rfl .nil .nil Wf.nil rfl (by decide) rfl rfl <| JR fun a5 c5 hw5 hl5 hm5 hz5 => mv rfl rfl <| L_op <| x_app rfl rfl Tryz.underlying65 ty36 rfl rfl PC (fun w H => hr w H.tail) (OM) (OM) rfl ?_
  refine JR fun a7 c7 hw7 hl7 hm7 hz7 => ag rfl rfl <| nq <| J_ret ?_
  exact J_return (_) Tryz.results81 (.tmp rfl .nil) rfl SU

set_option maxRecDepth 100000 in
set_option maxHeartbeats 4000000 in
theorem indexfunc144 {E : World} {l : List As} {v : Value} {α : Type} {enc : α → List Value} {xs : List α} {g : FuncId} {caps : Array Value} {fn : Func} (hf : Tryz.prog.funcs[g]? = some fn) (hn : (fn.name == "runtime.NumGoroutine") = false) (hb : fn.body.isNone = false) {q : α → Bool} {C : As} (hg : ∀ (l' : List As) (c : α), Has C l' → Con Tryz.prog g (#[.agg (enc c).toArray] ++ caps) E l' (fun _ : Unit => .bool (q c)) (fun _ => l')) (hv : Has (row 36 2 v (xs.map enc)) l) (hc : Has C l) :
    Con Tryz.prog 144 #[v, .func (.func g) #[] caps] E l (fun _ : Unit => .int .i64 (idx q xs)) (fun _ => l) := by
  refine Con.body (vs := [v, .func (.func g) #[] caps]) (n := 19) Tryz.func144 rfl rfl [(0, v), (1, .func (.func g) #[] caps)] (env_ok 2 rfl) <| J_row hv fun hw a cap hv h1 h2 h3 => ?_
  subst hv
  have hm : cap ≤ 9223372036854775807 := h2
  have hml : (xs.map enc).length = xs.length := List.length_map _
  refine sr <| ag rfl rfl <| nxx <| mv rfl rfl <| L_pur rfl (p_len rfl Tryz.underlying65) <| mv rfl rfl <| nq <| J_block ?_
  refine J_loop (α := Nat) (fun i => i ≤ xs.length ∧ ∀ c ∈ xs.take i, q c = false) (fun _ => l) (fun i => [(8, .int .i64 (i : Int)), (7, .int .i64 (xs.map enc).length), (0, .slice a (xs.map enc).length cap), (1, .func (.func g) #[] caps)]) (fun i => xs.length - i) 0 ⟨by omega, by simp⟩ SU KE ?_
  intro i ⟨hi, hq⟩
  refine sr <| L_pur rfl (p_lss rfl rfl) <| nq <| J_seq ?_
  refine C_dec rfl (fun h9 => ?_) (fun h9 => ?_)
  ·
    have hlt : i < xs.length := by omega
    obtain ⟨b, o, rfl⟩ := h3 (by intro h; rw [h] at hml; simp at hml; omega)
    obtain ⟨c, hcc⟩ : ∃ c, xs[i]? = some c := ⟨_, List.getElem?_eq_getElem hlt⟩
    refine J_skip <| Q_then <| J_seq <| J_block <| sr <| mv rfl rfl <| ag rfl rfl <| nx ?_
    refine mv rfl rfl <| mv rfl rfl <| mv rfl rfl <| L_pur rfl (p_indexAddr rfl rfl Tryz.underlying65 ty36 (by omega) (by omega)) ?_
    refine L_val rfl (v_loadE rfl ty36 HS (by simp only [Int.toNat_natCast, List.getElem?_map, hcc]; rfl)) ?_
    refine L_op <| x_callc rfl hf hn hb (.cons rfl .nil) rfl (hg _ c hc) fun _ => nq ?_
    refine C_split rfl (fun h16 => ?_) (fun h16 => ?_)
    ·
      have hidx := idx_here hq hcc h16
      refine sr <| mv rfl rfl <| ag rfl rfl <| nq <| J_ret <| Q_blk_ret <| Q_then_ret <| Q_then_ret ?_
      refine Q_blk_ret <| Q_then_ret ?_
      refine J_return (()) Tryz.results144 (.tmp rfl .nil) ?_ ?_
      · simp [one, hidx]
      · exact SU
    ·
      refine J_skip <| Q_blk_normal <| qr <| L_pur rfl (p_add64 rfl rfl (by omega)) <| mv rfl rfl <| nq ?_
      exact J_again (i + 1) (by omega) (⟨by omega, take_false_succ hq hcc h16⟩) SU KE
  ·
    have hix : i = xs.length := by omega
    rw [hix, List.take_length] at hq
    have hidx := idx_none hq
    refine J_exit <| Q_then_exit <| Q_then_exit <| Q_blk_this <| qx <| ag rfl rfl <| nq <| J_ret ?_
    refine J_return (()) Tryz.results144 (.tmp rfl .nil) ?_ ?_
    · simp [one, hidx]
    · exact SU

set_option maxRecDepth 100000 in
set_option maxHeartbeats 4000000 in
theorem deletefunc125 {E : World} {l m : List As} {v : Value} {α : Type} {enc : α → List Value} {xs : List α} {g : FuncId} {caps : Array Value} {fn : Func} (hf : Tryz.prog.funcs[g]? = some fn) (hn : (fn.name == "runtime.NumGoroutine") = false) (hb : fn.body.isNone = false) {q : α → Bool} {C : As} (hg : ∀ (l' : List As) (c : α), Has C l' → Con Tryz.prog g (#[.agg (enc c).toArray] ++ caps) E l' (fun _ : Unit => .bool (q c)) (fun _ => l')) (hv : Pick (row 36 2 v (xs.map enc)) l m) (hc : Has C m) (hone : ∀ c, ones (enc c) = true) (hlen : ∀ c, (enc c).length = 2) :
  Con Tryz.prog 125 #[v, .func (.func g) #[] caps] E l (fun v' : Value => v') (fun v' => row 36 2 v' ((xs.filter fun c => !q c).map enc) :: m) := by
 rcases idx_cases q xs with ⟨hi0, hall⟩ | ⟨i0, hi0, hlt0, hpre, c0, hc0, hq0⟩
 ·
  refine Con.body (vs := [v, .func (.func g) #[] caps]) (n := 42) Tryz.func125 rfl rfl [(0, v), (1, .func (.func g) #[] caps)] (env_ok 2 rfl) <| J_pick hv <| sr <| ag rfl rfl <| nx <| mv rfl rfl <| mv rfl rfl <| L_op <| x_call Tryz.func144 nm144 bd144 (.cons rfl (.cons rfl .nil)) rfl (indexfunc144 hf hn hb hg .here (.there hc)) fun _ => ?_
  refine ag rfl rfl <| nxx <| mv rfl rfl <| L_pur rfl (p_eql rfl rfl) <| nq <| J_bool (t := 12) (c := true) rfl (by simp [hi0]) <| C_true rfl <| sr ?_
  refine J_rowEq (ys := (xs.filter fun c => !q c).map enc) (by rw [List.filter_eq_self.2 (fun c hc => by simp [hall c hc])]) <| mv rfl rfl <| ag rfl rfl <| nq <| J_ret <| Q_then_ret ?_
  exact J_return (_) Tryz.results125 (.tmp rfl .nil) rfl SU
 ·
  refine Con.body (vs := [v, .func (.func g) #[] caps]) (n := 42) Tryz.func125 rfl rfl [(0, v), (1, .func (.func g) #[] caps)] (env_ok 2 rfl) <| J_pick hv <| J_row .here fun hw a cap hv h1 h2 h3 => ?_
  obtain ⟨b, o, rfl⟩ := h3 (by intro h; have := congrArg List.length h; simp at this; subst this; simp at hlt0)
  subst hv
  have hm : cap ≤ 9223372036854775807 := h2
  have hml : (xs.map enc).length = xs.length := List.length_map _
  have hk0 : kept q xs (i0 + 1) = xs.take i0 := kept_first hpre hc0 hq0
  have hl0 : (xs.take i0).length = i0 := by simp; omega
  refine sr <| ag rfl rfl <| nx <| mv rfl rfl <| mv rfl rfl <| L_op <| x_call Tryz.func144 nm144 bd144 (.cons rfl (.cons rfl .nil)) rfl (indexfunc144 hf hn hb hg .here (.there hc)) fun _ => J_slot (t := 10) (v := .int .i64 (i0 : Int)) rfl (by rw [hi0]) ?_
  refine ag rfl rfl <| nxx <| mv rfl rfl <| L_pur rfl (p_eql rfl rfl) <| nq <| J_bool (t := 12) (c := false) rfl (by simp) <| C_false rfl <| J_skip ?_
  refine Q_then <| J_seq <| sr <| mv rfl rfl <| L_pur rfl (p_add64 rfl rfl (by omega)) <| ag rfl rfl <| nq <| J_block ?_
  refine J_rowEq (ys := (kept q xs (i0 + 1) ++ xs.drop (kept q xs (i0 + 1)).length).map enc) (by rw [hk0, hl0, List.take_append_drop]) <| J_slot (t := 5) (v := .int .i64 ((kept q xs (i0 + 1)).length : Int)) rfl (by rw [hk0, hl0]) <| J_loop (α := Nat) (fun j => j ≤ xs.length) (fun j => row 36 2 (.slice (some ⟨b, o, none⟩) (xs.map enc).length cap) ((kept q xs j ++ xs.drop (kept q xs j).length).map enc) :: m) (fun j => [(6, .int .i64 (j : Int)), (5, .int .i64 ((kept q xs j).length : Int)), (0, .slice (some ⟨b, o, none⟩) (xs.map enc).length cap), (1, .func (.func g) #[] caps)]) (fun j => xs.length - j) (i0 + 1) (by omega) SU KE ?_
  intro j hj
  have hkl := kept_le q xs j
  refine J_seq <| sr <| mv rfl rfl <| mv rfl rfl <| L_pur rfl (p_len rfl Tryz.underlying65) <| L_pur rfl (p_lss rfl rfl) <| nq ?_
  refine C_dec rfl (fun h19 => ?_) (fun h19 => ?_)
  ·
   have hlt : j < xs.length := by omega
   obtain ⟨c, hcc⟩ : ∃ c, xs[j]? = some c := ⟨_, List.getElem?_eq_getElem hlt⟩
   refine J_skip <| Q_then <| J_seq <| J_block <| sr <| mv rfl rfl <| mv rfl rfl <| L_pur rfl (p_indexAddr rfl rfl Tryz.underlying65 ty36 (by omega) (by omega)) ?_
   refine L_val rfl (v_loadE rfl ty36 HS (by simp only [Int.toNat_natCast, List.getElem?_map, kept_get, hcc]; rfl)) ?_
   refine L_op <| x_alloc ty36 rfl fun b7 => L_op <| x_store rfl rfl ty36 rfl SM SM RO PT ?_
   refine nx <| mv rfl rfl <| L_val rfl (v_loadA rfl ty36 HS CT) ?_
   refine L_op <| x_callc rfl hf hn hb (.cons rfl .nil) rfl (hg _ c (.there (.there hc))) fun _ => L_pur rfl (p_not rfl) <| nq ?_
   refine C_split rfl (fun h29 => ?_) (fun h29 => ?_)
   ·
    have hqc : q c = false := by simpa using h29
    have hks := kept_set hcc hqc
    have hkl1 : (kept q xs (j + 1)).length = (kept q xs j).length + 1 := by rw [kept_succ hcc, hqc]; simp
    refine sr <| mv rfl rfl <| mv rfl rfl <| L_val rfl (v_loadA rfl ty36 HS CT) ?_
    refine L_pur rfl (p_indexAddr rfl rfl Tryz.underlying65 ty36 (by omega) (by omega)) <| L_op <| x_storeE (vs := enc c) rfl rfl ty36 rfl (hlen c) (hone c) PC (OM) ?_
    refine J_rowEq (ys := (kept q xs (j + 1) ++ xs.drop (kept q xs (j + 1)).length).map enc) (by rw [← hks, List.map_set]; simp) <| ny <| mv rfl rfl <| L_pur rfl (p_add64 rfl rfl (by omega)) <| ag rfl rfl <| L_nil <| Q_blk_normal <| qr ?_
    refine mv rfl rfl <| L_pur rfl (p_add64 rfl rfl (by omega)) <| ag rfl rfl <| nq <| J_slot (t := 5) (v := .int .i64 ((kept q xs (j + 1)).length : Int)) rfl (by rw [hkl1]; rfl) ?_
    exact J_again (j + 1) (by omega) (by omega) SU KE
   ·
    have hqc : q c = true := by simpa using h29
    have hks : kept q xs (j + 1) = kept q xs j := by rw [kept_succ hcc, hqc]; simp
    refine J_skip <| Q_blk_normal <| qr <| mv rfl rfl <| L_pur rfl (p_add64 rfl rfl (by omega)) <| ag rfl rfl <| nq <| J_slot (t := 5) (v := .int .i64 ((kept q xs (j + 1)).length : Int)) rfl (by rw [hks]) ?_
    refine J_pick (A := row 36 2 (.slice (some ⟨b, o, none⟩) (xs.map enc).length cap) ((kept q xs j ++ xs.drop (kept q xs j).length).map enc)) PC ?_
    refine J_rowEq (ys := (kept q xs (j + 1) ++ xs.drop (kept q xs (j + 1)).length).map enc) (by rw [hks]) ?_
    exact J_again (j + 1) (by omega) (by omega) SU KE
  ·
   have hjx : j = xs.length := by omega
   have hka : kept q xs j = xs.filter fun c => !q c := kept_all (by omega)
   refine J_exit <| Q_then_exit <| Q_then_exit <| Q_blk_this <| qx <| mv rfl rfl <| mv rfl rfl <| L_pur rfl (p_slice rfl Tryz.underlying65 ty36 rfl rfl (by omega) (by omega) (by omega)) ?_
   refine L_op <| x_clear (len := (xs.map enc).length) rfl Tryz.underlying65 ty36 rfl rfl PC (OM) ?_
   refine nx <| mv rfl rfl <| mv rfl rfl <| L_pur rfl (p_slice rfl Tryz.underlying65 ty36 rfl rfl (by omega) (by omega) (by omega)) <| J_take (k := (kept q xs j).length) (OM) <| J_rowTo (v' := .slice (some ⟨b, o, none⟩) (kept q xs j).length cap) (ys := (xs.filter fun c => !q c).map enc) (by simp [hka]) rfl <| J_slot (t := 41) (v := .slice (some ⟨b, o, none⟩) (kept q xs j).length cap) rfl (by simp [Addr.add]) <| ag rfl rfl ?_
   refine nq <| J_ret ?_
   exact J_return (_) Tryz.results125 (.tmp rfl .nil) rfl SU

set_option maxRecDepth 100000 in
set_option maxHeartbeats 4000000 in
theorem clo126 {E : World} {l : List As} {bc : Nat} {i : ID} {c : ID} (hc : Has (blk bc 36 (encI i)) l) :
    Con Tryz.prog 126 #[.agg (encI c).toArray, .pointer (some ⟨bc, 0, none⟩)] E l (fun _ : Unit => .bool (isI i c)) (fun _ => l) := by
  refine Con.body (vs := [.agg (encI c).toArray, .pointer (some ⟨bc, 0, none⟩)]) (n := 7) Tryz.func126 rfl rfl [(0, .agg (encI c).toArray), (1, .pointer (some ⟨bc, 0, none⟩))] (env_ok 2 rfl) <| sr <| L_op <| x_box rfl rfl rfl fun b2 => ag rfl rfl <| nx <| L_val rfl (v_loadA rfl ty36 HS CT) ?_
  refine L_val rfl (v_loadA rfl ty36 HS CT) ?_
  refine L_pur rfl (p_eqv rfl rfl (fun w => eg36 _ _ _ _ _ w) (fun w => eqv36 _ _ _ _ w)) <| ag rfl rfl <| nq <| J_ret ?_
  exact J_return (()) Tryz.results126 (.tmp rfl .nil) rfl SU

set_option maxRecDepth 100000 in
set_option maxHeartbeats 4000000 in
theorem lAll {E : World} {l m : List As} {b o : Nat} {xs : List ID} (hp : Pick (lsA b o xs) l m) (hb : xs.length ≤ 100000) :
    Con Tryz.prog 54 #[.pointer (some ⟨b, o, none⟩)] E l (fun v : Value => v) (fun v => row 36 2 v (xs.map encI) :: lsA b o xs :: m) := by
  refine Con.body (vs := [.pointer (some ⟨b, o, none⟩)]) (n := 8) Tryz.func54 rfl rfl [(0, .pointer (some ⟨b, o, none⟩))] (env_ok 1 rfl) <| J_pick hp <| J_lsO fun v ob ps hw => sr <| ag rfl rfl <| nx <| mv rfl rfl <| nc rfl rfl ?_
  refine fa rfl rfl fa124_0 <| L_val rfl (v_loadL rfl ty65 HS rfl (by exact rfl)) ?_
  refine L_op <| x_call Tryz.func81 nm81 bd81 (.cons rfl .nil) rfl (clone81 (xs := xs.map encI) (fun w H => sep_reads (xs := xs.map encI) HS H) (by simp; omega)) <| JR fun a7 c7 hw7 hl7 hm7 hz7 => ag rfl rfl <| nq <| J_ret <| J_lsS (b := b) (o := o) (xs := xs) _ _ _ PX (hw) ?_
  exact J_return (_) Tryz.results54 (.tmp rfl .nil) rfl SU

set_option maxRecDepth 100000 in
set_option maxHeartbeats 4000000 in
theorem lPush {E : World} {l m : List As} {b o : Nat} {xs : List ID} (hp : Pick (lsA b o xs) l m) (hb : xs.length ≤ 100000) {i : ID} :
    Con Tryz.prog 46 #[.pointer (some ⟨b, o, none⟩), .agg (encI i).toArray] E l (fun _ : Unit => .bool (!decide (i ∈ xs))) (fun _ => lsA b o (lpush xs i) :: m) := by
  refine Con.body (vs := [.pointer (some ⟨b, o, none⟩), .agg (encI i).toArray]) (n := 35) Tryz.func46 rfl rfl [(0, .pointer (some ⟨b, o, none⟩)), (1, .agg (encI i).toArray)] (env_ok 2 rfl) <| J_pick hp <| J_lsO fun v ob ps hw => sr <| L_op <| x_box rfl rfl rfl fun b3 => ag rfl rfl <| nq ?_
  refine J_seq <| J_seq <| J_drawS mixed (by kernel_rfl) <| sm rfl rfl <| sp rfl (p_nilCheck rfl) <| sp rfl (p_fieldAddr rfl fa124_1) <| S_val rfl (v_loadL rfl ty122 HS rfl (by exact rfl)) ?_
  refine S_val rfl (v_loadA rfl ty36 HS CT) ?_
  refine S_val rfl (v_look (ek := kI) (ev := evB) (a := i) rfl rfl ky36 Tryz.underlying122 zv4 HS) ?_
  refine J_slot (t := 10) (v := .bool (decide (i ∈ xs))) rfl (hw.says i) <| sq ?_
  refine C_dec rfl (fun h10 => ?_) (fun h10 => ?_)
  ·
    have hlp : lpush xs i = xs := if_pos h10
    refine sr <| ag rfl rfl <| nq <| J_ret <| Q_then_ret <| J_lsS (b := b) (o := o) (xs := xs) _ _ _ PX (hw) ?_
    refine J_asTo (B := lsA b o (lpush xs i)) (by rw [hlp]) ?_
    refine J_return (()) Tryz.results46 (.tmp rfl .nil) ?_ ?_
    · first | rfl | simp [one, h10]
    · exact SU
  ·
    have hlp : lpush xs i = xs ++ [i] := if_neg h10
    refine J_skip <| Q_then <| J_seq <| sr <| mv rfl rfl <| nc rfl rfl <| fa rfl rfl fa124_1 <| L_val rfl (v_loadL rfl ty122 HS rfl (by exact rfl)) ?_
    refine L_pur rfl (p_eqNilMap Tryz.underlying122 rfl) <| nq ?_
    refine C_split rfl (fun h15 => ?_) (fun h15 => ?_)
    ·
      obtain rfl : ob = none := by simpa using h15
      refine J_mapNone (ps := ps) HS fun hps => ?_
      subst hps
      refine J_region <| mv rfl rfl <| L_op <| x_makeMap (ek := kI) (ev := evB) rfl fun b17 => nc rfl rfl <| fa rfl rfl fa124_1 <| L_op <| x_storeL rfl rfl ty122 rfl SM SM rfl RO rfl PT ?_
      refine nq <| J_seq <| J_drawT 5 mixed (by kernel_rfl) <| sm rfl rfl <| sp rfl (p_nilCheck rfl) <| sp rfl (p_fieldAddr rfl fa124_1) <| S_val rfl (v_loadL rfl ty122 HS rfl (by exact rfl)) ?_
      refine S_val rfl (v_loadA rfl ty36 HS CT) ?_
      refine S_nil <| L_op <| x_mapUpdate (ek := kI) (ev := evB) rfl rfl rfl ky36 Tryz.underlying122 PC ?_
      refine nq <| J_seq <| J_drawL (some 7) mixed <| ip 0 rfl rfl rfl rfl (p_move rfl) <| ip 1 rfl rfl rfl rfl (p_move rfl) <| ip 2 rfl rfl rfl rfl (p_nilCheck rfl) <| ip 3 rfl rfl rfl rfl (p_fieldAddr rfl fa124_0) <| iv 4 rfl rfl rfl rfl (fun _ => v_loadL rfl ty65 HS rfl (by exact rfl)) ?_
      refine iv 5 rfl rfl rfl rfl (fun _ => v_loadA rfl ty36 HS CT) ?_
      refine i1 6 rfl <| x_lit (vals := [_]) Tryz.underlying65 ty36 rfl (.cons rfl .nil) (.agg .nil) (Wf.cons rfl rfl Wf.nil) rfl (by decide) rfl rfl <| JR fun a31 c31 hw31 hl31 hm31 hz31 => i1 7 rfl <| x_app rfl rfl Tryz.underlying65 ty36 rfl rfl PC (fun w H => sep_reads HS H) (OM) (OM) rfl <| JE ((xs ++ [i]).map encI) (by simp) fun a32 c32 hw32 hl32 hm32 hz32 => ip 8 rfl rfl rfl rfl (p_nilCheck rfl) <| ip 9 rfl rfl rfl rfl (p_fieldAddr rfl fa124_0) ?_
      refine i1 10 rfl <| x_storeL rfl rfl ty65 rfl SM SM rfl RO rfl PT ?_
      refine i0 <| qx <| ag rfl rfl <| nq <| J_ret <| J_lsS (b := b) (o := o) (xs := xs ++ [i]) _ _ _ PX (hw.push h10) ?_
      refine J_asTo (B := lsA b o (lpush xs i)) (by rw [hlp]) ?_
      refine J_return (()) Tryz.results46 (.tmp rfl .nil) ?_ ?_
      · first | rfl | simp [one, h10]
      · exact SU
    ·
      obtain ⟨bm, rfl⟩ : ∃ bm, ob = some bm := by cases ob with | none => simp at h15 | some x => exact ⟨x, rfl⟩
      refine J_skip <| Q_then <| J_seq <| J_drawT 5 mixed (by kernel_rfl) <| sm rfl rfl <| sp rfl (p_nilCheck rfl) <| sp rfl (p_fieldAddr rfl fa124_1) <| S_val rfl (v_loadL rfl ty122 HS rfl (by exact rfl)) ?_
      refine S_val rfl (v_loadA rfl ty36 HS CT) ?_
      refine S_nil <| L_op <| x_mapUpdate (ek := kI) (ev := evB) rfl rfl rfl ky36 Tryz.underlying122 PC ?_
      refine nq <| J_seq <| J_drawL (some 7) mixed <| ip 0 rfl rfl rfl rfl (p_move rfl) <| ip 1 rfl rfl rfl rfl (p_move rfl) <| ip 2 rfl rfl rfl rfl (p_nilCheck rfl) <| ip 3 rfl rfl rfl rfl (p_fieldAddr rfl fa124_0) <| iv 4 rfl rfl rfl rfl (fun _ => v_loadL rfl ty65 HS rfl (by exact rfl)) ?_
      refine iv 5 rfl rfl rfl rfl (fun _ => v_loadA rfl ty36 HS CT) ?_
      refine i1 6 rfl <| x_lit (vals := [_]) Tryz.underlying65 ty36 rfl (.cons rfl .nil) (.agg .nil) (Wf.cons rfl rfl Wf.nil) rfl (by decide) rfl rfl <| JR fun a31 c31 hw31 hl31 hm31 hz31 => i1 7 rfl <| x_app rfl rfl Tryz.underlying65 ty36 rfl rfl PC (fun w H => sep_reads HS H) (OM) (OM) rfl <| JE ((xs ++ [i]).map encI) (by simp) fun a32 c32 hw32 hl32 hm32 hz32 => ip 8 rfl rfl rfl rfl (p_nilCheck rfl) <| ip 9 rfl rfl rfl rfl (p_fieldAddr rfl fa124_0) ?_
      refine i1 10 rfl <| x_storeL rfl rfl ty65 rfl SM SM rfl RO rfl PT ?_
      refine i0 <| qx <| ag rfl rfl <| nq <| J_ret <| J_lsS (b := b) (o := o) (xs := xs ++ [i]) _ _ _ PX (hw.push h10) ?_
      refine J_asTo (B := lsA b o (lpush xs i)) (by rw [hlp]) ?_
      refine J_return (()) Tryz.results46 (.tmp rfl .nil) ?_ ?_
      · first | rfl | simp [one, h10]
      · exact SU

set_option maxRecDepth 100000 in
set_option maxHeartbeats 4000000 in
theorem lDrop {E : World} {l m : List As} {b o : Nat} {xs : List ID} (hp : Pick (lsA b o xs) l m) (hb : xs.length ≤ 100000) {i : ID} :
    Con Tryz.prog 96 #[.pointer (some ⟨b, o, none⟩), .agg (encI i).toArray] E l (fun _ : Unit => .bool (decide (i ∈ xs))) (fun _ => lsA b o (ldrop xs i) :: m) := by
  refine Con.body (vs := [.pointer (some ⟨b, o, none⟩), .agg (encI i).toArray]) (n := 26) Tryz.func96 rfl rfl [(0, .pointer (some ⟨b, o, none⟩)), (1, .agg (encI i).toArray)] (env_ok 2 rfl) <| J_pick hp <| J_lsO fun v ob ps hw => sr <| L_op <| x_box rfl rfl rfl fun b3 => ag rfl rfl <| nq ?_
  refine J_seq <| J_seq <| J_drawS mixed (by kernel_rfl) <| sm rfl rfl <| sp rfl (p_nilCheck rfl) <| sp rfl (p_fieldAddr rfl fa124_1) <| S_val rfl (v_loadL rfl ty122 HS rfl (by exact rfl)) ?_
  refine S_val rfl (v_loadA rfl ty36 HS CT) ?_
  refine S_val rfl (v_look (ek := kI) (ev := evB) (a := i) rfl rfl ky36 Tryz.underlying122 zv4 HS) ?_
  refine J_slot (t := 10) (v := .bool (decide (i ∈ xs))) rfl (hw.says i) <| sp rfl (p_not rfl) <| sq ?_
  refine C_split rfl (fun h11 => ?_) (fun h11 => ?_)
  ·
    have hi : i ∉ xs := by simpa using h11
    refine sr <| ag rfl rfl <| nq <| J_ret <| Q_then_ret <| J_lsS (b := b) (o := o) (xs := xs) _ _ _ PX (hw) ?_
    refine J_asTo (B := lsA b o (ldrop xs i)) (by rw [ldrop_no hi]) ?_
    refine J_return (()) Tryz.results96 (.tmp rfl .nil) ?_ ?_
    · simp [one, hi]
    · exact SU
  ·
    have hi : i ∈ xs := by simpa using h11
    refine J_skip <| Q_then <| J_seq <| J_drawT 5 mixed (by kernel_rfl) <| sm rfl rfl <| sp rfl (p_nilCheck rfl) <| sp rfl (p_fieldAddr rfl fa124_1) <| S_val rfl (v_loadL rfl ty122 HS rfl (by exact rfl)) ?_
    refine S_val rfl (v_loadA rfl ty36 HS CT) ?_
    refine S_nil <| L_op <| x_delete (ek := kI) (ev := evB) (a := i) rfl rfl ky36 Tryz.underlying122 PC ?_
    refine nx <| mv rfl rfl <| mv rfl rfl <| nc rfl rfl <| fa rfl rfl fa124_0 <| L_val rfl (v_loadL rfl ty65 HS rfl (by exact rfl)) ?_
    refine L_pur rfl (p_makeFunc (.cons rfl .nil)) <| L_op <| x_call Tryz.func125 nm125 bd125 (.cons rfl (.cons rfl .nil)) rfl (deletefunc125 (xs := xs) (enc := encI) (q := isI i) (C := blk b3 36 (encI i)) Tryz.func126 nm126 bd126 (fun l' c hc => clo126 hc) PC HS encI_one encI_len) <| JR fun a23 c23 hw23 hl23 hm23 hz23 => nc rfl rfl <| fa rfl rfl fa124_0 <| L_op <| x_storeL rfl rfl ty65 rfl SM SM rfl RO rfl PT ?_
    refine nx <| ag rfl rfl <| nq <| J_ret <| J_lsS (b := b) (o := o) (xs := xs.filter fun c => !isI i c) _ _ _ PX (hw.drop i) ?_
    refine J_return (()) Tryz.results96 (.tmp rfl .nil) ?_ ?_
    · simp [one, hi]
    · exact SU

set_option maxRecDepth 100000 in
set_option maxHeartbeats 4000000 in
theorem lPop {E : World} {l m : List As}{b o : Nat} {xs : List ID} (hp : Pick (lsA b o xs) l m) (hb : xs.length ≤ 100000) :
  Con Tryz.prog 98 #[.pointer (some ⟨b, o, none⟩)] E l (fun _ : Unit => .tuple #[.agg (encI (xs.headD (0, 0))).toArray, .bool (!xs.isEmpty)]) (fun _ => lsA b o xs.tail :: m) := by
 rcases xs with _ | ⟨x, r⟩
 ·
  refine Con.body (vs := [.pointer (some ⟨b, o, none⟩)]) (n := 22) Tryz.func98 rfl rfl [(0, .pointer (some ⟨b, o, none⟩))] (env_ok 1 rfl) <| J_pick hp <| J_lsO fun v ob ps hw => J_row (.there .here) fun hwf a cap hv h1 h2 h3 => ?_
  subst hv
  refine sr <| L_op <| x_alloc ty36 rfl fun b2 => ag rfl rfl <| nxx <| mv rfl rfl <| nc rfl rfl <| fa rfl rfl fa124_0 ?_
  refine L_val rfl (v_loadL rfl ty65 HS rfl (by exact rfl)) ?_
  refine L_pur rfl (p_len rfl Tryz.underlying65) <| L_pur rfl (p_eql rfl rfl) <| nq <| J_bool (t := 10) (c := true) rfl (by simp) <| C_true rfl <| sr <| L_pur rfl (bld36 .nil (by repeat constructor)) <| L_op <| x_store rfl rfl ty36 rfl SM SM RO PT ?_
  refine ag rfl rfl <| nq <| J_ret <| Q_then_ret <| J_lsS (b := b) (o := o) (xs := []) _ _ _ PX (hw) ?_
  exact J_return (()) Tryz.results98 (.cellA rfl ty36 HS CT (.tmp rfl .nil)) rfl SU
 ·
  refine Con.body (vs := [.pointer (some ⟨b, o, none⟩)]) (n := 22) Tryz.func98 rfl rfl [(0, .pointer (some ⟨b, o, none⟩))] (env_ok 1 rfl) <| J_pick hp <| J_lsO fun v ob ps hw => ?_
  have hnd := hw.1
  refine J_row (.there .here) fun hwf a cap hv h1 h2 h3 => ?_
  obtain ⟨bi, oi, rfl⟩ := h3 (by simp)
  subst hv
  refine sr <| L_op <| x_alloc ty36 rfl fun b2 => ag rfl rfl <| nxx <| mv rfl rfl <| nc rfl rfl <| fa rfl rfl fa124_0 ?_
  refine L_val rfl (v_loadL rfl ty65 HS rfl (by exact rfl)) ?_
  refine L_pur rfl (p_len rfl Tryz.underlying65) <| L_pur rfl (p_eql rfl rfl) <| nq <| J_bool (t := 10) (c := false) rfl (by simp; omega) <| C_false rfl <| J_skip <| qx <| mv rfl rfl ?_
  refine nc rfl rfl <| fa rfl rfl fa124_0 <| L_val rfl (v_loadL rfl ty65 HS rfl (by exact rfl)) ?_
  refine L_pur rfl (p_indexAddr rfl rfl Tryz.underlying65 ty36 (by omega) (by simp)) <| L_val rfl (v_loadE rfl ty36 HS (by rfl)) ?_
  refine L_op <| x_alloc ty36 rfl fun b4 => L_op <| x_store rfl rfl ty36 rfl SM SM RO PT ?_
  refine nx <| J_lsS (b := b) (o := o) (xs := x :: r) _ _ _ PX (hw) ?_
  refine mv rfl rfl <| L_val rfl (v_loadA rfl ty36 HS CT) ?_
  refine L_op <| x_call Tryz.func96 nm96 bd96 (.cons rfl (.cons rfl .nil)) rfl (lDrop (i := x) PC (by omega)) fun _ => ?_
  refine J_asTo (B := lsA b o r) (by rw [ldrop_head hnd]) <| nx <| L_val rfl (v_loadA rfl ty36 HS CT) ?_
  refine L_op <| x_store rfl rfl ty36 rfl SM SM RO PT ?_
  refine ag rfl rfl <| nq <| J_ret ?_
  exact J_return (()) Tryz.results98 (.cellA rfl ty36 HS CT (.tmp rfl .nil)) rfl SU

abbrev orb (w x : Int) : Int := bits .or .u32 w x
def woke (w : Int) (xs : List ID) (x : Int) : Bool := !decide (orb w x = 0) && !xs.isEmpty
def sigI (w : Int) (xs : List ID) (x : Int) : ID := if woke w xs x then xs.headD (0, 0) else (0, 0)
def sigV (w : Int) (xs : List ID) (x : Int) : Int := if woke w xs x then orb w x else 0
def sigW (w : Int) (xs : List ID) (x : Int) : Int := if woke w xs x then 0 else orb w x
def sigL (w : Int) (xs : List ID) (x : Int) : List ID := if woke w xs x then xs.tail else xs
def waitL (w : Int) (xs : List ID) (i : ID) : List ID := if w = 0 then lpush xs i else xs
theorem sigL_len (w : Int) (xs : List ID) (x : Int) : (sigL w xs x).length ≤ xs.length := by unfold sigL; split <;> simp
theorem waitL_len (w : Int) (xs : List ID) (i : ID) : (waitL w xs i).length ≤ xs.length + 1 := by
  unfold waitL; split
  · exact lpush_len xs i
  · omega
set_option maxRecDepth 100000 in
set_option maxHeartbeats 4000000 in
theorem ntWord {E : World} {l m : List As} {b o : Nat} {w : Int} {xs : List ID} (hp : Pick (ntA b o w xs) l m) (hb : xs.length ≤ 100000) :
    Con Tryz.prog 21 #[.pointer (some ⟨b, o, none⟩)] E l (fun _ : Unit => .int .u32 w) (fun _ => ntA b o w xs :: m) := by
  refine Con.body (vs := [.pointer (some ⟨b, o, none⟩)]) (n := 7) Tryz.func21 rfl rfl [(0, .pointer (some ⟨b, o, none⟩))] (env_ok 1 rfl) <| J_pick hp <| J_ntO fun _ _ => sr <| ag rfl rfl <| nx <| mv rfl rfl <| nc rfl rfl ?_
  refine fa rfl rfl fa126_0 <| L_val rfl (v_loadL rfl ty37 HS rfl (by exact rfl)) ?_
  refine ag rfl rfl <| nq <| J_ret <| J_ntS (b := b) (o := o) (w := w) (xs := xs) PX trivial ?_
  exact J_return (()) Tryz.results21 (.tmp rfl .nil) rfl SU

set_option maxRecDepth 100000 in
set_option maxHeartbeats 4000000 in
theorem ntWaits {E : World} {l m : List As} {b o : Nat} {w : Int} {xs : List ID} (hp : Pick (ntA b o w xs) l m) (hb : xs.length ≤ 100000) :
    Con Tryz.prog 26 #[.pointer (some ⟨b, o, none⟩)] E l (fun v : Value => v) (fun v => row 36 2 v (xs.map encI) :: ntA b o w xs :: m) := by
  refine Con.body (vs := [.pointer (some ⟨b, o, none⟩)]) (n := 7) Tryz.func26 rfl rfl [(0, .pointer (some ⟨b, o, none⟩))] (env_ok 1 rfl) <| J_pick hp <| J_ntO fun _ _ => sr <| ag rfl rfl <| nx <| mv rfl rfl <| nc rfl rfl ?_
  refine fa rfl rfl fa126_1 <| L_op <| x_call Tryz.func54 nm54 bd54 (.cons rfl .nil) rfl (lAll (xs := xs) PC (by omega)) <| JR fun a6 c6 hw6 hl6 hm6 hz6 => ag rfl rfl <| nq <| J_ret <| J_ntS (b := b) (o := o) (w := w) (xs := xs) PX trivial ?_
  exact J_return (_) Tryz.results26 (.tmp rfl .nil) rfl SU

set_option maxRecDepth 100000 in
set_option maxHeartbeats 4000000 in
theorem ntDropC {E : World} {l m : List As} {b o : Nat} {w : Int} {xs : List ID} (hp : Pick (ntA b o w xs) l m) (hb : xs.length ≤ 100000) {i : ID} :
    Con Tryz.prog 63 #[.pointer (some ⟨b, o, none⟩), .agg (encI i).toArray] E l (fun _ : Unit => .bool (decide (i ∈ xs))) (fun _ => ntA b o w (ldrop xs i) :: m) := by
  refine Con.body (vs := [.pointer (some ⟨b, o, none⟩), .agg (encI i).toArray]) (n := 10) Tryz.func63 rfl rfl [(0, .pointer (some ⟨b, o, none⟩)), (1, .agg (encI i).toArray)] (env_ok 2 rfl) <| J_pick hp <| J_ntO fun _ _ => sr <| L_op <| x_box rfl rfl rfl fun b3 => ag rfl rfl <| nq ?_
  refine J_seq <| J_drawT 4 mixed (by kernel_rfl) <| sm rfl rfl <| sp rfl (p_nilCheck rfl) <| sp rfl (p_fieldAddr rfl fa126_1) <| S_val rfl (v_loadA rfl ty36 HS CT) ?_
  refine S_nil <| L_op <| x_call Tryz.func96 nm96 bd96 (.cons rfl (.cons rfl .nil)) rfl (lDrop (xs := xs) (i := i) PC (by omega)) fun _ => ?_
  refine ag rfl rfl <| nq <| J_ret <| J_ntS (b := b) (o := o) (w := w) (xs := ldrop xs i) PX trivial ?_
  exact J_return (()) Tryz.results63 (.tmp rfl .nil) rfl SU

set_option maxRecDepth 100000 in
set_option maxHeartbeats 4000000 in
theorem ntWait {E : World} {l m : List As} {b o : Nat} {w : Int} {xs : List ID} (hp : Pick (ntA b o w xs) l m) (hb : xs.length ≤ 100000) {i : ID} :
    Con Tryz.prog 20 #[.pointer (some ⟨b, o, none⟩), .agg (encI i).toArray] E l (fun _ : Unit => .tuple #[.int .u32 w, .bool (!decide (w = 0))]) (fun _ => ntA b o 0 (waitL w xs i) :: m) := by
  refine Con.body (vs := [.pointer (some ⟨b, o, none⟩), .agg (encI i).toArray]) (n := 22) Tryz.func20 rfl rfl [(0, .pointer (some ⟨b, o, none⟩)), (1, .agg (encI i).toArray)] (env_ok 2 rfl) <| J_pick hp <| J_ntO fun _ _ => sr <| L_op <| x_box rfl rfl rfl fun b3 => ag rfl rfl <| ag rfl rfl ?_
  refine nxx <| mv rfl rfl <| nc rfl rfl <| fa rfl rfl fa126_0 <| L_val rfl (v_loadL rfl ty37 HS rfl (by exact rfl)) ?_
  refine ag rfl rfl <| nx <| mv rfl rfl <| L_pur rfl (p_neq rfl rfl) <| nq ?_
  refine C_dec rfl (fun h12 => ?_) (fun h12 => ?_)
  ·
    have hwl : waitL w xs i = xs := if_neg h12
    refine sr <| mv rfl rfl <| nc rfl rfl <| fa rfl rfl fa126_0 <| L_op <| x_storeL rfl rfl ty37 rfl SM SM rfl RO rfl PT ?_
    refine nx <| mv rfl rfl <| ag rfl rfl <| ag rfl rfl <| nq <| J_ret <| Q_then_ret <| J_ntS (b := b) (o := o) (w := 0) (xs := xs) PX trivial ?_
    refine J_asTo (B := ntA b o 0 (waitL w xs i)) (by rw [hwl]) ?_
    refine J_return (()) Tryz.results20 (.tmp rfl (.tmp rfl .nil)) ?_ ?_
    · first | rfl | simp [one, h12]
    · exact SU
  ·
    have hw0 : w = 0 := by simpa using h12
    subst hw0
    have hwl : waitL 0 xs i = lpush xs i := if_pos rfl
    refine J_skip <| Q_then <| J_seq <| J_drawT 4 mixed (by kernel_rfl) <| sm rfl rfl <| sp rfl (p_nilCheck rfl) <| sp rfl (p_fieldAddr rfl fa126_1) <| S_val rfl (v_loadA rfl ty36 HS CT) ?_
    refine S_nil <| L_op <| x_call Tryz.func46 nm46 bd46 (.cons rfl (.cons rfl .nil)) rfl (lPush (xs := xs) (i := i) PC (by omega)) fun _ => ?_
    refine nx <| ag rfl rfl <| ag rfl rfl <| nq <| J_ret <| J_ntS (b := b) (o := o) (w := 0) (xs := lpush xs i) PX trivial ?_
    refine J_asTo (B := ntA b o 0 (waitL 0 xs i)) (by rw [hwl]) ?_
    refine J_return (()) Tryz.results20 (.tmp rfl (.tmp rfl .nil)) ?_ ?_
    · first | rfl | simp [one, h12]
    · exact SU

set_option maxRecDepth 100000 in
set_option maxHeartbeats 4000000 in
theorem ntSignal {E : World} {l m : List As} {b o : Nat} {w : Int} {xs : List ID} (hp : Pick (ntA b o w xs) l m) (hb : xs.length ≤ 100000) {x : Int} :
    Con Tryz.prog 68 #[.pointer (some ⟨b, o, none⟩), .int .u32 x] E l (fun _ : Unit => .tuple #[.agg (encI (sigI w xs x)).toArray, .int .u32 (sigV w xs x), .bool (woke w xs x)]) (fun _ => ntA b o (sigW w xs x) (sigL w xs x) :: m) := by
  refine Con.body (vs := [.pointer (some ⟨b, o, none⟩), .int .u32 x]) (n := 43) Tryz.func68 rfl rfl [(0, .pointer (some ⟨b, o, none⟩)), (1, .int .u32 x)] (env_ok 2 rfl) <| J_pick hp <| J_ntO fun _ _ => sr <| L_op <| x_alloc ty36 rfl fun b4 => ag rfl rfl <| ag rfl rfl ?_
  refine nx <| mv rfl rfl <| nc rfl rfl <| fa rfl rfl fa126_0 <| L_val rfl (v_loadL rfl ty37 HS rfl (by exact rfl)) ?_
  refine mv rfl rfl <| L_pur rfl (p_or rfl rfl) <| nc rfl rfl <| fa rfl rfl fa126_0 <| L_op <| x_storeL rfl rfl ty37 rfl SM SM rfl RO rfl PT ?_
  refine nxx <| mv rfl rfl <| nc rfl rfl <| fa rfl rfl fa126_0 <| L_val rfl (v_loadL rfl ty37 HS rfl (by exact rfl)) ?_
  refine L_pur rfl (p_eql rfl rfl) <| nq ?_
  refine C_dec rfl (fun h22 => ?_) (fun h22 => ?_)
  ·
    have h22' : orb w x = 0 := h22
    have hwk : woke w xs x = false := by simp [woke, h22']
    have e1 : sigI w xs x = (0, 0) := by simp [sigI, hwk]
    have e2 : sigV w xs x = 0 := by simp [sigV, hwk]
    have e3 : sigW w xs x = orb w x := by simp [sigW, hwk]
    have e4 : sigL w xs x = xs := by simp [sigL, hwk]
    refine sr <| L_pur rfl (bld36 .nil (by repeat constructor)) <| L_op <| x_store rfl rfl ty36 rfl SM SM RO PT ?_
    refine ag rfl rfl <| ag rfl rfl <| nq <| J_ret <| Q_then_ret <| J_ntS (b := b) (o := o) (w := orb w x) (xs := xs) PX trivial ?_
    refine J_asTo (B := ntA b o (sigW w xs x) (sigL w xs x)) (by first | (rw [e3, e4]; done) | (rw [e3, e4]; rfl)) ?_
    refine J_return (()) Tryz.results68 (.cellA rfl ty36 HS CT (.tmp rfl (.tmp rfl .nil))) ?_ ?_
    · rw [e1, e2, hwk]; rfl
    · exact SU
  ·
    have h22' : ¬ orb w x = 0 := h22
    refine J_skip <| qx <| mv rfl rfl <| nc rfl rfl <| fa rfl rfl fa126_1 <| L_op <| x_call Tryz.func98 nm98 bd98 (.cons rfl .nil) rfl (lPop (xs := xs) PC (by omega)) fun _ => ?_
    refine mv rfl rfl <| L_pur rfl (p_extract rfl rfl) <| L_pur rfl (p_extract rfl rfl) <| L_op <| x_alloc ty36 rfl fun b7 => L_op <| x_store rfl rfl ty36 rfl SM SM RO PT ?_
    refine ag rfl rfl <| nxx <| mv rfl rfl <| L_pur rfl (p_not rfl) <| nq ?_
    refine C_split rfl (fun h32 => ?_) (fun h32 => ?_)
    ·
      have hnil : xs = [] := by simpa using h32
      subst hnil
      have hwk : woke w [] x = false := by simp [woke, h22']
      have e1 : sigI w [] x = (0, 0) := by simp [sigI, hwk]
      have e2 : sigV w [] x = 0 := by simp [sigV, hwk]
      have e3 : sigW w [] x = orb w x := by simp [sigW, hwk]
      have e4 : sigL w [] x = [] := by simp [sigL, hwk]
      refine sr <| L_pur rfl (bld36 .nil (by repeat constructor)) <| L_op <| x_store rfl rfl ty36 rfl SM SM RO PT ?_
      refine ag rfl rfl <| ag rfl rfl <| nq <| J_ret <| Q_then_ret <| J_ntS (b := b) (o := o) (w := orb w x) (xs := List.tail []) PX trivial ?_
      refine J_asTo (B := ntA b o (sigW w [] x) (sigL w [] x)) (by first | (rw [e3, e4]; done) | (rw [e3, e4]; rfl)) ?_
      refine J_return (()) Tryz.results68 (.cellA rfl ty36 HS CT (.tmp rfl (.tmp rfl .nil))) ?_ ?_
      · rw [e1, e2, hwk]; rfl
      · exact SU
    ·
      have hne : xs.isEmpty = false := by simpa using h32
      have hwk : woke w xs x = true := by simp [woke, h22', hne]
      have e1 : sigI w xs x = xs.headD (0, 0) := by simp [sigI, hwk]
      have e2 : sigV w xs x = orb w x := by simp [sigV, hwk]
      have e3 : sigW w xs x = 0 := by simp [sigW, hwk]
      have e4 : sigL w xs x = xs.tail := by simp [sigL, hwk]
      refine J_skip <| qx <| mv rfl rfl <| nc rfl rfl <| fa rfl rfl fa126_0 <| L_val rfl (v_loadL rfl ty37 HS rfl (by exact rfl)) ?_
      refine ag rfl rfl <| nx <| mv rfl rfl <| nc rfl rfl <| fa rfl rfl fa126_0 <| L_op <| x_storeL rfl rfl ty37 rfl SM SM rfl RO rfl PT ?_
      refine nx <| L_val rfl (v_loadA rfl ty36 HS CT) ?_
      refine mv rfl rfl <| L_op <| x_store rfl rfl ty36 rfl SM SM RO PT ?_
      refine ag rfl rfl <| ag rfl rfl <| nq <| J_ret <| J_ntS (b := b) (o := o) (w := 0) (xs := xs.tail) PX trivial ?_
      refine J_asTo (B := ntA b o (sigW w xs x) (sigL w xs x)) (by first | (rw [e3, e4]; done) | (rw [e3, e4]; rfl)) ?_
      refine J_return (()) Tryz.results68 (.cellA rfl ty36 HS CT (.tmp rfl (.tmp rfl .nil))) ?_ ?_
      · rw [e1, e2, hwk]; rfl
      · exact SU

def isM (i : ID) (m : Msg) : Bool := decide (m.1.1 = i.1 ∧ m.1.2 = i.2)
def isR (i : ID) (r : Rcv) : Bool := decide (r.1.1 = i.1 ∧ r.1.2 = i.2)
theorem isM_eq (i : ID) (c : Msg) : isM i c = decide (c.1 = i) := by unfold isM; rw [decide_eq_decide]; exact Prod.ext_iff.symm
theorem isR_eq (i : ID) (c : Rcv) : isR i c = decide (c.1 = i) := by unfold isR; rw [decide_eq_decide]; exact Prod.ext_iff.symm
abbrev mdrop (xs : List Msg) (i : ID) : List Msg := xs.filter fun c => !isM i c
abbrev rdrop (xs : List Rcv) (i : ID) : List Rcv := xs.filter fun c => !isR i c
theorem encM_one (c : Msg) : ones (encM c) = true := rfl
theorem encM_len (c : Msg) : (encM c).length = 5 := rfl
theorem encR_one (c : Rcv) : ones (encR c) = true := rfl
theorem encR_len (c : Rcv) : (encR c).length = 3 := rfl
theorem encT_one (c : Tm) : ones (encT c) = true := rfl
theorem encT_len (c : Tm) : (encT c).length = 3 := rfl
def isTm (i : ID) (c : Tm) : Bool := decide (c.2.1 = i.1 ∧ c.2.2 = i.2)
theorem isTm_eq (i : ID) (c : Tm) : isTm i c = decide (c.2 = i) := by unfold isTm; rw [decide_eq_decide]; exact Prod.ext_iff.symm
abbrev tdrop (xs : List Tm) (i : ID) : List Tm := xs.filter fun c => !isTm i c
set_option maxRecDepth 100000 in
set_option maxHeartbeats 4000000 in
theorem indexfunc123 {E : World} {l : List As} {v : Value} {α : Type} {enc : α → List Value} {xs : List α} {g : FuncId} {caps : Array Value} {fn : Func} (hf : Tryz.prog.funcs[g]? = some fn) (hn : (fn.name == "runtime.NumGoroutine") = false) (hb : fn.body.isNone = false) {q : α → Bool} {C : As} (hg : ∀ (l' : List As) (c : α), Has C l' → Con Tryz.prog g (#[.agg (enc c).toArray] ++ caps) E l' (fun _ : Unit => .bool (q c)) (fun _ => l')) (hv : Has (row 71 5 v (xs.map enc)) l) (hc : Has C l) :
    Con Tryz.prog 123 #[v, .func (.func g) #[] caps] E l (fun _ : Unit => .int .i64 (idx q xs)) (fun _ => l) := by
  refine Con.body (vs := [v, .func (.func g) #[] caps]) (n := 19) Tryz.func123 rfl rfl [(0, v), (1, .func (.func g) #[] caps)] (env_ok 2 rfl) <| J_row hv fun hw a cap hv h1 h2 h3 => ?_
  subst hv
  have hm : cap ≤ 9223372036854775807 := h2
  have hml : (xs.map enc).length = xs.length := List.length_map _
  refine sr <| ag rfl rfl <| nxx <| mv rfl rfl <| L_pur rfl (p_len rfl Tryz.underlying118) <| mv rfl rfl <| nq <| J_block ?_
  refine J_loop (α := Nat) (fun i => i ≤ xs.length ∧ ∀ c ∈ xs.take i, q c = false) (fun _ => l) (fun i => [(8, .int .i64 (i : Int)), (7, .int .i64 (xs.map enc).length), (0, .slice a (xs.map enc).length cap), (1, .func (.func g) #[] caps)]) (fun i => xs.length - i) 0 ⟨by omega, by simp⟩ SU KE ?_
  intro i ⟨hi, hq⟩
  refine sr <| L_pur rfl (p_lss rfl rfl) <| nq <| J_seq ?_
  refine C_dec rfl (fun h9 => ?_) (fun h9 => ?_)
  ·
    have hlt : i < xs.length := by omega
    obtain ⟨b, o, rfl⟩ := h3 (by intro h; rw [h] at hml; simp at hml; omega)
    obtain ⟨c, hcc⟩ : ∃ c, xs[i]? = some c := ⟨_, List.getElem?_eq_getElem hlt⟩
    refine J_skip <| Q_then <| J_seq <| J_block <| sr <| mv rfl rfl <| ag rfl rfl <| nx ?_
    refine mv rfl rfl <| mv rfl rfl <| mv rfl rfl <| L_pur rfl (p_indexAddr rfl rfl Tryz.underlying118 ty71 (by omega) (by omega)) ?_
    refine L_val rfl (v_loadE rfl ty71 HS (by simp only [Int.toNat_natCast, List.getElem?_map, hcc]; rfl)) ?_
    refine L_op <| x_callc rfl hf hn hb (.cons rfl .nil) rfl (hg _ c hc) fun _ => nq ?_
    refine C_split rfl (fun h16 => ?_) (fun h16 => ?_)
    ·
      have hidx := idx_here hq hcc h16
      refine sr <| mv rfl rfl <| ag rfl rfl <| nq <| J_ret <| Q_blk_ret <| Q_then_ret <| Q_then_ret ?_
      refine Q_blk_ret <| Q_then_ret ?_
      refine J_return (()) Tryz.results123 (.tmp rfl .nil) ?_ ?_
      · simp [one, hidx]
      · exact SU
    ·
      refine J_skip <| Q_blk_normal <| qr <| L_pur rfl (p_add64 rfl rfl (by omega)) <| mv rfl rfl <| nq ?_
      exact J_again (i + 1) (by omega) (⟨by omega, take_false_succ hq hcc h16⟩) SU KE
  ·
    have hix : i = xs.length := by omega
    rw [hix, List.take_length] at hq
    have hidx := idx_none hq
    refine J_exit <| Q_then_exit <| Q_then_exit <| Q_blk_this <| qx <| ag rfl rfl <| nq <| J_ret ?_
    refine J_return (()) Tryz.results123 (.tmp rfl .nil) ?_ ?_
    · simp [one, hidx]
    · exact SU

set_option maxRecDepth 100000 in
set_option maxHeartbeats 4000000 in
theorem indexfunc124 {E : World} {l : List As} {v : Value} {α : Type} {enc : α → List Value} {xs : List α} {g : FuncId} {caps : Array Value} {fn : Func} (hf : Tryz.prog.funcs[g]? = some fn) (hn : (fn.name == "runtime.NumGoroutine") = false) (hb : fn.body.isNone = false) {q : α → Bool} {C : As} (hg : ∀ (l' : List As) (c : α), Has C l' → Con Tryz.prog g (#[.agg (enc c).toArray] ++ caps) E l' (fun _ : Unit => .bool (q c)) (fun _ => l')) (hv : Has (row 77 3 v (xs.map enc)) l) (hc : Has C l) :
    Con Tryz.prog 124 #[v, .func (.func g) #[] caps] E l (fun _ : Unit => .int .i64 (idx q xs)) (fun _ => l) := by
  refine Con.body (vs := [v, .func (.func g) #[] caps]) (n := 19) Tryz.func124 rfl rfl [(0, v), (1, .func (.func g) #[] caps)] (env_ok 2 rfl) <| J_row hv fun hw a cap hv h1 h2 h3 => ?_
  subst hv
  have hm : cap ≤ 9223372036854775807 := h2
  have hml : (xs.map enc).length = xs.length := List.length_map _
  refine sr <| ag rfl rfl <| nxx <| mv rfl rfl <| L_pur rfl (p_len rfl Tryz.underlying119) <| mv rfl rfl <| nq <| J_block ?_
  refine J_loop (α := Nat) (fun i => i ≤ xs.length ∧ ∀ c ∈ xs.take i, q c = false) (fun _ => l) (fun i => [(8, .int .i64 (i : Int)), (7, .int .i64 (xs.map enc).length), (0, .slice a (xs.map enc).length cap), (1, .func (.func g) #[] caps)]) (fun i => xs.length - i) 0 ⟨by omega, by simp⟩ SU KE ?_
  intro i ⟨hi, hq⟩
  refine sr <| L_pur rfl (p_lss rfl rfl) <| nq <| J_seq ?_
  refine C_dec rfl (fun h9 => ?_) (fun h9 => ?_)
  ·
    have hlt : i < xs.length := by omega
    obtain ⟨b, o, rfl⟩ := h3 (by intro h; rw [h] at hml; simp at hml; omega)
    obtain ⟨c, hcc⟩ : ∃ c, xs[i]? = some c := ⟨_, List.getElem?_eq_getElem hlt⟩
    refine J_skip <| Q_then <| J_seq <| J_block <| sr <| mv rfl rfl <| ag rfl rfl <| nx ?_
    refine mv rfl rfl <| mv rfl rfl <| mv rfl rfl <| L_pur rfl (p_indexAddr rfl rfl Tryz.underlying119 ty77 (by omega) (by omega)) ?_
    refine L_val rfl (v_loadE rfl ty77 HS (by simp only [Int.toNat_natCast, List.getElem?_map, hcc]; rfl)) ?_
    refine L_op <| x_callc rfl hf hn hb (.cons rfl .nil) rfl (hg _ c hc) fun _ => nq ?_
    refine C_split rfl (fun h16 => ?_) (fun h16 => ?_)
    ·
      have hidx := idx_here hq hcc h16
      refine sr <| mv rfl rfl <| ag rfl rfl <| nq <| J_ret <| Q_blk_ret <| Q_then_ret <| Q_then_ret ?_
      refine Q_blk_ret <| Q_then_ret ?_
      refine J_return (()) Tryz.results124 (.tmp rfl .nil) ?_ ?_
      · simp [one, hidx]
      · exact SU
    ·
      refine J_skip <| Q_blk_normal <| qr <| L_pur rfl (p_add64 rfl rfl (by omega)) <| mv rfl rfl <| nq ?_
      exact J_again (i + 1) (by omega) (⟨by omega, take_false_succ hq hcc h16⟩) SU KE
  ·
    have hix : i = xs.length := by omega
    rw [hix, List.take_length] at hq
    have hidx := idx_none hq
    refine J_exit <| Q_then_exit <| Q_then_exit <| Q_blk_this <| qx <| ag rfl rfl <| nq <| J_ret ?_
    refine J_return (()) Tryz.results124 (.tmp rfl .nil) ?_ ?_
    · simp [one, hidx]
    · exact SU

set_option maxRecDepth 100000 in
set_option maxHeartbeats 4000000 in
theorem deletefunc92 {E : World} {l m : List As} {v : Value} {α : Type} {enc : α → List Value} {xs : List α} {g : FuncId} {caps : Array Value} {fn : Func} (hf : Tryz.prog.funcs[g]? = some fn) (hn : (fn.name == "runtime.NumGoroutine") = false) (hb : fn.body.isNone = false) {q : α → Bool} {C : As} (hg : ∀ (l' : List As) (c : α), Has C l' → Con Tryz.prog g (#[.agg (enc c).toArray] ++ caps) E l' (fun _ : Unit => .bool (q c)) (fun _ => l')) (hv : Pick (row 71 5 v (xs.map enc)) l m) (hc : Has C m) (hone : ∀ c, ones (enc c) = true) (hlen : ∀ c, (enc c).length = 5) :
  Con Tryz.prog 92 #[v, .func (.func g) #[] caps] E l (fun v' : Value => v') (fun v' => row 71 5 v' ((xs.filter fun c => !q c).map enc) :: m) := by
 rcases idx_cases q xs with ⟨hi0, hall⟩ | ⟨i0, hi0, hlt0, hpre, c0, hc0, hq0⟩
 ·
  refine Con.body (vs := [v, .func (.func g) #[] caps]) (n := 42) Tryz.func92 rfl rfl [(0, v), (1, .func (.func g) #[] caps)] (env_ok 2 rfl) <| J_pick hv <| sr <| ag rfl rfl <| nx <| mv rfl rfl <| mv rfl rfl <| L_op <| x_call Tryz.func123 nm123 bd123 (.cons rfl (.cons rfl .nil)) rfl (indexfunc123 hf hn hb hg .here (.there hc)) fun _ => ?_
  refine ag rfl rfl <| nxx <| mv rfl rfl <| L_pur rfl (p_eql rfl rfl) <| nq <| J_bool (t := 12) (c := true) rfl (by simp [hi0]) <| C_true rfl <| sr ?_
  refine J_rowEq (ys := (xs.filter fun c => !q c).map enc) (by rw [List.filter_eq_self.2 (fun c hc => by simp [hall c hc])]) <| mv rfl rfl <| ag rfl rfl <| nq <| J_ret <| Q_then_ret ?_
  exact J_return (_) Tryz.results92 (.tmp rfl .nil) rfl SU
 ·
  refine Con.body (vs := [v, .func (.func g) #[] caps]) (n := 42) Tryz.func92 rfl rfl [(0, v), (1, .func (.func g) #[] caps)] (env_ok 2 rfl) <| J_pick hv <| J_row .here fun hw a cap hv h1 h2 h3 => ?_
  obtain ⟨b, o, rfl⟩ := h3 (by intro h; have := congrArg List.length h; simp at this; subst this; simp at hlt0)
  subst hv
  have hm : cap ≤ 9223372036854775807 := h2
  have hml : (xs.map enc).length = xs.length := List.length_map _
  have hk0 : kept q xs (i0 + 1) = xs.take i0 := kept_first hpre hc0 hq0
  have hl0 : (xs.take i0).length = i0 := by simp; omega
  refine sr <| ag rfl rfl <| nx <| mv rfl rfl <| mv rfl rfl <| L_op <| x_call Tryz.func123 nm123 bd123 (.cons rfl (.cons rfl .nil)) rfl (indexfunc123 hf hn hb hg .here (.there hc)) fun _ => J_slot (t := 10) (v := .int .i64 (i0 : Int)) rfl (by rw [hi0]) ?_
  refine ag rfl rfl <| nxx <| mv rfl rfl <| L_pur rfl (p_eql rfl rfl) <| nq <| J_bool (t := 12) (c := false) rfl (by simp) <| C_false rfl <| J_skip ?_
  refine Q_then <| J_seq <| sr <| mv rfl rfl <| L_pur rfl (p_add64 rfl rfl (by omega)) <| ag rfl rfl <| nq <| J_block ?_
  refine J_rowEq (ys := (kept q xs (i0 + 1) ++ xs.drop (kept q xs (i0 + 1)).length).map enc) (by rw [hk0, hl0, List.take_append_drop]) <| J_slot (t := 5) (v := .int .i64 ((kept q xs (i0 + 1)).length : Int)) rfl (by rw [hk0, hl0]) <| J_loop (α := Nat) (fun j => j ≤ xs.length) (fun j => row 71 5 (.slice (some ⟨b, o, none⟩) (xs.map enc).length cap) ((kept q xs j ++ xs.drop (kept q xs j).length).map enc) :: m) (fun j => [(6, .int .i64 (j : Int)), (5, .int .i64 ((kept q xs j).length : Int)), (0, .slice (some ⟨b, o, none⟩) (xs.map enc).length cap), (1, .func (.func g) #[] caps)]) (fun j => xs.length - j) (i0 + 1) (by omega) SU KE ?_
  intro j hj
  have hkl := kept_le q xs j
  refine J_seq <| sr <| mv rfl rfl <| mv rfl rfl <| L_pur rfl (p_len rfl Tryz.underlying118) <| L_pur rfl (p_lss rfl rfl) <| nq ?_
  refine C_dec rfl (fun h19 => ?_) (fun h19 => ?_)
  ·
   have hlt : j < xs.length := by omega
   obtain ⟨c, hcc⟩ : ∃ c, xs[j]? = some c := ⟨_, List.getElem?_eq_getElem hlt⟩
   refine J_skip <| Q_then <| J_seq <| J_block <| sr <| mv rfl rfl <| mv rfl rfl <| L_pur rfl (p_indexAddr rfl rfl Tryz.underlying118 ty71 (by omega) (by omega)) ?_
   refine L_val rfl (v_loadE rfl ty71 HS (by simp only [Int.toNat_natCast, List.getElem?_map, kept_get, hcc]; rfl)) ?_
   refine L_op <| x_alloc ty71 rfl fun b7 => L_op <| x_store rfl rfl ty71 rfl SM SM RO PT ?_
   refine nx <| mv rfl rfl <| L_val rfl (v_loadA rfl ty71 HS CT) ?_
   refine L_op <| x_callc rfl hf hn hb (.cons rfl .nil) rfl (hg _ c (.there (.there hc))) fun _ => L_pur rfl (p_not rfl) <| nq ?_
   refine C_split rfl (fun h29 => ?_) (fun h29 => ?_)
   ·
    have hqc : q c = false := by simpa using h29
    have hks := kept_set hcc hqc
    have hkl1 : (kept q xs (j + 1)).length = (kept q xs j).length + 1 := by rw [kept_succ hcc, hqc]; simp
    refine sr <| mv rfl rfl <| mv rfl rfl <| L_val rfl (v_loadA rfl ty71 HS CT) ?_
    refine L_pur rfl (p_indexAddr rfl rfl Tryz.underlying118 ty71 (by omega) (by omega)) <| L_op <| x_storeE (vs := enc c) rfl rfl ty71 rfl (hlen c) (hone c) PC (OM) ?_
    refine J_rowEq (ys := (kept q xs (j + 1) ++ xs.drop (kept q xs (j + 1)).length).map enc) (by rw [← hks, List.map_set]; simp) <| ny <| mv rfl rfl <| L_pur rfl (p_add64 rfl rfl (by omega)) <| ag rfl rfl <| L_nil <| Q_blk_normal <| qr ?_
    refine mv rfl rfl <| L_pur rfl (p_add64 rfl rfl (by omega)) <| ag rfl rfl <| nq <| J_slot (t := 5) (v := .int .i64 ((kept q xs (j + 1)).length : Int)) rfl (by rw [hkl1]; rfl) ?_
    exact J_again (j + 1) (by omega) (by omega) SU KE
   ·
    have hqc : q c = true := by simpa using h29
    have hks : kept q xs (j + 1) = kept q xs j := by rw [kept_succ hcc, hqc]; simp
    refine J_skip <| Q_blk_normal <| qr <| mv rfl rfl <| L_pur rfl (p_add64 rfl rfl (by omega)) <| ag rfl rfl <| nq <| J_slot (t := 5) (v := .int .i64 ((kept q xs (j + 1)).length : Int)) rfl (by rw [hks]) ?_
    refine J_pick (A := row 71 5 (.slice (some ⟨b, o, none⟩) (xs.map enc).length cap) ((kept q xs j ++ xs.drop (kept q xs j).length).map enc)) PC ?_
    refine J_rowEq (ys := (kept q xs (j + 1) ++ xs.drop (kept q xs (j + 1)).length).map enc) (by rw [hks]) ?_
    exact J_again (j + 1) (by omega) (by omega) SU KE
  ·
   have hjx : j = xs.length := by omega
   have hka : kept q xs j = xs.filter fun c => !q c := kept_all (by omega)
   refine J_exit <| Q_then_exit <| Q_then_exit <| Q_blk_this <| qx <| mv rfl rfl <| mv rfl rfl <| L_pur rfl (p_slice rfl Tryz.underlying118 ty71 rfl rfl (by omega) (by omega) (by omega)) ?_
   refine L_op <| x_clear (len := (xs.map enc).length) rfl Tryz.underlying118 ty71 rfl rfl PC (OM) ?_
   refine nx <| mv rfl rfl <| mv rfl rfl <| L_pur rfl (p_slice rfl Tryz.underlying118 ty71 rfl rfl (by omega) (by omega) (by omega)) <| J_take (k := (kept q xs j).length) (OM) <| J_rowTo (v' := .slice (some ⟨b, o, none⟩) (kept q xs j).length cap) (ys := (xs.filter fun c => !q c).map enc) (by simp [hka]) rfl <| J_slot (t := 41) (v := .slice (some ⟨b, o, none⟩) (kept q xs j).length cap) rfl (by simp [Addr.add]) <| ag rfl rfl ?_
   refine nq <| J_ret ?_
   exact J_return (_) Tryz.results92 (.tmp rfl .nil) rfl SU

set_option maxRecDepth 100000 in
set_option maxHeartbeats 4000000 in
theorem deletefunc94 {E : World} {l m : List As} {v : Value} {α : Type} {enc : α → List Value} {xs : List α} {g : FuncId} {caps : Array Value} {fn : Func} (hf : Tryz.prog.funcs[g]? = some fn) (hn : (fn.name == "runtime.NumGoroutine") = false) (hb : fn.body.isNone = false) {q : α → Bool} {C : As} (hg : ∀ (l' : List As) (c : α), Has C l' → Con Tryz.prog g (#[.agg (enc c).toArray] ++ caps) E l' (fun _ : Unit => .bool (q c)) (fun _ => l')) (hv : Pick (row 77 3 v (xs.map enc)) l m) (hc : Has C m) (hone : ∀ c, ones (enc c) = true) (hlen : ∀ c, (enc c).length = 3) :
  Con Tryz.prog 94 #[v, .func (.func g) #[] caps] E l (fun v' : Value => v') (fun v' => row 77 3 v' ((xs.filter fun c => !q c).map enc) :: m) := by
 rcases idx_cases q xs with ⟨hi0, hall⟩ | ⟨i0, hi0, hlt0, hpre, c0, hc0, hq0⟩
 ·
  refine Con.body (vs := [v, .func (.func g) #[] caps]) (n := 42) Tryz.func94 rfl rfl [(0, v), (1, .func (.func g) #[] caps)] (env_ok 2 rfl) <| J_pick hv <| sr <| ag rfl rfl <| nx <| mv rfl rfl <| mv rfl rfl <| L_op <| x_call Tryz.func124 nm124 bd124 (.cons rfl (.cons rfl .nil)) rfl (indexfunc124 hf hn hb hg .here (.there hc)) fun _ => ?_
  refine ag rfl rfl <| nxx <| mv rfl rfl <| L_pur rfl (p_eql rfl rfl) <| nq <| J_bool (t := 12) (c := true) rfl (by simp [hi0]) <| C_true rfl <| sr ?_
  refine J_rowEq (ys := (xs.filter fun c => !q c).map enc) (by rw [List.filter_eq_self.2 (fun c hc => by simp [hall c hc])]) <| mv rfl rfl <| ag rfl rfl <| nq <| J_ret <| Q_then_ret ?_
  exact J_return (_) Tryz.results94 (.tmp rfl .nil) rfl SU
 ·
  refine Con.body (vs := [v, .func (.func g) #[] caps]) (n := 42) Tryz.func94 rfl rfl [(0, v), (1, .func (.func g) #[] caps)] (env_ok 2 rfl) <| J_pick hv <| J_row .here fun hw a cap hv h1 h2 h3 => ?_
  obtain ⟨b, o, rfl⟩ := h3 (by intro h; have := congrArg List.length h; simp at this; subst this; simp at hlt0)
  subst hv
  have hm : cap ≤ 9223372036854775807 := h2
  have hml : (xs.map enc).length = xs.length := List.length_map _
  have hk0 : kept q xs (i0 + 1) = xs.take i0 := kept_first hpre hc0 hq0
  have hl0 : (xs.take i0).length = i0 := by simp; omega
  refine sr <| ag rfl rfl <| nx <| mv rfl rfl <| mv rfl rfl <| L_op <| x_call Tryz.func124 nm124 bd124 (.cons rfl (.cons rfl .nil)) rfl (indexfunc124 hf hn hb hg .here (.there hc)) fun _ => J_slot (t := 10) (v := .int .i64 (i0 : Int)) rfl (by rw [hi0]) ?_
  refine ag rfl rfl <| nxx <| mv rfl rfl <| L_pur rfl (p_eql rfl rfl) <| nq <| J_bool (t := 12) (c := false) rfl (by simp) <| C_false rfl <| J_skip ?_
  refine Q_then <| J_seq <| sr <| mv rfl rfl <| L_pur rfl (p_add64 rfl rfl (by omega)) <| ag rfl rfl <| nq <| J_block ?_
  refine J_rowEq (ys := (kept q xs (i0 + 1) ++ xs.drop (kept q xs (i0 + 1)).length).map enc) (by rw [hk0, hl0, List.take_append_drop]) <| J_slot (t := 5) (v := .int .i64 ((kept q xs (i0 + 1)).length : Int)) rfl (by rw [hk0, hl0]) <| J_loop (α := Nat) (fun j => j ≤ xs.length) (fun j => row 77 3 (.slice (some ⟨b, o, none⟩) (xs.map enc).length cap) ((kept q xs j ++ xs.drop (kept q xs j).length).map enc) :: m) (fun j => [(6, .int .i64 (j : Int)), (5, .int .i64 ((kept q xs j).length : Int)), (0, .slice (some ⟨b, o, none⟩) (xs.map enc).length cap), (1, .func (.func g) #[] caps)]) (fun j => xs.length - j) (i0 + 1) (by omega) SU KE ?_
  intro j hj
  have hkl := kept_le q xs j
  refine J_seq <| sr <| mv rfl rfl <| mv rfl rfl <| L_pur rfl (p_len rfl Tryz.underlying119) <| L_pur rfl (p_lss rfl rfl) <| nq ?_
  refine C_dec rfl (fun h19 => ?_) (fun h19 => ?_)
  ·
   have hlt : j < xs.length := by omega
   obtain ⟨c, hcc⟩ : ∃ c, xs[j]? = some c := ⟨_, List.getElem?_eq_getElem hlt⟩
   refine J_skip <| Q_then <| J_seq <| J_block <| sr <| mv rfl rfl <| mv rfl rfl <| L_pur rfl (p_indexAddr rfl rfl Tryz.underlying119 ty77 (by omega) (by omega)) ?_
   refine L_val rfl (v_loadE rfl ty77 HS (by simp only [Int.toNat_natCast, List.getElem?_map, kept_get, hcc]; rfl)) ?_
   refine L_op <| x_alloc ty77 rfl fun b7 => L_op <| x_store rfl rfl ty77 rfl SM SM RO PT ?_
   refine nx <| mv rfl rfl <| L_val rfl (v_loadA rfl ty77 HS CT) ?_
   refine L_op <| x_callc rfl hf hn hb (.cons rfl .nil) rfl (hg _ c (.there (.there hc))) fun _ => L_pur rfl (p_not rfl) <| nq ?_
   refine C_split rfl (fun h29 => ?_) (fun h29 => ?_)
   ·
    have hqc : q c = false := by simpa using h29
    have hks := kept_set hcc hqc
    have hkl1 : (kept q xs (j + 1)).length = (kept q xs j).length + 1 := by rw [kept_succ hcc, hqc]; simp
    refine sr <| mv rfl rfl <| mv rfl rfl <| L_val rfl (v_loadA rfl ty77 HS CT) ?_
    refine L_pur rfl (p_indexAddr rfl rfl Tryz.underlying119 ty77 (by omega) (by omega)) <| L_op <| x_storeE (vs := enc c) rfl rfl ty77 rfl (hlen c) (hone c) PC (OM) ?_
    refine J_rowEq (ys := (kept q xs (j + 1) ++ xs.drop (kept q xs (j + 1)).length).map enc) (by rw [← hks, List.map_set]; simp) <| ny <| mv rfl rfl <| L_pur rfl (p_add64 rfl rfl (by omega)) <| ag rfl rfl <| L_nil <| Q_blk_normal <| qr ?_
    refine mv rfl rfl <| L_pur rfl (p_add64 rfl rfl (by omega)) <| ag rfl rfl <| nq <| J_slot (t := 5) (v := .int .i64 ((kept q xs (j + 1)).length : Int)) rfl (by rw [hkl1]; rfl) ?_
    exact J_again (j + 1) (by omega) (by omega) SU KE
   ·
    have hqc : q c = true := by simpa using h29
    have hks : kept q xs (j + 1) = kept q xs j := by rw [kept_succ hcc, hqc]; simp
    refine J_skip <| Q_blk_normal <| qr <| mv rfl rfl <| L_pur rfl (p_add64 rfl rfl (by omega)) <| ag rfl rfl <| nq <| J_slot (t := 5) (v := .int .i64 ((kept q xs (j + 1)).length : Int)) rfl (by rw [hks]) ?_
    refine J_pick (A := row 77 3 (.slice (some ⟨b, o, none⟩) (xs.map enc).length cap) ((kept q xs j ++ xs.drop (kept q xs j).length).map enc)) PC ?_
    refine J_rowEq (ys := (kept q xs (j + 1) ++ xs.drop (kept q xs (j + 1)).length).map enc) (by rw [hks]) ?_
    exact J_again (j + 1) (by omega) (by omega) SU KE
  ·
   have hjx : j = xs.length := by omega
   have hka : kept q xs j = xs.filter fun c => !q c := kept_all (by omega)
   refine J_exit <| Q_then_exit <| Q_then_exit <| Q_blk_this <| qx <| mv rfl rfl <| mv rfl rfl <| L_pur rfl (p_slice rfl Tryz.underlying119 ty77 rfl rfl (by omega) (by omega) (by omega)) ?_
   refine L_op <| x_clear (len := (xs.map enc).length) rfl Tryz.underlying119 ty77 rfl rfl PC (OM) ?_
   refine nx <| mv rfl rfl <| mv rfl rfl <| L_pur rfl (p_slice rfl Tryz.underlying119 ty77 rfl rfl (by omega) (by omega) (by omega)) <| J_take (k := (kept q xs j).length) (OM) <| J_rowTo (v' := .slice (some ⟨b, o, none⟩) (kept q xs j).length cap) (ys := (xs.filter fun c => !q c).map enc) (by simp [hka]) rfl <| J_slot (t := 41) (v := .slice (some ⟨b, o, none⟩) (kept q xs j).length cap) rfl (by simp [Addr.add]) <| ag rfl rfl ?_
   refine nq <| J_ret ?_
   exact J_return (_) Tryz.results94 (.tmp rfl .nil) rfl SU

set_option maxRecDepth 100000 in
set_option maxHeartbeats 4000000 in
theorem clone139 {E : World} {l : List As} {v : Value} {xs : List (List Value)} (hr : ∀ w, Sep E w l → Reads w 5 v xs) (hb : xs.length ≤ 1000000) :
  Con Tryz.prog 139 #[v] E l (fun v' : Value => v') (fun v' => row 71 5 v' xs :: l) := by
 refine Con.body (vs := [v]) (n := 8) Tryz.func139 rfl rfl [(0, v)] (env_ok 1 rfl) <| J_reads hr fun hw a cap hv h1 h2 h3 => ?_
 subst hv
 refine sr <| ag rfl rfl <| nxx <| mv rfl rfl <| L_pur rfl (p_eqnil Tryz.underlying118 rfl) <| nq ?_
 refine C_split rfl (fun h4 => ?_) (fun h4 => ?_)
 ·
  obtain rfl : a = none := by simpa using h4
  obtain ⟨rfl, rfl⟩ := h3 rfl
  refine J_nil (el := 71) (sz := 5) <| sr <| ag rfl rfl <| nq <| J_ret <| Q_then_ret ?_
  exact J_return (_) Tryz.results139 (.tmp rfl .nil) rfl SU
 ·
  refine J_skip <| qx <| L_op <| x_lit (vals := []) Tryz.underlying118 ty71 rfl .nil .nil Wf.nil rfl (by decide) rfl rfl <| JR fun a5 c5 hw5 hl5 hm5 hz5 => mv rfl rfl <| L_op <| x_app rfl rfl Tryz.underlying118 ty71 rfl rfl PC (fun w H => hr w H.tail) (OM) (OM) rfl ?_
  refine JR fun a7 c7 hw7 hl7 hm7 hz7 => ag rfl rfl <| nq <| J_ret ?_
  exact J_return (_) Tryz.results139 (.tmp rfl .nil) rfl SU

set_option maxRecDepth 100000 in
set_option maxHeartbeats 4000000 in
theorem clone140 {E : World} {l : List As} {v : Value} {xs : List (List Value)} (hr : ∀ w, Sep E w l → Reads w 3 v xs) (hb : xs.length ≤ 1000000) :
  Con Tryz.prog 140 #[v] E l (fun v' : Value => v') (fun v' => row 77 3 v' xs :: l) := by
 refine Con.body (vs := [v]) (n := 8) Tryz.func140 rfl rfl [(0, v)] (env_ok 1 rfl) <| J_reads hr fun hw a cap hv h1 h2 h3 => ?_
 subst hv
 refine sr <| ag rfl rfl <| nxx <| mv rfl rfl <| L_pur rfl (p_eqnil Tryz.underlying119 rfl) <| nq ?_
 refine C_split rfl (fun h4 => ?_) (fun h4 => ?_)
 ·
  obtain rfl : a = none := by simpa using h4
  obtain ⟨rfl, rfl⟩ := h3 rfl
  refine J_nil (el := 77) (sz := 3) <| sr <| ag rfl rfl <| nq <| J_ret <| Q_then_ret ?_
  exact J_return (_) Tryz.results140 (.tmp rfl .nil) rfl SU
 ·
  refine J_skip <| qx <| L_op <| x_lit (vals := []) Tryz.underlying119 ty77 rfl .nil .nil Wf.nil rfl (by decide) rfl rfl <| JR fun a5 c5 hw5 hl5 hm5 hz5 => mv rfl rfl <| L_op <| x_app rfl rfl Tryz.underlying119 ty77 rfl rfl PC (fun w H => hr w H.tail) (OM) (OM) rfl ?_
  refine JR fun a7 c7 hw7 hl7 hm7 hz7 => ag rfl rfl <| nq <| J_ret ?_
  exact J_return (_) Tryz.results140 (.tmp rfl .nil) rfl SU

set_option maxRecDepth 100000 in
set_option maxHeartbeats 4000000 in
theorem clo93 {E : World} {l : List As} {bc : Nat} {i : ID} {c : Msg} (hc : Has (blk bc 36 (encI i)) l) :
    Con Tryz.prog 93 #[.agg (encM c).toArray, .pointer (some ⟨bc, 0, none⟩)] E l (fun _ : Unit => .bool (isM i c)) (fun _ => l) := by
  refine Con.body (vs := [.agg (encM c).toArray, .pointer (some ⟨bc, 0, none⟩)]) (n := 8) Tryz.func93 rfl rfl [(0, .agg (encM c).toArray), (1, .pointer (some ⟨bc, 0, none⟩))] (env_ok 2 rfl) <| sr <| L_op <| x_box rfl rfl rfl fun b2 => ag rfl rfl <| nx <| fa rfl rfl fa71_0 <| L_val rfl (v_loadA rfl ty36 HS CT) ?_
  refine L_val rfl (v_loadA rfl ty36 HS CT) ?_
  refine L_pur rfl (p_eqv rfl rfl (fun w => eg36 _ _ _ _ _ w) (fun w => eqv36 _ _ _ _ w)) <| ag rfl rfl <| nq <| J_ret ?_
  exact J_return (()) Tryz.results93 (.tmp rfl .nil) rfl SU

set_option maxRecDepth 100000 in
set_option maxHeartbeats 4000000 in
theorem clo95 {E : World} {l : List As} {bc : Nat} {i : ID} {c : Rcv} (hc : Has (blk bc 36 (encI i)) l) :
    Con Tryz.prog 95 #[.agg (encR c).toArray, .pointer (some ⟨bc, 0, none⟩)] E l (fun _ : Unit => .bool (isR i c)) (fun _ => l) := by
  refine Con.body (vs := [.agg (encR c).toArray, .pointer (some ⟨bc, 0, none⟩)]) (n := 8) Tryz.func95 rfl rfl [(0, .agg (encR c).toArray), (1, .pointer (some ⟨bc, 0, none⟩))] (env_ok 2 rfl) <| sr <| L_op <| x_box rfl rfl rfl fun b2 => ag rfl rfl <| nx <| fa rfl rfl fa77_0 <| L_val rfl (v_loadA rfl ty36 HS CT) ?_
  refine L_val rfl (v_loadA rfl ty36 HS CT) ?_
  refine L_pur rfl (p_eqv rfl rfl (fun w => eg36 _ _ _ _ _ w) (fun w => eqv36 _ _ _ _ w)) <| ag rfl rfl <| nq <| J_ret ?_
  exact J_return (()) Tryz.results95 (.tmp rfl .nil) rfl SU

set_option maxRecDepth 100000 in
set_option maxHeartbeats 4000000 in
theorem epDropC {E : World} {l m : List As} {b : Nat} {out : List Msg} {inn : List Rcv} (hp : Pick (epA b out inn) l m) (hbo : out.length ≤ 100000) (hbi : inn.length ≤ 100000) {i : ID} :
    Con Tryz.prog 62 #[.pointer (some ⟨b, 0, none⟩), .agg (encI i).toArray] E l (fun _ : Unit => .bool (decide ((mdrop out i).length + (rdrop inn i).length < out.length + inn.length))) (fun _ => epA b (mdrop out i) (rdrop inn i) :: m) := by
  refine Con.body (vs := [.pointer (some ⟨b, 0, none⟩), .agg (encI i).toArray]) (n := 48) Tryz.func62 rfl rfl [(0, .pointer (some ⟨b, 0, none⟩)), (1, .agg (encI i).toArray)] (env_ok 2 rfl) <| J_pick hp <| J_epO fun vo vi _ => J_row (.there .here) fun hw a cap hv h1 h2 h3 => ?_
  subst hv
  refine J_row (.there (.there .here)) fun hw' a' cap' hv h1' h2' h3' => ?_
  subst hv
  refine sr <| L_op <| x_box rfl rfl rfl fun b3 => ag rfl rfl <| nq <| J_seq <| J_drawS mixed (by kernel_rfl) <| sm rfl rfl ?_
  refine sp rfl (p_nilCheck rfl) <| sp rfl (p_fieldAddr rfl fa121_0) <| S_val rfl (v_load rfl ty118 HS (by exact rfl)) ?_
  refine sp rfl (p_len rfl Tryz.underlying118) <| sm rfl rfl <| sp rfl (p_nilCheck rfl) <| sp rfl (p_fieldAddr rfl fa121_1) <| S_val rfl (v_load rfl ty119 HS (by exact rfl)) ?_
  refine sp rfl (p_len rfl Tryz.underlying119) <| sp rfl (p_add64 rfl rfl (by simp; omega)) <| sp rfl (p_assign rfl) <| sq <| sr <| mv rfl rfl <| mv rfl rfl <| nc rfl rfl ?_
  refine fa rfl rfl fa121_0 <| L_val rfl (v_load rfl ty118 HS (by exact rfl)) ?_
  refine L_pur rfl (p_makeFunc (.cons rfl .nil)) <| L_op <| x_call Tryz.func92 nm92 bd92 (.cons rfl (.cons rfl .nil)) rfl (deletefunc92 (xs := out) (enc := encM) (q := isM i) (C := blk b3 36 (encI i)) Tryz.func93 nm93 bd93 (fun l' c hc => clo93 hc) PC HS encM_one encM_len) <| JR fun a23 c23 hw23 hl23 hm23 hz23 => nc rfl rfl <| fa rfl rfl fa121_0 <| L_op <| x_store rfl rfl ty118 rfl SM SM RO PT ?_
  refine nx <| mv rfl rfl <| mv rfl rfl <| nc rfl rfl <| fa rfl rfl fa121_1 <| L_val rfl (v_load rfl ty119 HS (by exact rfl)) ?_
  refine L_pur rfl (p_makeFunc (.cons rfl .nil)) <| L_op <| x_call Tryz.func94 nm94 bd94 (.cons rfl (.cons rfl .nil)) rfl (deletefunc94 (xs := inn) (enc := encR) (q := isR i) (C := blk b3 36 (encI i)) Tryz.func95 nm95 bd95 (fun l' c hc => clo95 hc) PC HS encR_one encR_len) <| JR fun a32 c32 hw32 hl32 hm32 hz32 => nc rfl rfl <| fa rfl rfl fa121_1 <| L_op <| x_store rfl rfl ty119 rfl SM SM RO PT ?_
  refine nq <| J_seq <| J_drawS mixed (by kernel_rfl) <| sm rfl rfl <| sp rfl (p_nilCheck rfl) <| sp rfl (p_fieldAddr rfl fa121_0) <| S_val rfl (v_load rfl ty118 HS (by exact rfl)) ?_
  refine sp rfl (p_len rfl Tryz.underlying118) <| sm rfl rfl <| sp rfl (p_nilCheck rfl) <| sp rfl (p_fieldAddr rfl fa121_1) <| S_val rfl (v_load rfl ty119 HS (by exact rfl)) ?_
  refine sp rfl (p_len rfl Tryz.underlying119) <| sp rfl (p_add64 rfl rfl (by have := List.length_filter_le (fun c => !isM i c) out; have := List.length_filter_le (fun c => !isR i c) inn; simp; omega)) <| sm rfl rfl <| sp rfl (p_lss rfl rfl) <| sp rfl (p_assign rfl) <| sq <| J_ret <| J_epS (b := b) (out := (mdrop out i)) (inn := (rdrop inn i)) _ _ PX trivial ?_
  refine J_return (()) Tryz.results62 (.tmp rfl .nil) ?_ ?_
  · simp only [one, List.length_map, mdrop, rdrop]; congr 1; rw [decide_eq_decide]; omega
  · exact SU

set_option maxRecDepth 100000 in
set_option maxHeartbeats 4000000 in
theorem epSenders {E : World} {l m : List As} {b : Nat} {out : List Msg} {inn : List Rcv} (hp : Pick (epA b out inn) l m) (hbo : out.length ≤ 100000) (hbi : inn.length ≤ 100000) :
    Con Tryz.prog 116 #[.pointer (some ⟨b, 0, none⟩)] E l (fun v : Value => v) (fun v => row 71 5 v (out.map encM) :: epA b out inn :: m) := by
  refine Con.body (vs := [.pointer (some ⟨b, 0, none⟩)]) (n := 8) Tryz.func116 rfl rfl [(0, .pointer (some ⟨b, 0, none⟩))] (env_ok 1 rfl) <| J_pick hp <| J_epO fun vo vi _ => J_row (.there .here) fun hw a cap hv h1 h2 h3 => ?_
  subst hv
  refine J_row (.there (.there .here)) fun hw' a' cap' hv h1' h2' h3' => ?_
  subst hv
  refine sr <| ag rfl rfl <| nx <| mv rfl rfl <| nc rfl rfl <| fa rfl rfl fa121_0 <| L_val rfl (v_load rfl ty118 HS (by exact rfl)) ?_
  refine L_op <| x_call Tryz.func139 nm139 bd139 (.cons rfl .nil) rfl (clone139 (xs := out.map encM) (fun w H => sep_reads (xs := out.map encM) HS H) (by simp; omega)) <| JR fun a7 c7 hw7 hl7 hm7 hz7 => ag rfl rfl <| nq <| J_ret <| J_epS (b := b) (out := out) (inn := inn) _ _ PX trivial ?_
  exact J_return (_) Tryz.results116 (.tmp rfl .nil) rfl SU

set_option maxRecDepth 100000 in
set_option maxHeartbeats 4000000 in
theorem epReceivers {E : World} {l m : List As} {b : Nat} {out : List Msg} {inn : List Rcv} (hp : Pick (epA b out inn) l m) (hbo : out.length ≤ 100000) (hbi : inn.length ≤ 100000) :
    Con Tryz.prog 117 #[.pointer (some ⟨b, 0, none⟩)] E l (fun v : Value => v) (fun v => row 77 3 v (inn.map encR) :: epA b out inn :: m) := by
  refine Con.body (vs := [.pointer (some ⟨b, 0, none⟩)]) (n := 8) Tryz.func117 rfl rfl [(0, .pointer (some ⟨b, 0, none⟩))] (env_ok 1 rfl) <| J_pick hp <| J_epO fun vo vi _ => J_row (.there .here) fun hw a cap hv h1 h2 h3 => ?_
  subst hv
  refine J_row (.there (.there .here)) fun hw' a' cap' hv h1' h2' h3' => ?_
  subst hv
  refine sr <| ag rfl rfl <| nx <| mv rfl rfl <| nc rfl rfl <| fa rfl rfl fa121_1 <| L_val rfl (v_load rfl ty119 HS (by exact rfl)) ?_
  refine L_op <| x_call Tryz.func140 nm140 bd140 (.cons rfl .nil) rfl (clone140 (xs := inn.map encR) (fun w H => sep_reads (xs := inn.map encR) HS H) (by simp; omega)) <| JR fun a7 c7 hw7 hl7 hm7 hz7 => ag rfl rfl <| nq <| J_ret <| J_epS (b := b) (out := out) (inn := inn) _ _ PX trivial ?_
  exact J_return (_) Tryz.results117 (.tmp rfl .nil) rfl SU

set_option maxRecDepth 100000 in
set_option maxHeartbeats 4000000 in
theorem indexfunc109 {E : World} {l : List As} {v : Value} {α : Type} {enc : α → List Value} {xs : List α} {g : FuncId} {caps : Array Value} {fn : Func} (hf : Tryz.prog.funcs[g]? = some fn) (hn : (fn.name == "runtime.NumGoroutine") = false) (hb : fn.body.isNone = false) {q : α → Bool} {C : As} (hg : ∀ (l' : List As) (c : α), Has C l' → Con Tryz.prog g (#[.agg (enc c).toArray] ++ caps) E l' (fun _ : Unit => .bool (q c)) (fun _ => l')) (hv : Has (row 140 3 v (xs.map enc)) l) (hc : Has C l) :
    Con Tryz.prog 109 #[v, .func (.func g) #[] caps] E l (fun _ : Unit => .int .i64 (idx q xs)) (fun _ => l) := by
  refine Con.body (vs := [v, .func (.func g) #[] caps]) (n := 19) Tryz.func109 rfl rfl [(0, v), (1, .func (.func g) #[] caps)] (env_ok 2 rfl) <| J_row hv fun hw a cap hv h1 h2 h3 => ?_
  subst hv
  have hm : cap ≤ 9223372036854775807 := h2
  have hml : (xs.map enc).length = xs.length := List.length_map _
  refine sr <| ag rfl rfl <| nxx <| mv rfl rfl <| L_pur rfl (p_len rfl Tryz.underlying111) <| mv rfl rfl <| nq <| J_block ?_
  refine J_loop (α := Nat) (fun i => i ≤ xs.length ∧ ∀ c ∈ xs.take i, q c = false) (fun _ => l) (fun i => [(8, .int .i64 (i : Int)), (7, .int .i64 (xs.map enc).length), (0, .slice a (xs.map enc).length cap), (1, .func (.func g) #[] caps)]) (fun i => xs.length - i) 0 ⟨by omega, by simp⟩ SU KE ?_
  intro i ⟨hi, hq⟩
  refine sr <| L_pur rfl (p_lss rfl rfl) <| nq <| J_seq ?_
  refine C_dec rfl (fun h9 => ?_) (fun h9 => ?_)
  ·
    have hlt : i < xs.length := by omega
    obtain ⟨b, o, rfl⟩ := h3 (by intro h; rw [h] at hml; simp at hml; omega)
    obtain ⟨c, hcc⟩ : ∃ c, xs[i]? = some c := ⟨_, List.getElem?_eq_getElem hlt⟩
    refine J_skip <| Q_then <| J_seq <| J_block <| sr <| mv rfl rfl <| ag rfl rfl <| nx ?_
    refine mv rfl rfl <| mv rfl rfl <| mv rfl rfl <| L_pur rfl (p_indexAddr rfl rfl Tryz.underlying111 ty140 (by omega) (by omega)) ?_
    refine L_val rfl (v_loadE rfl ty140 HS (by simp only [Int.toNat_natCast, List.getElem?_map, hcc]; rfl)) ?_
    refine L_op <| x_callc rfl hf hn hb (.cons rfl .nil) rfl (hg _ c hc) fun _ => nq ?_
    refine C_split rfl (fun h16 => ?_) (fun h16 => ?_)
    ·
      have hidx := idx_here hq hcc h16
      refine sr <| mv rfl rfl <| ag rfl rfl <| nq <| J_ret <| Q_blk_ret <| Q_then_ret <| Q_then_ret ?_
      refine Q_blk_ret <| Q_then_ret ?_
      refine J_return (()) Tryz.results109 (.tmp rfl .nil) ?_ ?_
      · simp [one, hidx]
      · exact SU
    ·
      refine J_skip <| Q_blk_normal <| qr <| L_pur rfl (p_add64 rfl rfl (by omega)) <| mv rfl rfl <| nq ?_
      exact J_again (i + 1) (by omega) (⟨by omega, take_false_succ hq hcc h16⟩) SU KE
  ·
    have hix : i = xs.length := by omega
    rw [hix, List.take_length] at hq
    have hidx := idx_none hq
    refine J_exit <| Q_then_exit <| Q_then_exit <| Q_blk_this <| qx <| ag rfl rfl <| nq <| J_ret ?_
    refine J_return (()) Tryz.results109 (.tmp rfl .nil) ?_ ?_
    · simp [one, hidx]
    · exact SU

set_option maxRecDepth 100000 in
set_option maxHeartbeats 4000000 in
theorem deletefunc72 {E : World} {l m : List As} {v : Value} {α : Type} {enc : α → List Value} {xs : List α} {g : FuncId} {caps : Array Value} {fn : Func} (hf : Tryz.prog.funcs[g]? = some fn) (hn : (fn.name == "runtime.NumGoroutine") = false) (hb : fn.body.isNone = false) {q : α → Bool} {C : As} (hg : ∀ (l' : List As) (c : α), Has C l' → Con Tryz.prog g (#[.agg (enc c).toArray] ++ caps) E l' (fun _ : Unit => .bool (q c)) (fun _ => l')) (hv : Pick (row 140 3 v (xs.map enc)) l m) (hc : Has C m) (hone : ∀ c, ones (enc c) = true) (hlen : ∀ c, (enc c).length = 3) :
  Con Tryz.prog 72 #[v, .func (.func g) #[] caps] E l (fun v' : Value => v') (fun v' => row 140 3 v' ((xs.filter fun c => !q c).map enc) :: m) := by
 rcases idx_cases q xs with ⟨hi0, hall⟩ | ⟨i0, hi0, hlt0, hpre, c0, hc0, hq0⟩
 ·
  refine Con.body (vs := [v, .func (.func g) #[] caps]) (n := 42) Tryz.func72 rfl rfl [(0, v), (1, .func (.func g) #[] caps)] (env_ok 2 rfl) <| J_pick hv <| sr <| ag rfl rfl <| nx <| mv rfl rfl <| mv rfl rfl <| L_op <| x_call Tryz.func109 nm109 bd109 (.cons rfl (.cons rfl .nil)) rfl (indexfunc109 hf hn hb hg .here (.there hc)) fun _ => ?_
  refine ag rfl rfl <| nxx <| mv rfl rfl <| L_pur rfl (p_eql rfl rfl) <| nq <| J_bool (t := 12) (c := true) rfl (by simp [hi0]) <| C_true rfl <| sr ?_
  refine J_rowEq (ys := (xs.filter fun c => !q c).map enc) (by rw [List.filter_eq_self.2 (fun c hc => by simp [hall c hc])]) <| mv rfl rfl <| ag rfl rfl <| nq <| J_ret <| Q_then_ret ?_
  exact J_return (_) Tryz.results72 (.tmp rfl .nil) rfl SU
 ·
  refine Con.body (vs := [v, .func (.func g) #[] caps]) (n := 42) Tryz.func72 rfl rfl [(0, v), (1, .func (.func g) #[] caps)] (env_ok 2 rfl) <| J_pick hv <| J_row .here fun hw a cap hv h1 h2 h3 => ?_
  obtain ⟨b, o, rfl⟩ := h3 (by intro h; have := congrArg List.length h; simp at this; subst this; simp at hlt0)
  subst hv
  have hm : cap ≤ 9223372036854775807 := h2
  have hml : (xs.map enc).length = xs.length := List.length_map _
  have hk0 : kept q xs (i0 + 1) = xs.take i0 := kept_first hpre hc0 hq0
  have hl0 : (xs.take i0).length = i0 := by simp; omega
  refine sr <| ag rfl rfl <| nx <| mv rfl rfl <| mv rfl rfl <| L_op <| x_call Tryz.func109 nm109 bd109 (.cons rfl (.cons rfl .nil)) rfl (indexfunc109 hf hn hb hg .here (.there hc)) fun _ => J_slot (t := 10) (v := .int .i64 (i0 : Int)) rfl (by rw [hi0]) ?_
  refine ag rfl rfl <| nxx <| mv rfl rfl <| L_pur rfl (p_eql rfl rfl) <| nq <| J_bool (t := 12) (c := false) rfl (by simp) <| C_false rfl <| J_skip ?_
  refine Q_then <| J_seq <| sr <| mv rfl rfl <| L_pur rfl (p_add64 rfl rfl (by omega)) <| ag rfl rfl <| nq <| J_block ?_
  refine J_rowEq (ys := (kept q xs (i0 + 1) ++ xs.drop (kept q xs (i0 + 1)).length).map enc) (by rw [hk0, hl0, List.take_append_drop]) <| J_slot (t := 5) (v := .int .i64 ((kept q xs (i0 + 1)).length : Int)) rfl (by rw [hk0, hl0]) <| J_loop (α := Nat) (fun j => j ≤ xs.length) (fun j => row 140 3 (.slice (some ⟨b, o, none⟩) (xs.map enc).length cap) ((kept q xs j ++ xs.drop (kept q xs j).length).map enc) :: m) (fun j => [(6, .int .i64 (j : Int)), (5, .int .i64 ((kept q xs j).length : Int)), (0, .slice (some ⟨b, o, none⟩) (xs.map enc).length cap), (1, .func (.func g) #[] caps)]) (fun j => xs.length - j) (i0 + 1) (by omega) SU KE ?_
  intro j hj
  have hkl := kept_le q xs j
  refine J_seq <| sr <| mv rfl rfl <| mv rfl rfl <| L_pur rfl (p_len rfl Tryz.underlying111) <| L_pur rfl (p_lss rfl rfl) <| nq ?_
  refine C_dec rfl (fun h19 => ?_) (fun h19 => ?_)
  ·
   have hlt : j < xs.length := by omega
   obtain ⟨c, hcc⟩ : ∃ c, xs[j]? = some c := ⟨_, List.getElem?_eq_getElem hlt⟩
   refine J_skip <| Q_then <| J_seq <| J_block <| sr <| mv rfl rfl <| mv rfl rfl <| L_pur rfl (p_indexAddr rfl rfl Tryz.underlying111 ty140 (by omega) (by omega)) ?_
   refine L_val rfl (v_loadE rfl ty140 HS (by simp only [Int.toNat_natCast, List.getElem?_map, kept_get, hcc]; rfl)) ?_
   refine L_op <| x_alloc ty140 rfl fun b7 => L_op <| x_store rfl rfl ty140 rfl SM SM RO PT ?_
   refine nx <| mv rfl rfl <| L_val rfl (v_loadA rfl ty140 HS CT) ?_
   refine L_op <| x_callc rfl hf hn hb (.cons rfl .nil) rfl (hg _ c (.there (.there hc))) fun _ => L_pur rfl (p_not rfl) <| nq ?_
   refine C_split rfl (fun h29 => ?_) (fun h29 => ?_)
   ·
    have hqc : q c = false := by simpa using h29
    have hks := kept_set hcc hqc
    have hkl1 : (kept q xs (j + 1)).length = (kept q xs j).length + 1 := by rw [kept_succ hcc, hqc]; simp
    refine sr <| mv rfl rfl <| mv rfl rfl <| L_val rfl (v_loadA rfl ty140 HS CT) ?_
    refine L_pur rfl (p_indexAddr rfl rfl Tryz.underlying111 ty140 (by omega) (by omega)) <| L_op <| x_storeE (vs := enc c) rfl rfl ty140 rfl (hlen c) (hone c) PC (OM) ?_
    refine J_rowEq (ys := (kept q xs (j + 1) ++ xs.drop (kept q xs (j + 1)).length).map enc) (by rw [← hks, List.map_set]; simp) <| ny <| mv rfl rfl <| L_pur rfl (p_add64 rfl rfl (by omega)) <| ag rfl rfl <| L_nil <| Q_blk_normal <| qr ?_
    refine mv rfl rfl <| L_pur rfl (p_add64 rfl rfl (by omega)) <| ag rfl rfl <| nq <| J_slot (t := 5) (v := .int .i64 ((kept q xs (j + 1)).length : Int)) rfl (by rw [hkl1]; rfl) ?_
    exact J_again (j + 1) (by omega) (by omega) SU KE
   ·
    have hqc : q c = true := by simpa using h29
    have hks : kept q xs (j + 1) = kept q xs j := by rw [kept_succ hcc, hqc]; simp
    refine J_skip <| Q_blk_normal <| qr <| mv rfl rfl <| L_pur rfl (p_add64 rfl rfl (by omega)) <| ag rfl rfl <| nq <| J_slot (t := 5) (v := .int .i64 ((kept q xs (j + 1)).length : Int)) rfl (by rw [hks]) ?_
    refine J_pick (A := row 140 3 (.slice (some ⟨b, o, none⟩) (xs.map enc).length cap) ((kept q xs j ++ xs.drop (kept q xs j).length).map enc)) PC ?_
    refine J_rowEq (ys := (kept q xs (j + 1) ++ xs.drop (kept q xs (j + 1)).length).map enc) (by rw [hks]) ?_
    exact J_again (j + 1) (by omega) (by omega) SU KE
  ·
   have hjx : j = xs.length := by omega
   have hka : kept q xs j = xs.filter fun c => !q c := kept_all (by omega)
   refine J_exit <| Q_then_exit <| Q_then_exit <| Q_blk_this <| qx <| mv rfl rfl <| mv rfl rfl <| L_pur rfl (p_slice rfl Tryz.underlying111 ty140 rfl rfl (by omega) (by omega) (by omega)) ?_
   refine L_op <| x_clear (len := (xs.map enc).length) rfl Tryz.underlying111 ty140 rfl rfl PC (OM) ?_
   refine nx <| mv rfl rfl <| mv rfl rfl <| L_pur rfl (p_slice rfl Tryz.underlying111 ty140 rfl rfl (by omega) (by omega) (by omega)) <| J_take (k := (kept q xs j).length) (OM) <| J_rowTo (v' := .slice (some ⟨b, o, none⟩) (kept q xs j).length cap) (ys := (xs.filter fun c => !q c).map enc) (by simp [hka]) rfl <| J_slot (t := 41) (v := .slice (some ⟨b, o, none⟩) (kept q xs j).length cap) rfl (by simp [Addr.add]) <| ag rfl rfl ?_
   refine nq <| J_ret ?_
   exact J_return (_) Tryz.results72 (.tmp rfl .nil) rfl SU

set_option maxRecDepth 100000 in
set_option maxHeartbeats 4000000 in
theorem clo73 {E : World} {l : List As} {bc : Nat} {i : ID} {c : Tm} (hc : Has (blk bc 36 (encI i)) l) :
    Con Tryz.prog 73 #[.agg (encT c).toArray, .pointer (some ⟨bc, 0, none⟩)] E l (fun _ : Unit => .bool (isTm i c)) (fun _ => l) := by
  refine Con.body (vs := [.agg (encT c).toArray, .pointer (some ⟨bc, 0, none⟩)]) (n := 8) Tryz.func73 rfl rfl [(0, .agg (encT c).toArray), (1, .pointer (some ⟨bc, 0, none⟩))] (env_ok 2 rfl) <| sr <| L_op <| x_box rfl rfl rfl fun b2 => ag rfl rfl <| nx <| fa rfl rfl fa140_1 <| L_val rfl (v_loadA rfl ty36 HS CT) ?_
  refine L_val rfl (v_loadA rfl ty36 HS CT) ?_
  refine L_pur rfl (p_eqv rfl rfl (fun w => eg36 _ _ _ _ _ w) (fun w => eqv36 _ _ _ _ w)) <| ag rfl rfl <| nq <| J_ret ?_
  exact J_return (()) Tryz.results73 (.tmp rfl .nil) rfl SU

set_option maxRecDepth 100000 in
set_option maxHeartbeats 4000000 in
theorem tmrDropC {E : World} {l m : List As} {b o : Nat} {xs : List Tm} (hp : Pick (tmrA b o xs) l m) (hb : xs.length ≤ 100000) {i : ID} :
    Con Tryz.prog 47 #[.pointer (some ⟨b, o, none⟩), .agg (encI i).toArray] E l (fun _ : Unit => .bool (decide ((tdrop xs i).length < xs.length))) (fun _ => tmrA b o (tdrop xs i) :: m) := by
  refine Con.body (vs := [.pointer (some ⟨b, o, none⟩), .agg (encI i).toArray]) (n := 27) Tryz.func47 rfl rfl [(0, .pointer (some ⟨b, o, none⟩)), (1, .agg (encI i).toArray)] (env_ok 2 rfl) <| J_pick hp <| J_tmrO fun v _ => J_row (.there .here) fun hw a cap hv h1 h2 h3 => ?_
  subst hv
  have hm : cap ≤ 9223372036854775807 := h2
  have hml : (xs.map encT).length = xs.length := List.length_map _
  refine sr <| L_op <| x_box rfl rfl rfl fun b3 => ag rfl rfl <| nx <| mv rfl rfl <| nc rfl rfl <| fa rfl rfl fa113_0 ?_
  refine L_val rfl (v_loadL rfl ty111 HS rfl (by exact rfl)) ?_
  refine L_pur rfl (p_len rfl Tryz.underlying111) <| ag rfl rfl <| nx <| mv rfl rfl <| mv rfl rfl <| nc rfl rfl <| fa rfl rfl fa113_0 <| L_val rfl (v_loadL rfl ty111 HS rfl (by exact rfl)) ?_
  refine L_pur rfl (p_makeFunc (.cons rfl .nil)) <| L_op <| x_call Tryz.func72 nm72 bd72 (.cons rfl (.cons rfl .nil)) rfl (deletefunc72 (xs := xs) (enc := encT) (q := isTm i) (C := blk b3 36 (encI i)) Tryz.func73 nm73 bd73 (fun l' c hc => clo73 hc) PC HS encT_one encT_len) <| JR fun a17 c17 hw17 hl17 hm17 hz17 => nc rfl rfl <| fa rfl rfl fa113_0 <| L_op <| x_storeL rfl rfl ty111 rfl SM SM rfl RO rfl PT ?_
  refine nx <| mv rfl rfl <| nc rfl rfl <| fa rfl rfl fa113_0 <| L_val rfl (v_loadL rfl ty111 HS rfl (by exact rfl)) ?_
  refine L_pur rfl (p_len rfl Tryz.underlying111) <| mv rfl rfl <| L_pur rfl (p_lss rfl rfl) <| ag rfl rfl <| nq <| J_ret <| J_tmrS (b := b) (o := o) (xs := tdrop xs i) _ PX trivial ?_
  refine J_return (()) Tryz.results47 (.tmp rfl .nil) ?_ ?_
  · simp [one]
  · exact SU

def cDrop (c : ID × Bool) (i : ID) : ID × Bool := if c.2 = true ∧ c.1 = i then ((0, 0), false) else c
set_option maxRecDepth 100000 in
set_option maxHeartbeats 4000000 in
theorem rpDropC {E : World} {l m : List As} {b : Nat} {c : ID × Bool} (hp : Pick (rpA b c) l m) {i : ID} :
    Con Tryz.prog 64 #[.pointer (some ⟨b, 0, none⟩), .agg (encI i).toArray] E l (fun _ : Unit => .bool (decide (c.2 = true ∧ c.1 = i))) (fun _ => rpA b (cDrop c i) :: m) := by
  refine Con.body (vs := [.pointer (some ⟨b, 0, none⟩), .agg (encI i).toArray]) (n := 21) Tryz.func64 rfl rfl [(0, .pointer (some ⟨b, 0, none⟩)), (1, .agg (encI i).toArray)] (env_ok 2 rfl) <| J_pick hp <| J_asTo (B := blk b 150 [.int .i64 c.1.1, .int .i64 c.1.2, .bool c.2]) (by rfl) <| sr <| L_op <| x_box rfl rfl rfl fun b3 => ag rfl rfl <| nq ?_
  refine J_seq <| J_seq <| J_drawS mixed (by kernel_rfl) <| sm rfl rfl <| sp rfl (p_nilCheck rfl) <| sp rfl (p_fieldAddr rfl fa150_1) <| S_val rfl (v_load rfl ty4 HS (by exact rfl)) ?_
  refine sp rfl (p_not rfl) <| sm rfl rfl ?_
  refine J_gsplit (t := 10) rfl (fun h10 => ?_) (fun h10 => ?_)
  ·
    have hno : ¬ (c.2 = true ∧ c.1 = i) := fun e => by rw [e.1] at h10; simp at h10
    refine S_off rfl rfl rfl rfl rfl <| S_off rfl rfl rfl rfl rfl <| S_off rfl rfl rfl rfl rfl <| S_off rfl rfl rfl rfl rfl <| S_off rfl rfl rfl rfl rfl <| S_off rfl rfl rfl rfl rfl <| sp rfl (p_pick_t rfl rfl) <| sq ?_
    refine C_true rfl <| sr <| ag rfl rfl <| nq <| J_ret <| Q_then_ret <| J_pick (A := blk b _ _) PC ?_
    refine J_asTo (B := rpA b (cDrop c i)) (by rw [cDrop, if_neg hno]; rfl) ?_
    refine J_return (()) Tryz.results64 (.tmp rfl .nil) ?_ ?_
    · simp [one, hno]
    · exact SU
  ·
    refine S_on rfl rfl rfl rfl (Pur.vl (p_move rfl)) <| S_on rfl rfl rfl rfl (Pur.vl (p_nilCheck rfl)) <| S_on rfl rfl rfl rfl (Pur.vl (p_fieldAddr rfl fa150_0)) <| S_on rfl rfl rfl rfl (v_loadA rfl ty36 HS CT) ?_
    refine S_on rfl rfl rfl rfl (v_loadA rfl ty36 HS CT) ?_
    refine S_on rfl rfl rfl rfl (Pur.vl (p_nev rfl rfl (fun w => eg36 _ _ _ _ _ w) (fun w => nev36 _ _ _ _ w))) <| sp rfl (p_pick_f rfl rfl) <| sq ?_
    refine C_split rfl (fun h17 => ?_) (fun h17 => ?_)
    ·
      have hno : ¬ (c.2 = true ∧ c.1 = i) := fun e => by rw [← e.2] at h17; simp at h17
      refine sr <| ag rfl rfl <| nq <| J_ret <| Q_then_ret <| J_pick (A := blk b _ _) PC ?_
      refine J_asTo (B := rpA b (cDrop c i)) (by rw [cDrop, if_neg hno]; rfl) ?_
      refine J_return (()) Tryz.results64 (.tmp rfl .nil) ?_ ?_
      · simp [one, hno]
      · exact SU
    ·
      have hyes : c.2 = true ∧ c.1 = i := ⟨by simpa using h10, by simp at h17; exact Prod.ext h17.1 h17.2⟩
      refine J_skip <| qx <| mv rfl rfl <| L_pur rfl (bld150 .nil (by repeat constructor)) <| nc rfl rfl <| L_op <| x_store rfl rfl ty150 rfl SM SM RO PT ?_
      refine nx <| ag rfl rfl <| nq <| J_ret <| J_pick (A := blk b _ _) PC ?_
      refine J_asTo (B := rpA b (cDrop c i)) (by rw [cDrop, if_pos hyes]; rfl) ?_
      refine J_return (()) Tryz.results64 (.tmp rfl .nil) ?_ ?_
      · simp [one, hyes]
      · exact SU

set_option maxRecDepth 100000 in
set_option maxHeartbeats 4000000 in
theorem rpCaller {E : World} {l m : List As} {b : Nat} {c : ID × Bool} (hp : Pick (rpA b c) l m) :
    Con Tryz.prog 56 #[.pointer (some ⟨b, 0, none⟩)] E l (fun _ : Unit => .tuple #[.agg (encI c.1).toArray, .bool c.2]) (fun _ => rpA b c :: m) := by
  refine Con.body (vs := [.pointer (some ⟨b, 0, none⟩)]) (n := 12) Tryz.func56 rfl rfl [(0, .pointer (some ⟨b, 0, none⟩))] (env_ok 1 rfl) <| J_pick hp <| J_asTo (B := blk b 150 [.int .i64 c.1.1, .int .i64 c.1.2, .bool c.2]) (by rfl) <| sr <| L_op <| x_alloc ty36 rfl fun b2 => ag rfl rfl <| nq ?_
  refine J_seq <| J_drawL (some 8) mixed <| ip 0 rfl rfl rfl rfl (p_move rfl) <| ip 1 rfl rfl rfl rfl (p_nilCheck rfl) <| ip 2 rfl rfl rfl rfl (p_fieldAddr rfl fa150_0) <| iv 3 rfl rfl rfl rfl (fun _ => v_loadA rfl ty36 HS CT) ?_
  refine ip 4 rfl rfl rfl rfl (p_move rfl) <| ip 5 rfl rfl rfl rfl (p_nilCheck rfl) <| ip 6 rfl rfl rfl rfl (p_fieldAddr rfl fa150_1) <| I_ready (rs := [7, 8]) SI (by kernel_rfl) (by simp) ?_
  refine (I_cons rfl ?_ (I_cons rfl ?_ I_nil))
  ·
    refine J_val (v_load rfl ty4 HS (by exact rfl)) rfl rfl rfl ?_
    refine i1 8 rfl <| x_store rfl rfl ty36 rfl SM SM RO PT ?_
    refine ip 9 rfl rfl rfl rfl (p_assign rfl) <| i0 <| Q_then <| J_ret <| J_pick (A := blk b _ _) PC ?_
    refine J_asTo (B := rpA b c) (by rfl) ?_
    refine J_return (()) Tryz.results56 (.cellA rfl ty36 HS CT (.tmp rfl .nil)) ?_ ?_
    · rfl
    · exact SU
  ·
    refine x_store rfl rfl ty36 rfl SM SM RO PT ?_
    refine i1 7 rfl <| J_val (v_load rfl ty4 HS (by exact rfl)) rfl rfl rfl ?_
    refine ip 9 rfl rfl rfl rfl (p_assign rfl) <| i0 <| Q_then <| J_ret <| J_pick (A := blk b _ _) PC ?_
    refine J_asTo (B := rpA b c) (by rfl) ?_
    refine J_return (()) Tryz.results56 (.cellA rfl ty36 HS CT (.tmp rfl .nil)) ?_ ?_
    · rfl
    · exact SU

end Go.Pse
