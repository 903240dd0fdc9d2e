/-
  The endpoint of the program: contracts of its methods.
-/
import Derived.Test.YtjolbnicboaaeaaEp1
import Derived.Test.YtjolbnicboaaeaaNum
namespace Go.Pse
open Go.RowKit Go.Proofs

/-! ### plain data -/
abbrev Msg := ID × Int × Int × Bool
abbrev Rcv := ID × Int
def encM (m : Msg) : List Value := [.int .i64 m.1.1, .int .i64 m.1.2, .int .u32 m.2.1, .int .i64 m.2.2.1, .bool m.2.2.2]
def encR (r : Rcv) : List Value := [.int .i64 r.1.1, .int .i64 r.1.2, .int .i64 r.2]
theorem encM_one (c : Msg) : ones (encM c) = true := rfl
theorem encM_len (c : Msg) : (encM c).length = 5 := rfl
theorem encR_one (c : Rcv) : ones (encR c) = true := rfl
theorem encR_len (c : Rcv) : (encR c).length = 3 := rfl
def isM (i : ID) (m : Msg) : Bool := decide (m.1.1 = i.1 ∧ m.1.2 = i.2)
def isR (i : ID) (r : Rcv) : Bool := decide (r.1.1 = i.1 ∧ r.1.2 = i.2)
/-- An endpoint in block b: who waits to send, to receive. -/
def epF (b : Nat) (out : List Msg) (inn : List Rcv) (vo vi : Value) : As := As.all [blk b 50 [vo, vi], row 56 5 vo (out.map encM), row 52 3 vi (inn.map encR)]
def epA (b : Nat) (out : List Msg) (inn : List Rcv) : As := As.ex fun vo => As.ex (epF b out inn vo)

set_option maxRecDepth 100000 in
set_option maxHeartbeats 4000000 in
theorem clo100 {E : World} {l : List As} {bc : Nat} {i : ID} {c : Msg} (hc : Has (blk bc 36 (encI i)) l) :
  Con Try.prog 100 #[.agg (encM c).toArray, .pointer (some ⟨bc, 0, none⟩)] E l (fun _ : Unit => .bool (isM i c)) (fun _ => l) := by
 refine Con.body (vs := [.agg (encM c).toArray, .pointer (some ⟨bc, 0, none⟩)]) (n := 8) Try.func100 rfl rfl [(0, .agg (encM c).toArray), (1, .pointer (some ⟨bc, 0, none⟩))] (env_ok 2 rfl) ?_
 refine J_seq ?_
 refine J_region ?_
 refine L_op (x_box rfl rfl rfl fun b2 => ?_)
 refine L_pur rfl (p_assign rfl) ?_
 refine L_nil ?_
 refine Q_then ?_
 refine J_seq ?_
 refine J_region ?_
 refine L_pur rfl (p_fieldAddr rfl fa56_0) ?_
 refine L_val rfl (v_loadA rfl ty36 HS CT) ?_
 refine L_val rfl (v_loadA rfl ty36 HS CT) ?_
 refine L_pur rfl (p_eqv rfl rfl (fun w => eg36 _ _ _ _ _ w) (fun w => eqv36 _ _ _ _ w)) ?_
 refine L_pur rfl (p_assign rfl) ?_
 refine L_nil ?_
 refine Q_then ?_
 refine J_ret ?_
 exact J_return (()) Try.results100 (.tmp rfl .nil) rfl SU

set_option maxRecDepth 100000 in
set_option maxHeartbeats 4000000 in
theorem clo102 {E : World} {l : List As} {bc : Nat} {i : ID} {c : Rcv} (hc : Has (blk bc 36 (encI i)) l) :
  Con Try.prog 102 #[.agg (encR c).toArray, .pointer (some ⟨bc, 0, none⟩)] E l (fun _ : Unit => .bool (isR i c)) (fun _ => l) := by
 refine Con.body (vs := [.agg (encR c).toArray, .pointer (some ⟨bc, 0, none⟩)]) (n := 8) Try.func102 rfl rfl [(0, .agg (encR c).toArray), (1, .pointer (some ⟨bc, 0, none⟩))] (env_ok 2 rfl) ?_
 refine J_seq ?_
 refine J_region ?_
 refine L_op (x_box rfl rfl rfl fun b2 => ?_)
 refine L_pur rfl (p_assign rfl) ?_
 refine L_nil ?_
 refine Q_then ?_
 refine J_seq ?_
 refine J_region ?_
 refine L_pur rfl (p_fieldAddr rfl fa52_0) ?_
 refine L_val rfl (v_loadA rfl ty36 HS CT) ?_
 refine L_val rfl (v_loadA rfl ty36 HS CT) ?_
 refine L_pur rfl (p_eqv rfl rfl (fun w => eg36 _ _ _ _ _ w) (fun w => eqv36 _ _ _ _ w)) ?_
 refine L_pur rfl (p_assign rfl) ?_
 refine L_nil ?_
 refine Q_then ?_
 refine J_ret ?_
 exact J_return (()) Try.results102 (.tmp rfl .nil) rfl SU

set_option maxRecDepth 100000 in
set_option maxHeartbeats 4000000 in
theorem send {E : World} {l m : List As}{b : Nat} {out : List Msg} {inn : List Rcv} (hp : Pick (epA b out inn) l m) (hbo : out.length ≤ 1000000) (hbi : inn.length ≤ 1000000) (x : Msg) :
  Con Try.prog 30 #[.pointer (some ⟨b, 0, none⟩), .agg (encM x).toArray] E l (fun _ : Unit => .tuple #[.agg (encR (inn.headD ((0, 0), 0))).toArray, .bool (!inn.isEmpty)]) (fun _ => epA b (bif inn.isEmpty then out ++ [x] else out) inn.tail :: m) := by
 rcases inn with _ | ⟨r, rs⟩
 ·
  refine Con.body (vs := [.pointer (some ⟨b, 0, none⟩), .agg (encM x).toArray]) (n := 39) Try.func30 rfl rfl [(0, .pointer (some ⟨b, 0, none⟩)), (1, .agg (encM x).toArray)] (env_ok 2 rfl) ?_
  refine J_pick hp ?_
  refine J_ex fun vo => ?_
  refine J_ex fun vi => ?_
  refine J_all3 ?_
  refine J_row (.there (.there .here)) fun hw a cap hv h1 h2 h3 => ?_
  subst hv
  have hml : (out.map encM).length = out.length := List.length_map _
  refine J_seq ?_
  refine J_region ?_
  refine L_op (x_box rfl rfl rfl fun b3 => ?_)
  refine L_op (x_alloc ty52 rfl fun b4 => ?_)
  refine L_pur rfl (p_assign rfl) ?_
  refine L_nil ?_
  refine Q_then ?_
  refine J_seq ?_
  refine J_seq ?_
  refine J_region ?_
  refine L_pur rfl (p_move rfl) ?_
  refine L_pur rfl (p_nilCheck rfl) ?_
  refine L_pur rfl (p_fieldAddr rfl fa50_1) ?_
  refine L_val rfl (v_load rfl ty48 HS (by exact rfl)) ?_
  refine L_pur rfl (p_len rfl Try.underlying48) ?_
  refine L_pur rfl (p_eql rfl rfl) ?_
  refine L_nil ?_
  refine Q_then ?_
  refine J_bool (t := 12) (c := true) rfl (by simp) ?_
  refine C_true rfl ?_
  refine J_seq ?_
  refine J_draw mixed ?_
  refine A_take (i := 0) rfl rfl rfl rfl (by kernel_rfl) (by kernel_rfl) (by kernel_rfl) (fun _ _ _ _ h => h) (p_move rfl) ?_
  refine A_take (i := 1) rfl rfl rfl rfl (by kernel_rfl) (by kernel_rfl) (by kernel_rfl) (fun _ _ _ _ h => h) (p_move rfl) ?_
  refine A_take (i := 2) rfl rfl rfl rfl (by kernel_rfl) (by kernel_rfl) (by kernel_rfl) (fun _ _ _ _ h => h) (p_nilCheck rfl) ?_
  refine A_take (i := 3) rfl rfl rfl rfl (by kernel_rfl) (by kernel_rfl) (by kernel_rfl) (fun _ _ _ _ h => h) (p_fieldAddr rfl fa50_0) ?_
  refine A_ready (rs := [4, 5]) (by kernel_rfl) (by simp) ?_
  refine (A_cons rfl ?_ (A_cons rfl ?_ A_nil))
  ·
   refine J_val (v_load rfl ty47 HS (by exact rfl)) rfl rfl rfl ?_
   refine A_one (i := 5) (by kernel_rfl) rfl ?_
   refine J_val (v_loadA rfl ty56 HS CT) rfl rfl rfl ?_
   refine A_one (i := 6) (by kernel_rfl) rfl ?_
   refine x_lit (vals := [_]) Try.underlying47 ty56 rfl (.cons rfl .nil) (.agg .nil) (Wf.cons rfl rfl Wf.nil) rfl (by decide) rfl rfl fun v19 => ?_
   refine J_row .here fun hw19 a19 c19 hv19 hl19 hm19 hz19 => ?_
   subst hv19
   refine A_one (i := 7) (by kernel_rfl) rfl ?_
   refine x_app rfl rfl Try.underlying47 ty56 rfl rfl PC (fun w H => sep_reads HS H) (by first | omega | (simp <;> omega)) (by first | omega | (simp <;> omega)) rfl fun v20 => ?_
   refine J_rowEq (ys := (out ++ [x]).map encM) (by simp) ?_
   refine J_row .here fun hw20 a20 c20 hv20 hl20 hm20 hz20 => ?_
   subst hv20
   refine A_take (i := 8) rfl rfl rfl rfl (by kernel_rfl) (by kernel_rfl) (by kernel_rfl) (fun _ _ _ _ h => h) (p_nilCheck rfl) ?_
   refine A_take (i := 9) rfl rfl rfl rfl (by kernel_rfl) (by kernel_rfl) (by kernel_rfl) (fun _ _ _ _ h => h) (p_fieldAddr rfl fa50_0) ?_
   refine A_one (i := 10) (by kernel_rfl) rfl ?_
   refine x_store rfl rfl ty47 rfl (by first | rfl | (simp [*]; done)) (by first | rfl | (simp [*]; done)) RO PT ?_
   refine A_done (by kernel_rfl) ?_
   refine Q_then ?_
   refine J_seq ?_
   refine J_region ?_
   refine L_pur rfl (bld52 .nil (by repeat constructor)) ?_
   refine L_op (x_store rfl rfl ty52 rfl (by first | rfl | (simp [*]; done)) (by first | rfl | (simp [*]; done)) RO PT ?_)
   refine L_pur rfl (p_assign rfl) ?_
   refine L_nil ?_
   refine Q_then ?_
   refine J_ret ?_
   refine Q_then_ret ?_
   refine J_shut3' (f := epF b (out ++ [x]) ([])) _ _ rfl PC PC PC ?_
   exact J_return (()) Try.results30 (.cellA rfl ty52 HS CT (.tmp rfl .nil)) rfl SU
  ·
   refine J_val (v_loadA rfl ty56 HS CT) rfl rfl rfl ?_
   refine A_ready (rs := [4, 6]) (by kernel_rfl) (by simp) ?_
   refine (A_cons rfl ?_ (A_cons rfl ?_ A_nil))
   ·
    refine J_val (v_load rfl ty47 HS (by exact rfl)) rfl rfl rfl ?_
    refine A_one (i := 6) (by kernel_rfl) rfl ?_
    refine x_lit (vals := [_]) Try.underlying47 ty56 rfl (.cons rfl .nil) (.agg .nil) (Wf.cons rfl rfl Wf.nil) rfl (by decide) rfl rfl fun v19 => ?_
    refine J_row .here fun hw19 a19 c19 hv19 hl19 hm19 hz19 => ?_
    subst hv19
    refine A_one (i := 7) (by kernel_rfl) rfl ?_
    refine x_app rfl rfl Try.underlying47 ty56 rfl rfl PC (fun w H => sep_reads HS H) (by first | omega | (simp <;> omega)) (by first | omega | (simp <;> omega)) rfl fun v20 => ?_
    refine J_rowEq (ys := (out ++ [x]).map encM) (by simp) ?_
    refine J_row .here fun hw20 a20 c20 hv20 hl20 hm20 hz20 => ?_
    subst hv20
    refine A_take (i := 8) rfl rfl rfl rfl (by kernel_rfl) (by kernel_rfl) (by kernel_rfl) (fun _ _ _ _ h => h) (p_nilCheck rfl) ?_
    refine A_take (i := 9) rfl rfl rfl rfl (by kernel_rfl) (by kernel_rfl) (by kernel_rfl) (fun _ _ _ _ h => h) (p_fieldAddr rfl fa50_0) ?_
    refine A_one (i := 10) (by kernel_rfl) rfl ?_
    refine x_store rfl rfl ty47 rfl (by first | rfl | (simp [*]; done)) (by first | rfl | (simp [*]; done)) RO PT ?_
    refine A_done (by kernel_rfl) ?_
    refine Q_then ?_
    refine J_seq ?_
    refine J_region ?_
    refine L_pur rfl (bld52 .nil (by repeat constructor)) ?_
    refine L_op (x_store rfl rfl ty52 rfl (by first | rfl | (simp [*]; done)) (by first | rfl | (simp [*]; done)) RO PT ?_)
    refine L_pur rfl (p_assign rfl) ?_
    refine L_nil ?_
    refine Q_then ?_
    refine J_ret ?_
    refine Q_then_ret ?_
    refine J_shut3' (f := epF b (out ++ [x]) ([])) _ _ rfl PC PC PC ?_
    exact J_return (()) Try.results30 (.cellA rfl ty52 HS CT (.tmp rfl .nil)) rfl SU
   ·
    refine x_lit (vals := [_]) Try.underlying47 ty56 rfl (.cons rfl .nil) (.agg .nil) (Wf.cons rfl rfl Wf.nil) rfl (by decide) rfl rfl fun v19 => ?_
    refine J_row .here fun hw19 a19 c19 hv19 hl19 hm19 hz19 => ?_
    subst hv19
    refine A_one (i := 4) (by kernel_rfl) rfl ?_
    refine J_val (v_load rfl ty47 HS (by exact rfl)) rfl rfl rfl ?_
    refine A_one (i := 7) (by kernel_rfl) rfl ?_
    refine x_app rfl rfl Try.underlying47 ty56 rfl rfl PC (fun w H => sep_reads HS H) (by first | omega | (simp <;> omega)) (by first | omega | (simp <;> omega)) rfl fun v20 => ?_
    refine J_rowEq (ys := (out ++ [x]).map encM) (by simp) ?_
    refine J_row .here fun hw20 a20 c20 hv20 hl20 hm20 hz20 => ?_
    subst hv20
    refine A_take (i := 8) rfl rfl rfl rfl (by kernel_rfl) (by kernel_rfl) (by kernel_rfl) (fun _ _ _ _ h => h) (p_nilCheck rfl) ?_
    refine A_take (i := 9) rfl rfl rfl rfl (by kernel_rfl) (by kernel_rfl) (by kernel_rfl) (fun _ _ _ _ h => h) (p_fieldAddr rfl fa50_0) ?_
    refine A_one (i := 10) (by kernel_rfl) rfl ?_
    refine x_store rfl rfl ty47 rfl (by first | rfl | (simp [*]; done)) (by first | rfl | (simp [*]; done)) RO PT ?_
    refine A_done (by kernel_rfl) ?_
    refine Q_then ?_
    refine J_seq ?_
    refine J_region ?_
    refine L_pur rfl (bld52 .nil (by repeat constructor)) ?_
    refine L_op (x_store rfl rfl ty52 rfl (by first | rfl | (simp [*]; done)) (by first | rfl | (simp [*]; done)) RO PT ?_)
    refine L_pur rfl (p_assign rfl) ?_
    refine L_nil ?_
    refine Q_then ?_
    refine J_ret ?_
    refine Q_then_ret ?_
    refine J_shut3' (f := epF b (out ++ [x]) ([])) _ _ rfl PC PC PC ?_
    exact J_return (()) Try.results30 (.cellA rfl ty52 HS CT (.tmp rfl .nil)) rfl SU
 ·
  refine Con.body (vs := [.pointer (some ⟨b, 0, none⟩), .agg (encM x).toArray]) (n := 39) Try.func30 rfl rfl [(0, .pointer (some ⟨b, 0, none⟩)), (1, .agg (encM x).toArray)] (env_ok 2 rfl) ?_
  refine J_pick hp ?_
  refine J_ex fun vo => ?_
  refine J_ex fun vi => ?_
  refine J_all3 ?_
  refine J_row (.there (.there .here)) fun hw a cap hv h1 h2 h3 => ?_
  obtain ⟨bi, oi, rfl⟩ := h3 (by simp)
  subst hv
  have hml : ((r :: rs).map encR).length = rs.length + 1 := by simp
  refine J_pick (A := row 52 3 (.slice (some ⟨bi, oi, none⟩) ((r :: rs).map encR).length cap) ((r :: rs).map encR)) PC ?_
  refine J_rowEq (ys := encR r :: rs.map encR) rfl ?_
  refine J_seq ?_
  refine J_region ?_
  refine L_op (x_box rfl rfl rfl fun b3 => ?_)
  refine L_op (x_alloc ty52 rfl fun b4 => ?_)
  refine L_pur rfl (p_assign rfl) ?_
  refine L_nil ?_
  refine Q_then ?_
  refine J_seq ?_
  refine J_seq ?_
  refine J_region ?_
  refine L_pur rfl (p_move rfl) ?_
  refine L_pur rfl (p_nilCheck rfl) ?_
  refine L_pur rfl (p_fieldAddr rfl fa50_1) ?_
  refine L_val rfl (v_load rfl ty48 HS (by exact rfl)) ?_
  refine L_pur rfl (p_len rfl Try.underlying48) ?_
  refine L_pur rfl (p_eql rfl rfl) ?_
  refine L_nil ?_
  refine Q_then ?_
  refine J_bool (t := 12) (c := false) rfl (by simp; omega) ?_
  refine C_false rfl ?_
  refine J_skip ?_
  refine Q_then ?_
  refine J_seq ?_
  refine J_region ?_
  refine L_pur rfl (p_move rfl) ?_
  refine L_pur rfl (p_nilCheck rfl) ?_
  refine L_pur rfl (p_fieldAddr rfl fa50_1) ?_
  refine L_val rfl (v_load rfl ty48 HS (by exact rfl)) ?_
  refine L_pur rfl (p_indexAddr rfl rfl Try.underlying48 ty52 (by omega) (by simp)) ?_
  refine L_val rfl (v_loadE rfl ty52 HS (by rfl)) ?_
  refine L_op (x_alloc ty52 rfl fun b6 => ?_)
  refine L_op (x_store rfl rfl ty52 rfl (by first | rfl | (simp [*]; done)) (by first | rfl | (simp [*]; done)) RO PT ?_)
  refine L_nil ?_
  refine Q_then ?_
  refine J_seq ?_
  refine J_region ?_
  refine L_pur rfl (p_move rfl) ?_
  refine L_pur rfl (p_move rfl) ?_
  refine L_pur rfl (p_nilCheck rfl) ?_
  refine L_pur rfl (p_fieldAddr rfl fa50_1) ?_
  refine L_val rfl (v_load rfl ty48 HS (by exact rfl)) ?_
  refine L_op (x_call Try.func85 nm85 bd85 (.cons rfl (.cons rfl (.cons rfl .nil))) rfl (delete85 (c := encR r) (xs := rs.map encR) PC) fun v35 => ?_)
  refine J_row .here fun hw35 a35 c35 hv35 hl35 hm35 hz35 => ?_
  subst hv35
  refine L_pur rfl (p_nilCheck rfl) ?_
  refine L_pur rfl (p_fieldAddr rfl fa50_1) ?_
  refine L_op (x_store rfl rfl ty48 rfl (by first | rfl | (simp [*]; done)) (by first | rfl | (simp [*]; done)) RO PT ?_)
  refine L_nil ?_
  refine Q_then ?_
  refine J_seq ?_
  refine J_region ?_
  refine L_val rfl (v_loadA rfl ty52 HS CT) ?_
  refine L_op (x_store rfl rfl ty52 rfl (by first | rfl | (simp [*]; done)) (by first | rfl | (simp [*]; done)) RO PT ?_)
  refine L_pur rfl (p_assign rfl) ?_
  refine L_nil ?_
  refine Q_then ?_
  refine J_ret ?_
  refine J_shut3' (f := epF b (out) (rs)) _ _ rfl PC PC PC ?_
  exact J_return (()) Try.results30 (.cellA rfl ty52 HS CT (.tmp rfl .nil)) rfl SU

set_option maxRecDepth 100000 in
set_option maxHeartbeats 4000000 in
theorem recv {E : World} {l m : List As}{b : Nat} {out : List Msg} {inn : List Rcv} (hp : Pick (epA b out inn) l m) (hbo : out.length ≤ 1000000) (hbi : inn.length ≤ 1000000) (x : Rcv) :
  Con Try.prog 31 #[.pointer (some ⟨b, 0, none⟩), .agg (encR x).toArray] E l (fun _ : Unit => .tuple #[.agg (encM (out.headD ((0, 0), 0, 0, false))).toArray, .bool (!out.isEmpty)]) (fun _ => epA b out.tail (bif out.isEmpty then inn ++ [x] else inn) :: m) := by
 rcases out with _ | ⟨r, rs⟩
 ·
  refine Con.body (vs := [.pointer (some ⟨b, 0, none⟩), .agg (encR x).toArray]) (n := 39) Try.func31 rfl rfl [(0, .pointer (some ⟨b, 0, none⟩)), (1, .agg (encR x).toArray)] (env_ok 2 rfl) ?_
  refine J_pick hp ?_
  refine J_ex fun vo => ?_
  refine J_ex fun vi => ?_
  refine J_all3 ?_
  refine J_row (.there .here) fun hw a cap hv h1 h2 h3 => ?_
  subst hv
  have hml : (inn.map encR).length = inn.length := List.length_map _
  refine J_seq ?_
  refine J_region ?_
  refine L_op (x_box rfl rfl rfl fun b3 => ?_)
  refine L_op (x_alloc ty56 rfl fun b4 => ?_)
  refine L_pur rfl (p_assign rfl) ?_
  refine L_nil ?_
  refine Q_then ?_
  refine J_seq ?_
  refine J_seq ?_
  refine J_region ?_
  refine L_pur rfl (p_move rfl) ?_
  refine L_pur rfl (p_nilCheck rfl) ?_
  refine L_pur rfl (p_fieldAddr rfl fa50_0) ?_
  refine L_val rfl (v_load rfl ty47 HS (by exact rfl)) ?_
  refine L_pur rfl (p_len rfl Try.underlying47) ?_
  refine L_pur rfl (p_eql rfl rfl) ?_
  refine L_nil ?_
  refine Q_then ?_
  refine J_bool (t := 12) (c := true) rfl (by simp) ?_
  refine C_true rfl ?_
  refine J_seq ?_
  refine J_draw mixed ?_
  refine A_take (i := 0) rfl rfl rfl rfl (by kernel_rfl) (by kernel_rfl) (by kernel_rfl) (fun _ _ _ _ h => h) (p_move rfl) ?_
  refine A_take (i := 1) rfl rfl rfl rfl (by kernel_rfl) (by kernel_rfl) (by kernel_rfl) (fun _ _ _ _ h => h) (p_move rfl) ?_
  refine A_take (i := 2) rfl rfl rfl rfl (by kernel_rfl) (by kernel_rfl) (by kernel_rfl) (fun _ _ _ _ h => h) (p_nilCheck rfl) ?_
  refine A_take (i := 3) rfl rfl rfl rfl (by kernel_rfl) (by kernel_rfl) (by kernel_rfl) (fun _ _ _ _ h => h) (p_fieldAddr rfl fa50_1) ?_
  refine A_ready (rs := [4, 5]) (by kernel_rfl) (by simp) ?_
  refine (A_cons rfl ?_ (A_cons rfl ?_ A_nil))
  ·
   refine J_val (v_load rfl ty48 HS (by exact rfl)) rfl rfl rfl ?_
   refine A_one (i := 5) (by kernel_rfl) rfl ?_
   refine J_val (v_loadA rfl ty52 HS CT) rfl rfl rfl ?_
   refine A_one (i := 6) (by kernel_rfl) rfl ?_
   refine x_lit (vals := [_]) Try.underlying48 ty52 rfl (.cons rfl .nil) (.agg .nil) (Wf.cons rfl rfl Wf.nil) rfl (by decide) rfl rfl fun v19 => ?_
   refine J_row .here fun hw19 a19 c19 hv19 hl19 hm19 hz19 => ?_
   subst hv19
   refine A_one (i := 7) (by kernel_rfl) rfl ?_
   refine x_app rfl rfl Try.underlying48 ty52 rfl rfl PC (fun w H => sep_reads HS H) (by first | omega | (simp <;> omega)) (by first | omega | (simp <;> omega)) rfl fun v20 => ?_
   refine J_rowEq (ys := (inn ++ [x]).map encR) (by simp) ?_
   refine J_row .here fun hw20 a20 c20 hv20 hl20 hm20 hz20 => ?_
   subst hv20
   refine A_take (i := 8) rfl rfl rfl rfl (by kernel_rfl) (by kernel_rfl) (by kernel_rfl) (fun _ _ _ _ h => h) (p_nilCheck rfl) ?_
   refine A_take (i := 9) rfl rfl rfl rfl (by kernel_rfl) (by kernel_rfl) (by kernel_rfl) (fun _ _ _ _ h => h) (p_fieldAddr rfl fa50_1) ?_
   refine A_one (i := 10) (by kernel_rfl) rfl ?_
   refine x_store rfl rfl ty48 rfl (by first | rfl | (simp [*]; done)) (by first | rfl | (simp [*]; done)) RO PT ?_
   refine A_done (by kernel_rfl) ?_
   refine Q_then ?_
   refine J_seq ?_
   refine J_region ?_
   refine L_pur rfl (bld56 .nil (by repeat constructor)) ?_
   refine L_op (x_store rfl rfl ty56 rfl (by first | rfl | (simp [*]; done)) (by first | rfl | (simp [*]; done)) RO PT ?_)
   refine L_pur rfl (p_assign rfl) ?_
   refine L_nil ?_
   refine Q_then ?_
   refine J_ret ?_
   refine Q_then_ret ?_
   refine J_shut3' (f := epF b ([]) (inn ++ [x])) _ _ rfl PC PC PC ?_
   exact J_return (()) Try.results31 (.cellA rfl ty56 HS CT (.tmp rfl .nil)) rfl SU
  ·
   refine J_val (v_loadA rfl ty52 HS CT) rfl rfl rfl ?_
   refine A_ready (rs := [4, 6]) (by kernel_rfl) (by simp) ?_
   refine (A_cons rfl ?_ (A_cons rfl ?_ A_nil))
   ·
    refine J_val (v_load rfl ty48 HS (by exact rfl)) rfl rfl rfl ?_
    refine A_one (i := 6) (by kernel_rfl) rfl ?_
    refine x_lit (vals := [_]) Try.underlying48 ty52 rfl (.cons rfl .nil) (.agg .nil) (Wf.cons rfl rfl Wf.nil) rfl (by decide) rfl rfl fun v19 => ?_
    refine J_row .here fun hw19 a19 c19 hv19 hl19 hm19 hz19 => ?_
    subst hv19
    refine A_one (i := 7) (by kernel_rfl) rfl ?_
    refine x_app rfl rfl Try.underlying48 ty52 rfl rfl PC (fun w H => sep_reads HS H) (by first | omega | (simp <;> omega)) (by first | omega | (simp <;> omega)) rfl fun v20 => ?_
    refine J_rowEq (ys := (inn ++ [x]).map encR) (by simp) ?_
    refine J_row .here fun hw20 a20 c20 hv20 hl20 hm20 hz20 => ?_
    subst hv20
    refine A_take (i := 8) rfl rfl rfl rfl (by kernel_rfl) (by kernel_rfl) (by kernel_rfl) (fun _ _ _ _ h => h) (p_nilCheck rfl) ?_
    refine A_take (i := 9) rfl rfl rfl rfl (by kernel_rfl) (by kernel_rfl) (by kernel_rfl) (fun _ _ _ _ h => h) (p_fieldAddr rfl fa50_1) ?_
    refine A_one (i := 10) (by kernel_rfl) rfl ?_
    refine x_store rfl rfl ty48 rfl (by first | rfl | (simp [*]; done)) (by first | rfl | (simp [*]; done)) RO PT ?_
    refine A_done (by kernel_rfl) ?_
    refine Q_then ?_
    refine J_seq ?_
    refine J_region ?_
    refine L_pur rfl (bld56 .nil (by repeat constructor)) ?_
    refine L_op (x_store rfl rfl ty56 rfl (by first | rfl | (simp [*]; done)) (by first | rfl | (simp [*]; done)) RO PT ?_)
    refine L_pur rfl (p_assign rfl) ?_
    refine L_nil ?_
    refine Q_then ?_
    refine J_ret ?_
    refine Q_then_ret ?_
    refine J_shut3' (f := epF b ([]) (inn ++ [x])) _ _ rfl PC PC PC ?_
    exact J_return (()) Try.results31 (.cellA rfl ty56 HS CT (.tmp rfl .nil)) rfl SU
   ·
    refine x_lit (vals := [_]) Try.underlying48 ty52 rfl (.cons rfl .nil) (.agg .nil) (Wf.cons rfl rfl Wf.nil) rfl (by decide) rfl rfl fun v19 => ?_
    refine J_row .here fun hw19 a19 c19 hv19 hl19 hm19 hz19 => ?_
    subst hv19
    refine A_one (i := 4) (by kernel_rfl) rfl ?_
    refine J_val (v_load rfl ty48 HS (by exact rfl)) rfl rfl rfl ?_
    refine A_one (i := 7) (by kernel_rfl) rfl ?_
    refine x_app rfl rfl Try.underlying48 ty52 rfl rfl PC (fun w H => sep_reads HS H) (by first | omega | (simp <;> omega)) (by first | omega | (simp <;> omega)) rfl fun v20 => ?_
    refine J_rowEq (ys := (inn ++ [x]).map encR) (by simp) ?_
    refine J_row .here fun hw20 a20 c20 hv20 hl20 hm20 hz20 => ?_
    subst hv20
    refine A_take (i := 8) rfl rfl rfl rfl (by kernel_rfl) (by kernel_rfl) (by kernel_rfl) (fun _ _ _ _ h => h) (p_nilCheck rfl) ?_
    refine A_take (i := 9) rfl rfl rfl rfl (by kernel_rfl) (by kernel_rfl) (by kernel_rfl) (fun _ _ _ _ h => h) (p_fieldAddr rfl fa50_1) ?_
    refine A_one (i := 10) (by kernel_rfl) rfl ?_
    refine x_store rfl rfl ty48 rfl (by first | rfl | (simp [*]; done)) (by first | rfl | (simp [*]; done)) RO PT ?_
    refine A_done (by kernel_rfl) ?_
    refine Q_then ?_
    refine J_seq ?_
    refine J_region ?_
    refine L_pur rfl (bld56 .nil (by repeat constructor)) ?_
    refine L_op (x_store rfl rfl ty56 rfl (by first | rfl | (simp [*]; done)) (by first | rfl | (simp [*]; done)) RO PT ?_)
    refine L_pur rfl (p_assign rfl) ?_
    refine L_nil ?_
    refine Q_then ?_
    refine J_ret ?_
    refine Q_then_ret ?_
    refine J_shut3' (f := epF b ([]) (inn ++ [x])) _ _ rfl PC PC PC ?_
    exact J_return (()) Try.results31 (.cellA rfl ty56 HS CT (.tmp rfl .nil)) rfl SU
 ·
  refine Con.body (vs := [.pointer (some ⟨b, 0, none⟩), .agg (encR x).toArray]) (n := 39) Try.func31 rfl rfl [(0, .pointer (some ⟨b, 0, none⟩)), (1, .agg (encR x).toArray)] (env_ok 2 rfl) ?_
  refine J_pick hp ?_
  refine J_ex fun vo => ?_
  refine J_ex fun vi => ?_
  refine J_all3 ?_
  refine J_row (.there .here) fun hw a cap hv h1 h2 h3 => ?_
  obtain ⟨bi, oi, rfl⟩ := h3 (by simp)
  subst hv
  have hml : ((r :: rs).map encM).length = rs.length + 1 := by simp
  refine J_pick (A := row 56 5 (.slice (some ⟨bi, oi, none⟩) ((r :: rs).map encM).length cap) ((r :: rs).map encM)) PC ?_
  refine J_rowEq (ys := encM r :: rs.map encM) rfl ?_
  refine J_seq ?_
  refine J_region ?_
  refine L_op (x_box rfl rfl rfl fun b3 => ?_)
  refine L_op (x_alloc ty56 rfl fun b4 => ?_)
  refine L_pur rfl (p_assign rfl) ?_
  refine L_nil ?_
  refine Q_then ?_
  refine J_seq ?_
  refine J_seq ?_
  refine J_region ?_
  refine L_pur rfl (p_move rfl) ?_
  refine L_pur rfl (p_nilCheck rfl) ?_
  refine L_pur rfl (p_fieldAddr rfl fa50_0) ?_
  refine L_val rfl (v_load rfl ty47 HS (by exact rfl)) ?_
  refine L_pur rfl (p_len rfl Try.underlying47) ?_
  refine L_pur rfl (p_eql rfl rfl) ?_
  refine L_nil ?_
  refine Q_then ?_
  refine J_bool (t := 12) (c := false) rfl (by simp; omega) ?_
  refine C_false rfl ?_
  refine J_skip ?_
  refine Q_then ?_
  refine J_seq ?_
  refine J_region ?_
  refine L_pur rfl (p_move rfl) ?_
  refine L_pur rfl (p_nilCheck rfl) ?_
  refine L_pur rfl (p_fieldAddr rfl fa50_0) ?_
  refine L_val rfl (v_load rfl ty47 HS (by exact rfl)) ?_
  refine L_pur rfl (p_indexAddr rfl rfl Try.underlying47 ty56 (by omega) (by simp)) ?_
  refine L_val rfl (v_loadE rfl ty56 HS (by rfl)) ?_
  refine L_op (x_alloc ty56 rfl fun b6 => ?_)
  refine L_op (x_store rfl rfl ty56 rfl (by first | rfl | (simp [*]; done)) (by first | rfl | (simp [*]; done)) RO PT ?_)
  refine L_nil ?_
  refine Q_then ?_
  refine J_seq ?_
  refine J_region ?_
  refine L_pur rfl (p_move rfl) ?_
  refine L_pur rfl (p_move rfl) ?_
  refine L_pur rfl (p_nilCheck rfl) ?_
  refine L_pur rfl (p_fieldAddr rfl fa50_0) ?_
  refine L_val rfl (v_load rfl ty47 HS (by exact rfl)) ?_
  refine L_op (x_call Try.func86 nm86 bd86 (.cons rfl (.cons rfl (.cons rfl .nil))) rfl (delete86 (c := encM r) (xs := rs.map encM) PC) fun v35 => ?_)
  refine J_row .here fun hw35 a35 c35 hv35 hl35 hm35 hz35 => ?_
  subst hv35
  refine L_pur rfl (p_nilCheck rfl) ?_
  refine L_pur rfl (p_fieldAddr rfl fa50_0) ?_
  refine L_op (x_store rfl rfl ty47 rfl (by first | rfl | (simp [*]; done)) (by first | rfl | (simp [*]; done)) RO PT ?_)
  refine L_nil ?_
  refine Q_then ?_
  refine J_seq ?_
  refine J_region ?_
  refine L_val rfl (v_loadA rfl ty56 HS CT) ?_
  refine L_op (x_store rfl rfl ty56 rfl (by first | rfl | (simp [*]; done)) (by first | rfl | (simp [*]; done)) RO PT ?_)
  refine L_pur rfl (p_assign rfl) ?_
  refine L_nil ?_
  refine Q_then ?_
  refine J_ret ?_
  refine J_shut3' (f := epF b (rs) (inn)) _ _ rfl PC PC PC ?_
  exact J_return (()) Try.results31 (.cellA rfl ty56 HS CT (.tmp rfl .nil)) rfl SU

set_option maxRecDepth 100000 in
set_option maxHeartbeats 4000000 in
theorem senders {E : World} {l m : List As}{b : Nat} {out : List Msg} {inn : List Rcv} (hp : Pick (epA b out inn) l m) (hbo : out.length ≤ 1000000) (hbi : inn.length ≤ 1000000) :
  Con Try.prog 32 #[.pointer (some ⟨b, 0, none⟩)] E l (fun v : Value => v) (fun v => row 56 5 v (out.map encM) :: epA b out inn :: m) := by
 refine Con.body (vs := [.pointer (some ⟨b, 0, none⟩)]) (n := 8) Try.func32 rfl rfl [(0, .pointer (some ⟨b, 0, none⟩))] (env_ok 1 rfl) ?_
 refine J_pick hp ?_
 refine J_ex fun vo => ?_
 refine J_ex fun vi => ?_
 refine J_all3 ?_
 refine J_seq ?_
 refine J_region ?_
 refine L_pur rfl (p_assign rfl) ?_
 refine L_nil ?_
 refine Q_then ?_
 refine J_seq ?_
 refine J_region ?_
 refine L_pur rfl (p_move rfl) ?_
 refine L_pur rfl (p_nilCheck rfl) ?_
 refine L_pur rfl (p_fieldAddr rfl fa50_0) ?_
 refine L_val rfl (v_load rfl ty47 HS (by exact rfl)) ?_
 refine L_op (x_call Try.func87 nm87 bd87 (.cons rfl .nil) rfl (clone87 (xs := out.map encM) (fun w H => sep_reads (xs := out.map encM) HS H) (by simp; omega)) fun v7 => ?_)
 refine J_row .here fun hw7 a7 c7 hv7 hl7 hm7 hz7 => ?_
 subst hv7
 refine L_pur rfl (p_assign rfl) ?_
 refine L_nil ?_
 refine Q_then ?_
 refine J_ret ?_
 refine J_shut3' (f := epF b (out) (inn)) _ _ rfl PC PC PC ?_
 exact J_return (_) Try.results32 (.tmp rfl .nil) rfl SU

set_option maxRecDepth 100000 in
set_option maxHeartbeats 4000000 in
theorem receivers {E : World} {l m : List As}{b : Nat} {out : List Msg} {inn : List Rcv} (hp : Pick (epA b out inn) l m) (hbo : out.length ≤ 1000000) (hbi : inn.length ≤ 1000000) :
  Con Try.prog 33 #[.pointer (some ⟨b, 0, none⟩)] E l (fun v : Value => v) (fun v => row 52 3 v (inn.map encR) :: epA b out inn :: m) := by
 refine Con.body (vs := [.pointer (some ⟨b, 0, none⟩)]) (n := 8) Try.func33 rfl rfl [(0, .pointer (some ⟨b, 0, none⟩))] (env_ok 1 rfl) ?_
 refine J_pick hp ?_
 refine J_ex fun vo => ?_
 refine J_ex fun vi => ?_
 refine J_all3 ?_
 refine J_seq ?_
 refine J_region ?_
 refine L_pur rfl (p_assign rfl) ?_
 refine L_nil ?_
 refine Q_then ?_
 refine J_seq ?_
 refine J_region ?_
 refine L_pur rfl (p_move rfl) ?_
 refine L_pur rfl (p_nilCheck rfl) ?_
 refine L_pur rfl (p_fieldAddr rfl fa50_1) ?_
 refine L_val rfl (v_load rfl ty48 HS (by exact rfl)) ?_
 refine L_op (x_call Try.func88 nm88 bd88 (.cons rfl .nil) rfl (clone88 (xs := inn.map encR) (fun w H => sep_reads (xs := inn.map encR) HS H) (by simp; omega)) fun v7 => ?_)
 refine J_row .here fun hw7 a7 c7 hv7 hl7 hm7 hz7 => ?_
 subst hv7
 refine L_pur rfl (p_assign rfl) ?_
 refine L_nil ?_
 refine Q_then ?_
 refine J_ret ?_
 refine J_shut3' (f := epF b (out) (inn)) _ _ rfl PC PC PC ?_
 exact J_return (_) Try.results33 (.tmp rfl .nil) rfl SU

set_option maxRecDepth 100000 in
set_option maxHeartbeats 4000000 in
theorem drop {E : World} {l m : List As}{b : Nat} {out : List Msg} {inn : List Rcv} (hp : Pick (epA b out inn) l m) (hbo : out.length ≤ 1000000) (hbi : inn.length ≤ 1000000) {i : ID} :
    Con Try.prog 58 #[.pointer (some ⟨b, 0, none⟩), .agg (encI i).toArray] E l (fun _ : Unit => .bool (decide ((out.filter fun c => !isM i c).length + (inn.filter fun c => !isR i c).length < out.length + inn.length))) (fun _ => epA b (out.filter fun c => !isM i c) (inn.filter fun c => !isR i c) :: m) := by
  refine Con.body (vs := [.pointer (some ⟨b, 0, none⟩), .agg (encI i).toArray]) (n := 48) Try.func58 rfl rfl [(0, .pointer (some ⟨b, 0, none⟩)), (1, .agg (encI i).toArray)] (env_ok 2 rfl) ?_
  refine J_pick hp ?_
  refine J_ex fun vo => ?_
  refine J_ex fun vi => ?_
  refine J_all3 ?_
  refine J_row (.there .here) fun hw a cap hv h1 h2 h3 => ?_
  subst hv
  refine J_row (.there (.there .here)) fun hw' a' cap' hv h1' h2' h3' => ?_
  subst hv
  refine J_seq ?_
  refine J_region ?_
  refine L_op (x_box rfl rfl rfl fun b3 => ?_)
  refine L_pur rfl (p_assign rfl) ?_
  refine L_nil ?_
  refine Q_then ?_
  refine J_seq ?_
  refine J_drawS mixed (by kernel_rfl) ?_
  refine S_val rfl (Pur.vl (p_move rfl)) ?_
  refine S_val rfl (Pur.vl (p_nilCheck rfl)) ?_
  refine S_val rfl (Pur.vl (p_fieldAddr rfl fa50_0)) ?_
  refine S_val rfl (v_load rfl ty47 HS (by exact rfl)) ?_
  refine S_val rfl (Pur.vl (p_len rfl Try.underlying47)) ?_
  refine S_val rfl (Pur.vl (p_move rfl)) ?_
  refine S_val rfl (Pur.vl (p_nilCheck rfl)) ?_
  refine S_val rfl (Pur.vl (p_fieldAddr rfl fa50_1)) ?_
  refine S_val rfl (v_load rfl ty48 HS (by exact rfl)) ?_
  refine S_val rfl (Pur.vl (p_len rfl Try.underlying48)) ?_
  refine S_val rfl (Pur.vl (p_add64 rfl rfl (by simp; omega))) ?_
  refine S_val rfl (Pur.vl (p_assign rfl)) ?_
  refine S_nil ?_
  refine Q_then ?_
  refine J_seq ?_
  refine J_region ?_
  refine L_pur rfl (p_move rfl) ?_
  refine L_pur rfl (p_move rfl) ?_
  refine L_pur rfl (p_nilCheck rfl) ?_
  refine L_pur rfl (p_fieldAddr rfl fa50_0) ?_
  refine L_val rfl (v_load rfl ty47 HS (by exact rfl)) ?_
  refine L_pur rfl (p_makeFunc (.cons rfl .nil)) ?_
  refine L_op (x_call Try.func99 nm99 bd99 (.cons rfl (.cons rfl .nil)) rfl (deletefunc99 (xs := out) (enc := encM) (q := isM i) (C := blk b3 36 (encI i)) Try.func100 nm100 bd100 (fun l' c hc => clo100 hc) PC HS encM_one encM_len) fun v23 => ?_)
  refine J_row .here fun hw23 a23 c23 hv23 hl23 hm23 hz23 => ?_
  subst hv23
  refine L_pur rfl (p_nilCheck rfl) ?_
  refine L_pur rfl (p_fieldAddr rfl fa50_0) ?_
  refine L_op (x_store rfl rfl ty47 rfl (by first | rfl | (simp [*]; done)) (by first | rfl | (simp [*]; done)) RO PT ?_)
  refine L_nil ?_
  refine Q_then ?_
  refine J_seq ?_
  refine J_region ?_
  refine L_pur rfl (p_move rfl) ?_
  refine L_pur rfl (p_move rfl) ?_
  refine L_pur rfl (p_nilCheck rfl) ?_
  refine L_pur rfl (p_fieldAddr rfl fa50_1) ?_
  refine L_val rfl (v_load rfl ty48 HS (by exact rfl)) ?_
  refine L_pur rfl (p_makeFunc (.cons rfl .nil)) ?_
  refine L_op (x_call Try.func101 nm101 bd101 (.cons rfl (.cons rfl .nil)) rfl (deletefunc101 (xs := inn) (enc := encR) (q := isR i) (C := blk b3 36 (encI i)) Try.func102 nm102 bd102 (fun l' c hc => clo102 hc) PC HS encR_one encR_len) fun v32 => ?_)
  refine J_row .here fun hw32 a32 c32 hv32 hl32 hm32 hz32 => ?_
  subst hv32
  refine L_pur rfl (p_nilCheck rfl) ?_
  refine L_pur rfl (p_fieldAddr rfl fa50_1) ?_
  refine L_op (x_store rfl rfl ty48 rfl (by first | rfl | (simp [*]; done)) (by first | rfl | (simp [*]; done)) RO PT ?_)
  refine L_nil ?_
  refine Q_then ?_
  refine J_seq ?_
  refine J_drawS mixed (by kernel_rfl) ?_
  refine S_val rfl (Pur.vl (p_move rfl)) ?_
  refine S_val rfl (Pur.vl (p_nilCheck rfl)) ?_
  refine S_val rfl (Pur.vl (p_fieldAddr rfl fa50_0)) ?_
  refine S_val rfl (v_load rfl ty47 HS (by exact rfl)) ?_
  refine S_val rfl (Pur.vl (p_len rfl Try.underlying47)) ?_
  refine S_val rfl (Pur.vl (p_move rfl)) ?_
  refine S_val rfl (Pur.vl (p_nilCheck rfl)) ?_
  refine S_val rfl (Pur.vl (p_fieldAddr rfl fa50_1)) ?_
  refine S_val rfl (v_load rfl ty48 HS (by exact rfl)) ?_
  refine S_val rfl (Pur.vl (p_len rfl Try.underlying48)) ?_
  refine S_val rfl (Pur.vl (p_add64 rfl rfl (by have := List.length_filter_le (fun c => !isM i c) out; have := List.length_filter_le (fun c => !isR i c) inn; simp; omega))) ?_
  refine S_val rfl (Pur.vl (p_move rfl)) ?_
  refine S_val rfl (Pur.vl (p_lss rfl rfl)) ?_
  refine S_val rfl (Pur.vl (p_assign rfl)) ?_
  refine S_nil ?_
  refine Q_then ?_
  refine J_ret ?_
  refine J_shut3' (f := epF b ((out.filter fun c => !isM i c)) ((inn.filter fun c => !isR i c))) _ _ rfl PC PC PC ?_
  refine J_return (()) Try.results58 (.tmp rfl .nil) ?_ ?_
  · simp [one]; omega
  · exact SU

theorem J_ep {E : World} {l : List As} {n : Nat} {F : Env} {K : Act → World → Prop} {b : Nat} (k : Jk E (epA b [] [] :: l) n F K) : Jk E (blk b 50 [.slice none 0 0, .slice none 0 0] :: l) n F K :=
  J_nil (el := 56) (sz := 5) (J_nil (el := 52) (sz := 3) (J_shut3' (f := epF b [] []) _ _ rfl (.there (.there .here)) (.there .here) .here k))

end Go.Pse
