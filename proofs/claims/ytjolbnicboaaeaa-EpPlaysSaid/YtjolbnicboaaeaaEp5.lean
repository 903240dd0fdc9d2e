/-
  The document's endpoint: contracts of its methods.
-/
import Derived.Test.YtjolbnicboaaeaaEp2
import Derived.Test.YtjolbnicboaaeaaInv
namespace Go.Pse
open Go.RowKit Go.Proofs

def reP (_ _ : Nat) (_ : List Msg) (_ : List Rcv) (_ : Value) (_ : Value) : Prop := True
def reL (b o : Nat) (out : List Msg) (inn : List Rcv) (vo : Value) (vi : Value) : List As := [fld b o [vo, vi], row 107 5 vo (out.map encM), row 104 3 vi (inn.map encR)]
def reA (b o : Nat) (out : List Msg) (inn : List Rcv) : As := As.ex fun g : (Value) × (Value) => As.all (As.pure (reP b o out inn g.1 g.2) :: reL b o out inn g.1 g.2)
theorem J_reO {E : World} {l : List As} {n : Nat} {F : Env} {K : Act → World → Prop} {b o : Nat} {out : List Msg} {inn : List Rcv} (k : ∀ vo vi, reP b o out inn vo vi → Jk E (fld b o [vo, vi] :: row 107 5 vo (out.map encM) :: row 104 3 vi (inn.map encR) :: l) n F K) : Jk E (reA b o out inn :: l) n F K := J_unfold (f := fun g : (Value) × (Value) => As.all (As.pure (reP b o out inn g.1 g.2) :: reL b o out inn g.1 g.2)) (fun _ => rfl) (fun g h => k g.1 g.2 h)
theorem J_reS {E : World} {l m : List As} {n : Nat} {F : Env} {K : Act → World → Prop} {b o : Nat} {out : List Msg} {inn : List Rcv} (vo : Value) (vi : Value) (hs : Picks [fld b o [vo, vi], row 107 5 vo (out.map encM), row 104 3 vi (inn.map encR)] l m) (h : reP b o out inn vo vi) (k : Jk E (reA b o out inn :: m) n F K) : Jk E l n F K := J_fold (f := fun g : (Value) × (Value) => As.all (As.pure (reP b o out inn g.1 g.2) :: reL b o out inn g.1 g.2)) (vo, vi) rfl hs h k

set_option maxRecDepth 100000 in
set_option maxHeartbeats 4000000 in
theorem rsend {E : World} {l m : List As}{b o : Nat} {out : List Msg} {inn : List Rcv} (hp : Pick (reA b o out inn) l m) (hbo : out.length ≤ 1000000) (hbi : inn.length ≤ 1000000) (x : Msg) :
  Con Try.prog 57 #[.pointer (some ⟨b, o, none⟩), .agg (encM x).toArray] E l (fun _ : Unit => .tuple #[.agg (encR (inn.headD ((0, 0), 0))).toArray, .bool (!inn.isEmpty)]) (fun _ => reA b o (bif inn.isEmpty then out ++ [x] else out) inn.tail :: m) := by
 rcases inn with _ | ⟨r, rs⟩
 ·
  refine Con.body (vs := [.pointer (some ⟨b, o, none⟩), .agg (encM x).toArray]) (n := 41) Try.func57 rfl rfl [(0, .pointer (some ⟨b, o, none⟩)), (1, .agg (encM x).toArray)] (env_ok 2 rfl) ?_
  refine J_pick hp ?_
  refine J_reO fun vo vi _ => ?_
  refine J_row (.there .here) fun hwo ao co hvo h1o h2o h3o => ?_
  subst hvo
  refine J_row (.there (.there .here)) fun hwi ai ci hvi h1i h2i h3i => ?_
  subst hvi
  have hmlo : (out.map encM).length = out.length := List.length_map _
  have hmli : (([] : List Rcv).map encR).length = ([] : List Rcv).length := List.length_map _
  have hmo : co ≤ 9223372036854775807 := h2o
  have hmi : ci ≤ 9223372036854775807 := h2i
  refine J_seq ?_
  refine J_region ?_
  refine L_op (x_box rfl rfl rfl fun b3 => ?_)
  refine L_op (x_alloc ty104 rfl fun b4 => ?_)
  refine L_pur rfl (p_assign rfl) ?_
  refine L_nil ?_
  refine Q_then ?_
  refine J_seq ?_
  refine J_seq ?_
  refine J_region ?_
  refine L_pur rfl (p_move rfl) ?_
  refine L_pur rfl (p_nilCheck rfl) ?_
  refine L_pur rfl (p_fieldAddr rfl fa101_1) ?_
  refine L_val rfl (v_loadL rfl ty99 HS rfl (by exact rfl)) ?_
  refine L_pur rfl (p_len rfl Try.underlying99) ?_
  refine L_pur rfl (p_eql rfl rfl) ?_
  refine L_nil ?_
  refine Q_then ?_
  refine J_bool (t := 12) (c := true) rfl (by simp) ?_
  refine C_true rfl ?_
  refine J_seq ?_
  refine J_drawI (some 12) [fld b o [.slice ao (out.map encM).length co, .slice ai (([] : List Rcv).map encR).length ci], blk b3 107 (encM x)] mixed ?_
  refine I_take (i := 0) rfl rfl rfl rfl (by kernel_rfl) (fun _ _ _ _ h => h) (fun _ => Pur.vl (p_move rfl)) ?_
  refine I_take (i := 2) rfl rfl rfl rfl (by kernel_rfl) (fun _ _ _ _ h => h) (fun _ => Pur.vl (p_move rfl)) ?_
  refine I_take (i := 3) rfl rfl rfl rfl (by kernel_rfl) (fun _ _ _ _ h => h) (fun _ => Pur.vl (p_nilCheck rfl)) ?_
  refine I_take (i := 4) rfl rfl rfl rfl (by kernel_rfl) (fun _ _ _ _ h => h) (fun _ => Pur.vl (p_fieldAddr rfl fa101_0)) ?_
  refine I_take (i := 5) rfl rfl rfl rfl (by kernel_rfl) (fun _ _ _ _ h => h) (fun _ => v_loadL rfl ty98 HS rfl (by exact rfl)) ?_
  refine I_take (i := 7) rfl rfl rfl rfl (by kernel_rfl) (fun _ _ _ _ h => h) (fun _ => v_loadA rfl ty107 HS CT) ?_
  refine I_ready (rs := [1, 8]) SI (by kernel_rfl) (by simp) ?_
  refine (I_cons rfl ?_ (I_cons rfl ?_ I_nil))
  ·
   refine x_lit (vals := []) Try.underlying98 ty107 rfl .nil .nil Wf.nil rfl (by decide) rfl rfl fun v14 => ?_
   refine J_row .here fun hw14 a14 c14 hv14 hl14 hm14 hz14 => ?_
   subst hv14
   refine I_ready (rs := [6, 8]) SI (by kernel_rfl) (by simp) ?_
   refine (I_cons rfl ?_ (I_cons rfl ?_ I_nil))
   ·
    refine x_app rfl rfl Try.underlying98 ty107 rfl rfl PC (fun w H => sep_reads HS H) (by first | omega | (simp <;> omega)) (by first | omega | (simp <;> omega)) rfl fun v19 => ?_
    refine J_rowEq (ys := out.map encM) (by simp) ?_
    refine J_row .here fun hw19 a19 c19 hv19 hl19 hm19 hz19 => ?_
    subst hv19
    refine I_one (i := 8) SI (by kernel_rfl) rfl ?_
    refine x_lit (vals := [_]) Try.underlying98 ty107 rfl (.cons rfl .nil) (.agg .nil) (Wf.cons rfl rfl Wf.nil) rfl (by decide) rfl rfl fun v21 => ?_
    refine J_row .here fun hw21 a21 c21 hv21 hl21 hm21 hz21 => ?_
    subst hv21
    refine I_one (i := 9) SI (by kernel_rfl) rfl ?_
    refine x_app rfl rfl Try.underlying98 ty107 rfl rfl PC (fun w H => sep_reads HS H) (by first | omega | (simp <;> omega)) (by first | omega | (simp <;> omega)) rfl fun v22 => ?_
    refine J_rowEq (ys := (out ++ [x]).map encM) (by simp) ?_
    refine J_row .here fun hw22 a22 c22 hv22 hl22 hm22 hz22 => ?_
    subst hv22
    refine I_take (i := 10) rfl rfl rfl rfl (by kernel_rfl) (fun _ _ _ _ h => h) (fun _ => Pur.vl (p_nilCheck rfl)) ?_
    refine I_take (i := 11) rfl rfl rfl rfl (by kernel_rfl) (fun _ _ _ _ h => h) (fun _ => Pur.vl (p_fieldAddr rfl fa101_0)) ?_
    refine I_one (i := 12) SI (by kernel_rfl) rfl ?_
    refine x_storeL rfl rfl ty98 rfl (by first | rfl | (simp [*]; done)) (by first | rfl | (simp [*]; done)) rfl RO rfl PT ?_
    refine I_done SI (by kernel_rfl) ?_
    refine Q_then ?_
    refine J_seq ?_
    refine J_region ?_
    refine L_pur rfl (bld104 .nil (by repeat constructor)) ?_
    refine L_op (x_store rfl rfl ty104 rfl (by first | rfl | (simp [*]; done)) (by first | rfl | (simp [*]; done)) RO PT ?_)
    refine L_pur rfl (p_assign rfl) ?_
    refine L_nil ?_
    refine Q_then ?_
    refine J_ret ?_
    refine Q_then_ret ?_
    refine J_reS (b := b) (o := o) (out := out ++ [x]) (inn := []) _ _ PX trivial ?_
    exact J_return (()) Try.results57 (.cellA rfl ty104 HS CT (.tmp rfl .nil)) rfl SU
   ·
    refine x_lit (vals := [_]) Try.underlying98 ty107 rfl (.cons rfl .nil) (.agg .nil) (Wf.cons rfl rfl Wf.nil) rfl (by decide) rfl rfl fun v21 => ?_
    refine J_row .here fun hw21 a21 c21 hv21 hl21 hm21 hz21 => ?_
    subst hv21
    refine I_one (i := 6) SI (by kernel_rfl) rfl ?_
    refine x_app rfl rfl Try.underlying98 ty107 rfl rfl PC (fun w H => sep_reads HS H) (by first | omega | (simp <;> omega)) (by first | omega | (simp <;> omega)) rfl fun v19 => ?_
    refine J_rowEq (ys := out.map encM) (by simp) ?_
    refine J_row .here fun hw19 a19 c19 hv19 hl19 hm19 hz19 => ?_
    subst hv19
    refine I_one (i := 9) SI (by kernel_rfl) rfl ?_
    refine x_app rfl rfl Try.underlying98 ty107 rfl rfl PC (fun w H => sep_reads HS H) (by first | omega | (simp <;> omega)) (by first | omega | (simp <;> omega)) rfl fun v22 => ?_
    refine J_rowEq (ys := (out ++ [x]).map encM) (by simp) ?_
    refine J_row .here fun hw22 a22 c22 hv22 hl22 hm22 hz22 => ?_
    subst hv22
    refine I_take (i := 10) rfl rfl rfl rfl (by kernel_rfl) (fun _ _ _ _ h => h) (fun _ => Pur.vl (p_nilCheck rfl)) ?_
    refine I_take (i := 11) rfl rfl rfl rfl (by kernel_rfl) (fun _ _ _ _ h => h) (fun _ => Pur.vl (p_fieldAddr rfl fa101_0)) ?_
    refine I_one (i := 12) SI (by kernel_rfl) rfl ?_
    refine x_storeL rfl rfl ty98 rfl (by first | rfl | (simp [*]; done)) (by first | rfl | (simp [*]; done)) rfl RO rfl PT ?_
    refine I_done SI (by kernel_rfl) ?_
    refine Q_then ?_
    refine J_seq ?_
    refine J_region ?_
    refine L_pur rfl (bld104 .nil (by repeat constructor)) ?_
    refine L_op (x_store rfl rfl ty104 rfl (by first | rfl | (simp [*]; done)) (by first | rfl | (simp [*]; done)) RO PT ?_)
    refine L_pur rfl (p_assign rfl) ?_
    refine L_nil ?_
    refine Q_then ?_
    refine J_ret ?_
    refine Q_then_ret ?_
    refine J_reS (b := b) (o := o) (out := out ++ [x]) (inn := []) _ _ PX trivial ?_
    exact J_return (()) Try.results57 (.cellA rfl ty104 HS CT (.tmp rfl .nil)) rfl SU
  ·
   refine x_lit (vals := [_]) Try.underlying98 ty107 rfl (.cons rfl .nil) (.agg .nil) (Wf.cons rfl rfl Wf.nil) rfl (by decide) rfl rfl fun v21 => ?_
   refine J_row .here fun hw21 a21 c21 hv21 hl21 hm21 hz21 => ?_
   subst hv21
   refine I_one (i := 1) SI (by kernel_rfl) rfl ?_
   refine x_lit (vals := []) Try.underlying98 ty107 rfl .nil .nil Wf.nil rfl (by decide) rfl rfl fun v14 => ?_
   refine J_row .here fun hw14 a14 c14 hv14 hl14 hm14 hz14 => ?_
   subst hv14
   refine I_one (i := 6) SI (by kernel_rfl) rfl ?_
   refine x_app rfl rfl Try.underlying98 ty107 rfl rfl PC (fun w H => sep_reads HS H) (by first | omega | (simp <;> omega)) (by first | omega | (simp <;> omega)) rfl fun v19 => ?_
   refine J_rowEq (ys := out.map encM) (by simp) ?_
   refine J_row .here fun hw19 a19 c19 hv19 hl19 hm19 hz19 => ?_
   subst hv19
   refine I_one (i := 9) SI (by kernel_rfl) rfl ?_
   refine x_app rfl rfl Try.underlying98 ty107 rfl rfl PC (fun w H => sep_reads HS H) (by first | omega | (simp <;> omega)) (by first | omega | (simp <;> omega)) rfl fun v22 => ?_
   refine J_rowEq (ys := (out ++ [x]).map encM) (by simp) ?_
   refine J_row .here fun hw22 a22 c22 hv22 hl22 hm22 hz22 => ?_
   subst hv22
   refine I_take (i := 10) rfl rfl rfl rfl (by kernel_rfl) (fun _ _ _ _ h => h) (fun _ => Pur.vl (p_nilCheck rfl)) ?_
   refine I_take (i := 11) rfl rfl rfl rfl (by kernel_rfl) (fun _ _ _ _ h => h) (fun _ => Pur.vl (p_fieldAddr rfl fa101_0)) ?_
   refine I_one (i := 12) SI (by kernel_rfl) rfl ?_
   refine x_storeL rfl rfl ty98 rfl (by first | rfl | (simp [*]; done)) (by first | rfl | (simp [*]; done)) rfl RO rfl PT ?_
   refine I_done SI (by kernel_rfl) ?_
   refine Q_then ?_
   refine J_seq ?_
   refine J_region ?_
   refine L_pur rfl (bld104 .nil (by repeat constructor)) ?_
   refine L_op (x_store rfl rfl ty104 rfl (by first | rfl | (simp [*]; done)) (by first | rfl | (simp [*]; done)) RO PT ?_)
   refine L_pur rfl (p_assign rfl) ?_
   refine L_nil ?_
   refine Q_then ?_
   refine J_ret ?_
   refine Q_then_ret ?_
   refine J_reS (b := b) (o := o) (out := out ++ [x]) (inn := []) _ _ PX trivial ?_
   exact J_return (()) Try.results57 (.cellA rfl ty104 HS CT (.tmp rfl .nil)) rfl SU
 ·
  refine Con.body (vs := [.pointer (some ⟨b, o, none⟩), .agg (encM x).toArray]) (n := 41) Try.func57 rfl rfl [(0, .pointer (some ⟨b, o, none⟩)), (1, .agg (encM x).toArray)] (env_ok 2 rfl) ?_
  have hlc : (r :: rs).length = rs.length + 1 := rfl
  refine J_pick hp ?_
  refine J_reO fun vo vi _ => ?_
  refine J_row (.there .here) fun hwo ao co hvo h1o h2o h3o => ?_
  subst hvo
  refine J_row (.there (.there .here)) fun hwi ai ci hvi h1i h2i h3i => ?_
  subst hvi
  have hmlo : (out.map encM).length = out.length := List.length_map _
  have hmli : ((r :: rs).map encR).length = (r :: rs).length := List.length_map _
  have hmo : co ≤ 9223372036854775807 := h2o
  have hmi : ci ≤ 9223372036854775807 := h2i
  refine J_seq ?_
  refine J_region ?_
  refine L_op (x_box rfl rfl rfl fun b3 => ?_)
  refine L_op (x_alloc ty104 rfl fun b4 => ?_)
  refine L_pur rfl (p_assign rfl) ?_
  refine L_nil ?_
  refine Q_then ?_
  refine J_seq ?_
  refine J_seq ?_
  refine J_region ?_
  refine L_pur rfl (p_move rfl) ?_
  refine L_pur rfl (p_nilCheck rfl) ?_
  refine L_pur rfl (p_fieldAddr rfl fa101_1) ?_
  refine L_val rfl (v_loadL rfl ty99 HS rfl (by exact rfl)) ?_
  refine L_pur rfl (p_len rfl Try.underlying99) ?_
  refine L_pur rfl (p_eql rfl rfl) ?_
  refine L_nil ?_
  refine Q_then ?_
  refine J_bool (t := 12) (c := false) rfl (by simp; omega) ?_
  refine C_false rfl ?_
  refine J_skip ?_
  refine Q_then ?_
  refine J_seq ?_
  refine J_region ?_
  refine L_pur rfl (p_move rfl) ?_
  refine L_pur rfl (p_nilCheck rfl) ?_
  refine L_pur rfl (p_fieldAddr rfl fa101_1) ?_
  refine L_val rfl (v_loadL rfl ty99 HS rfl (by exact rfl)) ?_
  obtain ⟨bx, ox, hbx⟩ := h3i (by simp)
  subst hbx
  refine L_pur rfl (p_indexAddr rfl rfl Try.underlying99 ty104 (by omega) (by simp)) ?_
  refine L_val rfl (v_loadE rfl ty104 HS (by rfl)) ?_
  refine L_op (x_alloc ty104 rfl fun b6 => ?_)
  refine L_op (x_store rfl rfl ty104 rfl (by first | rfl | (simp [*]; done)) (by first | rfl | (simp [*]; done)) RO PT ?_)
  refine L_nil ?_
  refine Q_then ?_
  refine J_seq ?_
  refine J_region ?_
  refine L_pur rfl (p_move rfl) ?_
  refine L_pur rfl (p_move rfl) ?_
  refine L_pur rfl (p_nilCheck rfl) ?_
  refine L_pur rfl (p_fieldAddr rfl fa101_1) ?_
  refine L_val rfl (v_loadL rfl ty99 HS rfl (by exact rfl)) ?_
  refine L_pur rfl (p_slice rfl Try.underlying99 ty104 rfl rfl (by simp) (by omega) (by omega)) ?_
  refine J_pick (A := row 104 3 (.slice (some ⟨bx, ox, none⟩) ((r :: rs).map encR).length ci) ((r :: rs).map encR)) PC ?_
  refine J_dropS (t := 37) (lo := 1) rfl (by simp) fun a37 => ?_
  refine J_rowEq (ys := rs.map encR) (by simp) ?_
  refine L_pur rfl (p_nilCheck rfl) ?_
  refine L_pur rfl (p_fieldAddr rfl fa101_1) ?_
  refine L_op (x_storeL rfl rfl ty99 rfl (by first | rfl | (simp [*]; done)) (by first | rfl | (simp [*]; done)) rfl RO rfl PT ?_)
  refine L_nil ?_
  refine Q_then ?_
  refine J_seq ?_
  refine J_region ?_
  refine L_val rfl (v_loadA rfl ty104 HS CT) ?_
  refine L_op (x_store rfl rfl ty104 rfl (by first | rfl | (simp [*]; done)) (by first | rfl | (simp [*]; done)) RO PT ?_)
  refine L_pur rfl (p_assign rfl) ?_
  refine L_nil ?_
  refine Q_then ?_
  refine J_ret ?_
  refine J_reS (b := b) (o := o) (out := out) (inn := rs) _ _ PX trivial ?_
  exact J_return (()) Try.results57 (.cellA rfl ty104 HS CT (.tmp rfl .nil)) rfl SU

set_option maxRecDepth 100000 in
set_option maxHeartbeats 4000000 in
theorem rrecv {E : World} {l m : List As}{b o : Nat} {out : List Msg} {inn : List Rcv} (hp : Pick (reA b o out inn) l m) (hbo : out.length ≤ 1000000) (hbi : inn.length ≤ 1000000) (x : Rcv) :
  Con Try.prog 60 #[.pointer (some ⟨b, o, none⟩), .agg (encR x).toArray] E l (fun _ : Unit => .tuple #[.agg (encM (out.headD ((0, 0), 0, 0, false))).toArray, .bool (!out.isEmpty)]) (fun _ => reA b o out.tail (bif out.isEmpty then inn ++ [x] else inn) :: m) := by
 rcases out with _ | ⟨r, rs⟩
 ·
  refine Con.body (vs := [.pointer (some ⟨b, o, none⟩), .agg (encR x).toArray]) (n := 41) Try.func60 rfl rfl [(0, .pointer (some ⟨b, o, none⟩)), (1, .agg (encR x).toArray)] (env_ok 2 rfl) ?_
  refine J_pick hp ?_
  refine J_reO fun vo vi _ => ?_
  refine J_row (.there .here) fun hwo ao co hvo h1o h2o h3o => ?_
  subst hvo
  refine J_row (.there (.there .here)) fun hwi ai ci hvi h1i h2i h3i => ?_
  subst hvi
  have hmlo : (([] : List Msg).map encM).length = ([] : List Msg).length := List.length_map _
  have hmli : (inn.map encR).length = inn.length := List.length_map _
  have hmo : co ≤ 9223372036854775807 := h2o
  have hmi : ci ≤ 9223372036854775807 := h2i
  refine J_seq ?_
  refine J_region ?_
  refine L_op (x_box rfl rfl rfl fun b3 => ?_)
  refine L_op (x_alloc ty107 rfl fun b4 => ?_)
  refine L_pur rfl (p_assign rfl) ?_
  refine L_nil ?_
  refine Q_then ?_
  refine J_seq ?_
  refine J_seq ?_
  refine J_region ?_
  refine L_pur rfl (p_move rfl) ?_
  refine L_pur rfl (p_nilCheck rfl) ?_
  refine L_pur rfl (p_fieldAddr rfl fa101_0) ?_
  refine L_val rfl (v_loadL rfl ty98 HS rfl (by exact rfl)) ?_
  refine L_pur rfl (p_len rfl Try.underlying98) ?_
  refine L_pur rfl (p_eql rfl rfl) ?_
  refine L_nil ?_
  refine Q_then ?_
  refine J_bool (t := 12) (c := true) rfl (by simp) ?_
  refine C_true rfl ?_
  refine J_seq ?_
  refine J_drawI (some 12) [fld b o [.slice ao (([] : List Msg).map encM).length co, .slice ai (inn.map encR).length ci], blk b3 104 (encR x)] mixed ?_
  refine I_take (i := 0) rfl rfl rfl rfl (by kernel_rfl) (fun _ _ _ _ h => h) (fun _ => Pur.vl (p_move rfl)) ?_
  refine I_take (i := 2) rfl rfl rfl rfl (by kernel_rfl) (fun _ _ _ _ h => h) (fun _ => Pur.vl (p_move rfl)) ?_
  refine I_take (i := 3) rfl rfl rfl rfl (by kernel_rfl) (fun _ _ _ _ h => h) (fun _ => Pur.vl (p_nilCheck rfl)) ?_
  refine I_take (i := 4) rfl rfl rfl rfl (by kernel_rfl) (fun _ _ _ _ h => h) (fun _ => Pur.vl (p_fieldAddr rfl fa101_1)) ?_
  refine I_take (i := 5) rfl rfl rfl rfl (by kernel_rfl) (fun _ _ _ _ h => h) (fun _ => v_loadL rfl ty99 HS rfl (by exact rfl)) ?_
  refine I_take (i := 7) rfl rfl rfl rfl (by kernel_rfl) (fun _ _ _ _ h => h) (fun _ => v_loadA rfl ty104 HS CT) ?_
  refine I_ready (rs := [1, 8]) SI (by kernel_rfl) (by simp) ?_
  refine (I_cons rfl ?_ (I_cons rfl ?_ I_nil))
  ·
   refine x_lit (vals := []) Try.underlying99 ty104 rfl .nil .nil Wf.nil rfl (by decide) rfl rfl fun v14 => ?_
   refine J_row .here fun hw14 a14 c14 hv14 hl14 hm14 hz14 => ?_
   subst hv14
   refine I_ready (rs := [6, 8]) SI (by kernel_rfl) (by simp) ?_
   refine (I_cons rfl ?_ (I_cons rfl ?_ I_nil))
   ·
    refine x_app rfl rfl Try.underlying99 ty104 rfl rfl PC (fun w H => sep_reads HS H) (by first | omega | (simp <;> omega)) (by first | omega | (simp <;> omega)) rfl fun v19 => ?_
    refine J_rowEq (ys := inn.map encR) (by simp) ?_
    refine J_row .here fun hw19 a19 c19 hv19 hl19 hm19 hz19 => ?_
    subst hv19
    refine I_one (i := 8) SI (by kernel_rfl) rfl ?_
    refine x_lit (vals := [_]) Try.underlying99 ty104 rfl (.cons rfl .nil) (.agg .nil) (Wf.cons rfl rfl Wf.nil) rfl (by decide) rfl rfl fun v21 => ?_
    refine J_row .here fun hw21 a21 c21 hv21 hl21 hm21 hz21 => ?_
    subst hv21
    refine I_one (i := 9) SI (by kernel_rfl) rfl ?_
    refine x_app rfl rfl Try.underlying99 ty104 rfl rfl PC (fun w H => sep_reads HS H) (by first | omega | (simp <;> omega)) (by first | omega | (simp <;> omega)) rfl fun v22 => ?_
    refine J_rowEq (ys := (inn ++ [x]).map encR) (by simp) ?_
    refine J_row .here fun hw22 a22 c22 hv22 hl22 hm22 hz22 => ?_
    subst hv22
    refine I_take (i := 10) rfl rfl rfl rfl (by kernel_rfl) (fun _ _ _ _ h => h) (fun _ => Pur.vl (p_nilCheck rfl)) ?_
    refine I_take (i := 11) rfl rfl rfl rfl (by kernel_rfl) (fun _ _ _ _ h => h) (fun _ => Pur.vl (p_fieldAddr rfl fa101_1)) ?_
    refine I_one (i := 12) SI (by kernel_rfl) rfl ?_
    refine x_storeL rfl rfl ty99 rfl (by first | rfl | (simp [*]; done)) (by first | rfl | (simp [*]; done)) rfl RO rfl PT ?_
    refine I_done SI (by kernel_rfl) ?_
    refine Q_then ?_
    refine J_seq ?_
    refine J_region ?_
    refine L_pur rfl (bld107 .nil (by repeat constructor)) ?_
    refine L_op (x_store rfl rfl ty107 rfl (by first | rfl | (simp [*]; done)) (by first | rfl | (simp [*]; done)) RO PT ?_)
    refine L_pur rfl (p_assign rfl) ?_
    refine L_nil ?_
    refine Q_then ?_
    refine J_ret ?_
    refine Q_then_ret ?_
    refine J_reS (b := b) (o := o) (out := []) (inn := inn ++ [x]) _ _ PX trivial ?_
    exact J_return (()) Try.results60 (.cellA rfl ty107 HS CT (.tmp rfl .nil)) rfl SU
   ·
    refine x_lit (vals := [_]) Try.underlying99 ty104 rfl (.cons rfl .nil) (.agg .nil) (Wf.cons rfl rfl Wf.nil) rfl (by decide) rfl rfl fun v21 => ?_
    refine J_row .here fun hw21 a21 c21 hv21 hl21 hm21 hz21 => ?_
    subst hv21
    refine I_one (i := 6) SI (by kernel_rfl) rfl ?_
    refine x_app rfl rfl Try.underlying99 ty104 rfl rfl PC (fun w H => sep_reads HS H) (by first | omega | (simp <;> omega)) (by first | omega | (simp <;> omega)) rfl fun v19 => ?_
    refine J_rowEq (ys := inn.map encR) (by simp) ?_
    refine J_row .here fun hw19 a19 c19 hv19 hl19 hm19 hz19 => ?_
    subst hv19
    refine I_one (i := 9) SI (by kernel_rfl) rfl ?_
    refine x_app rfl rfl Try.underlying99 ty104 rfl rfl PC (fun w H => sep_reads HS H) (by first | omega | (simp <;> omega)) (by first | omega | (simp <;> omega)) rfl fun v22 => ?_
    refine J_rowEq (ys := (inn ++ [x]).map encR) (by simp) ?_
    refine J_row .here fun hw22 a22 c22 hv22 hl22 hm22 hz22 => ?_
    subst hv22
    refine I_take (i := 10) rfl rfl rfl rfl (by kernel_rfl) (fun _ _ _ _ h => h) (fun _ => Pur.vl (p_nilCheck rfl)) ?_
    refine I_take (i := 11) rfl rfl rfl rfl (by kernel_rfl) (fun _ _ _ _ h => h) (fun _ => Pur.vl (p_fieldAddr rfl fa101_1)) ?_
    refine I_one (i := 12) SI (by kernel_rfl) rfl ?_
    refine x_storeL rfl rfl ty99 rfl (by first | rfl | (simp [*]; done)) (by first | rfl | (simp [*]; done)) rfl RO rfl PT ?_
    refine I_done SI (by kernel_rfl) ?_
    refine Q_then ?_
    refine J_seq ?_
    refine J_region ?_
    refine L_pur rfl (bld107 .nil (by repeat constructor)) ?_
    refine L_op (x_store rfl rfl ty107 rfl (by first | rfl | (simp [*]; done)) (by first | rfl | (simp [*]; done)) RO PT ?_)
    refine L_pur rfl (p_assign rfl) ?_
    refine L_nil ?_
    refine Q_then ?_
    refine J_ret ?_
    refine Q_then_ret ?_
    refine J_reS (b := b) (o := o) (out := []) (inn := inn ++ [x]) _ _ PX trivial ?_
    exact J_return (()) Try.results60 (.cellA rfl ty107 HS CT (.tmp rfl .nil)) rfl SU
  ·
   refine x_lit (vals := [_]) Try.underlying99 ty104 rfl (.cons rfl .nil) (.agg .nil) (Wf.cons rfl rfl Wf.nil) rfl (by decide) rfl rfl fun v21 => ?_
   refine J_row .here fun hw21 a21 c21 hv21 hl21 hm21 hz21 => ?_
   subst hv21
   refine I_one (i := 1) SI (by kernel_rfl) rfl ?_
   refine x_lit (vals := []) Try.underlying99 ty104 rfl .nil .nil Wf.nil rfl (by decide) rfl rfl fun v14 => ?_
   refine J_row .here fun hw14 a14 c14 hv14 hl14 hm14 hz14 => ?_
   subst hv14
   refine I_one (i := 6) SI (by kernel_rfl) rfl ?_
   refine x_app rfl rfl Try.underlying99 ty104 rfl rfl PC (fun w H => sep_reads HS H) (by first | omega | (simp <;> omega)) (by first | omega | (simp <;> omega)) rfl fun v19 => ?_
   refine J_rowEq (ys := inn.map encR) (by simp) ?_
   refine J_row .here fun hw19 a19 c19 hv19 hl19 hm19 hz19 => ?_
   subst hv19
   refine I_one (i := 9) SI (by kernel_rfl) rfl ?_
   refine x_app rfl rfl Try.underlying99 ty104 rfl rfl PC (fun w H => sep_reads HS H) (by first | omega | (simp <;> omega)) (by first | omega | (simp <;> omega)) rfl fun v22 => ?_
   refine J_rowEq (ys := (inn ++ [x]).map encR) (by simp) ?_
   refine J_row .here fun hw22 a22 c22 hv22 hl22 hm22 hz22 => ?_
   subst hv22
   refine I_take (i := 10) rfl rfl rfl rfl (by kernel_rfl) (fun _ _ _ _ h => h) (fun _ => Pur.vl (p_nilCheck rfl)) ?_
   refine I_take (i := 11) rfl rfl rfl rfl (by kernel_rfl) (fun _ _ _ _ h => h) (fun _ => Pur.vl (p_fieldAddr rfl fa101_1)) ?_
   refine I_one (i := 12) SI (by kernel_rfl) rfl ?_
   refine x_storeL rfl rfl ty99 rfl (by first | rfl | (simp [*]; done)) (by first | rfl | (simp [*]; done)) rfl RO rfl PT ?_
   refine I_done SI (by kernel_rfl) ?_
   refine Q_then ?_
   refine J_seq ?_
   refine J_region ?_
   refine L_pur rfl (bld107 .nil (by repeat constructor)) ?_
   refine L_op (x_store rfl rfl ty107 rfl (by first | rfl | (simp [*]; done)) (by first | rfl | (simp [*]; done)) RO PT ?_)
   refine L_pur rfl (p_assign rfl) ?_
   refine L_nil ?_
   refine Q_then ?_
   refine J_ret ?_
   refine Q_then_ret ?_
   refine J_reS (b := b) (o := o) (out := []) (inn := inn ++ [x]) _ _ PX trivial ?_
   exact J_return (()) Try.results60 (.cellA rfl ty107 HS CT (.tmp rfl .nil)) rfl SU
 ·
  refine Con.body (vs := [.pointer (some ⟨b, o, none⟩), .agg (encR x).toArray]) (n := 41) Try.func60 rfl rfl [(0, .pointer (some ⟨b, o, none⟩)), (1, .agg (encR x).toArray)] (env_ok 2 rfl) ?_
  have hlc : (r :: rs).length = rs.length + 1 := rfl
  refine J_pick hp ?_
  refine J_reO fun vo vi _ => ?_
  refine J_row (.there .here) fun hwo ao co hvo h1o h2o h3o => ?_
  subst hvo
  refine J_row (.there (.there .here)) fun hwi ai ci hvi h1i h2i h3i => ?_
  subst hvi
  have hmlo : ((r :: rs).map encM).length = (r :: rs).length := List.length_map _
  have hmli : (inn.map encR).length = inn.length := List.length_map _
  have hmo : co ≤ 9223372036854775807 := h2o
  have hmi : ci ≤ 9223372036854775807 := h2i
  refine J_seq ?_
  refine J_region ?_
  refine L_op (x_box rfl rfl rfl fun b3 => ?_)
  refine L_op (x_alloc ty107 rfl fun b4 => ?_)
  refine L_pur rfl (p_assign rfl) ?_
  refine L_nil ?_
  refine Q_then ?_
  refine J_seq ?_
  refine J_seq ?_
  refine J_region ?_
  refine L_pur rfl (p_move rfl) ?_
  refine L_pur rfl (p_nilCheck rfl) ?_
  refine L_pur rfl (p_fieldAddr rfl fa101_0) ?_
  refine L_val rfl (v_loadL rfl ty98 HS rfl (by exact rfl)) ?_
  refine L_pur rfl (p_len rfl Try.underlying98) ?_
  refine L_pur rfl (p_eql rfl rfl) ?_
  refine L_nil ?_
  refine Q_then ?_
  refine J_bool (t := 12) (c := false) rfl (by simp; omega) ?_
  refine C_false rfl ?_
  refine J_skip ?_
  refine Q_then ?_
  refine J_seq ?_
  refine J_region ?_
  refine L_pur rfl (p_move rfl) ?_
  refine L_pur rfl (p_nilCheck rfl) ?_
  refine L_pur rfl (p_fieldAddr rfl fa101_0) ?_
  refine L_val rfl (v_loadL rfl ty98 HS rfl (by exact rfl)) ?_
  obtain ⟨bx, ox, hbx⟩ := h3o (by simp)
  subst hbx
  refine L_pur rfl (p_indexAddr rfl rfl Try.underlying98 ty107 (by omega) (by simp)) ?_
  refine L_val rfl (v_loadE rfl ty107 HS (by rfl)) ?_
  refine L_op (x_alloc ty107 rfl fun b6 => ?_)
  refine L_op (x_store rfl rfl ty107 rfl (by first | rfl | (simp [*]; done)) (by first | rfl | (simp [*]; done)) RO PT ?_)
  refine L_nil ?_
  refine Q_then ?_
  refine J_seq ?_
  refine J_region ?_
  refine L_pur rfl (p_move rfl) ?_
  refine L_pur rfl (p_move rfl) ?_
  refine L_pur rfl (p_nilCheck rfl) ?_
  refine L_pur rfl (p_fieldAddr rfl fa101_0) ?_
  refine L_val rfl (v_loadL rfl ty98 HS rfl (by exact rfl)) ?_
  refine L_pur rfl (p_slice rfl Try.underlying98 ty107 rfl rfl (by simp) (by omega) (by omega)) ?_
  refine J_pick (A := row 107 5 (.slice (some ⟨bx, ox, none⟩) ((r :: rs).map encM).length co) ((r :: rs).map encM)) PC ?_
  refine J_dropS (t := 37) (lo := 1) rfl (by simp) fun a37 => ?_
  refine J_rowEq (ys := rs.map encM) (by simp) ?_
  refine L_pur rfl (p_nilCheck rfl) ?_
  refine L_pur rfl (p_fieldAddr rfl fa101_0) ?_
  refine L_op (x_storeL rfl rfl ty98 rfl (by first | rfl | (simp [*]; done)) (by first | rfl | (simp [*]; done)) rfl RO rfl PT ?_)
  refine L_nil ?_
  refine Q_then ?_
  refine J_seq ?_
  refine J_region ?_
  refine L_val rfl (v_loadA rfl ty107 HS CT) ?_
  refine L_op (x_store rfl rfl ty107 rfl (by first | rfl | (simp [*]; done)) (by first | rfl | (simp [*]; done)) RO PT ?_)
  refine L_pur rfl (p_assign rfl) ?_
  refine L_nil ?_
  refine Q_then ?_
  refine J_ret ?_
  refine J_reS (b := b) (o := o) (out := rs) (inn := inn) _ _ PX trivial ?_
  exact J_return (()) Try.results60 (.cellA rfl ty107 HS CT (.tmp rfl .nil)) rfl SU

theorem flt_succ {α : Type} {p : α → Bool} {xs : List α} {k : Nat} {c : α} (h : xs[k]? = some c) : (xs.take (k + 1)).filter p = (xs.take k).filter p ++ if p c then [c] else [] := by
  rw [List.take_add_one, h, List.filter_append]
  by_cases hp : p c = true <;> simp [hp]
theorem flt_len {α : Type} {p : α → Bool} {xs : List α} {k : Nat} (h : k ≤ xs.length) : ((xs.take k).filter p).length ≤ k := Nat.le_trans (List.length_filter_le _ _) (by simp; omega)

set_option maxRecDepth 100000 in
set_option maxHeartbeats 4000000 in
theorem rdrop {E : World} {l m : List As}{b o : Nat} {out : List Msg} {inn : List Rcv} (hp : Pick (reA b o out inn) l m) (hbo : out.length ≤ 1000000) (hbi : inn.length ≤ 1000000) {i : ID} :
    Con Try.prog 59 #[.pointer (some ⟨b, o, none⟩), .agg (encI i).toArray] E l (fun _ : Unit => .bool (decide ((out.filter fun c => !isM i c).length + (inn.filter fun c => !isR i c).length < out.length + inn.length))) (fun _ => reA b o (out.filter fun c => !isM i c) (inn.filter fun c => !isR i c) :: m) := by
  refine Con.body (vs := [.pointer (some ⟨b, o, none⟩), .agg (encI i).toArray]) (n := 95) Try.func59 rfl rfl [(0, .pointer (some ⟨b, o, none⟩)), (1, .agg (encI i).toArray)] (env_ok 2 rfl) ?_
  refine J_pick hp ?_
  refine J_reO fun vo vi _ => ?_
  refine J_row (.there .here) fun hwo ao co hvo h1o h2o h3o => ?_
  subst hvo
  refine J_row (.there (.there .here)) fun hwi ai ci hvi h1i h2i h3i => ?_
  subst hvi
  have hmlo : (out.map encM).length = out.length := List.length_map _
  have hmli : (inn.map encR).length = inn.length := List.length_map _
  have hmo : co ≤ 9223372036854775807 := h2o
  have hmi : ci ≤ 9223372036854775807 := h2i
  refine J_seq ?_
  refine J_region ?_
  refine L_op (x_box rfl rfl rfl fun b3 => ?_)
  refine L_pur rfl (p_assign rfl) ?_
  refine L_nil ?_
  refine Q_then ?_
  refine J_seq ?_
  refine J_region ?_
  refine L_pur rfl (p_assign rfl) ?_
  refine J_nil (el := 107) (sz := 5) ?_
  refine L_nil ?_
  refine Q_then ?_
  refine J_seq ?_
  refine J_seq ?_
  refine J_region ?_
  refine L_pur rfl (p_assign rfl) ?_
  refine L_nil ?_
  refine Q_then ?_
  refine J_block ?_
  refine J_loop2 (fun k v => k ≤ out.length) (fun k v => row 107 5 v (((out.take k).filter (fun c => !isM i c)).map encM) :: fld b o [.slice ao (out.map encM).length co, .slice ai (inn.map encR).length ci] :: row 107 5 (.slice ao (out.map encM).length co) (out.map encM) :: row 104 3 (.slice ai (inn.map encR).length ci) (inn.map encR) :: blk b3 36 (encI i) :: m) (fun k v => [(6, .int .i64 (k : Int)), (5, v), (0, .pointer (some ⟨b, o, none⟩)), (3, .pointer (some ⟨b3, 0, none⟩))]) (fun k v => out.length - k) 0 (.slice none 0 0) (by omega) SU KE ?_
  intro k v hk
  have hfl := flt_len (p := (fun c => !isM i c)) hk
  refine J_seq ?_
  refine J_seq ?_
  refine J_region ?_
  refine L_pur rfl (p_move rfl) ?_
  refine L_pur rfl (p_move rfl) ?_
  refine L_pur rfl (p_nilCheck rfl) ?_
  refine L_pur rfl (p_fieldAddr rfl fa101_0) ?_
  refine L_val rfl (v_loadL rfl ty98 HS rfl (by exact rfl)) ?_
  refine L_pur rfl (p_len rfl Try.underlying98) ?_
  refine L_pur rfl (p_lss rfl rfl) ?_
  refine L_nil ?_
  refine Q_then ?_
  refine C_dec rfl (fun h16 => ?_) (fun h16 => ?_)
  ·
    have hlt : k < out.length := by omega
    obtain ⟨bx, ox, rfl⟩ := h3o (by intro h; rw [h] at hmlo; simp at hmlo; omega)
    obtain ⟨c, hcc⟩ : ∃ c, out[k]? = some c := ⟨_, List.getElem?_eq_getElem hlt⟩
    have hsucc := flt_succ (p := (fun c => !isM i c)) hcc
    refine J_skip ?_
    refine Q_then ?_
    refine J_seq ?_
    refine J_block ?_
    refine J_seq ?_
    refine J_drawS mixed (by kernel_rfl) ?_
    refine S_val rfl (Pur.vl (p_move rfl)) ?_
    refine S_val rfl (Pur.vl (p_nilCheck rfl)) ?_
    refine S_val rfl (Pur.vl (p_fieldAddr rfl fa101_0)) ?_
    refine S_val rfl (v_loadL rfl ty98 HS rfl (by exact rfl)) ?_
    refine S_val rfl (Pur.vl (p_move rfl)) ?_
    refine S_val rfl (Pur.vl (p_indexAddr rfl rfl Try.underlying98 ty107 (by omega) (by omega))) ?_
    refine S_val rfl (Pur.vl (p_fieldAddr rfl fa107_0)) ?_
    refine S_val rfl (v_loadFA rfl ty36 HS (by first | (simp only [Int.toNat_natCast, List.getElem?_map, hcc]; rfl) | (simp only [Int.toNat_natCast, List.getElem?_map, hcd]; rfl) | simp | rfl) CT) ?_
    refine S_val rfl (v_loadA rfl ty36 HS CT) ?_
    refine S_val rfl (Pur.vl (p_nev rfl rfl (fun w => eg36 _ _ _ _ _ w) (fun w => nev36 _ _ _ _ w))) ?_
    refine S_nil ?_
    refine Q_then ?_
    refine C_split rfl (fun h28 => ?_) (fun h28 => ?_)
    ·
      refine J_region ?_
      refine L_pur rfl (p_move rfl) ?_
      refine L_pur rfl (p_move rfl) ?_
      refine L_pur rfl (p_nilCheck rfl) ?_
      refine L_pur rfl (p_fieldAddr rfl fa101_0) ?_
      refine L_val rfl (v_loadL rfl ty98 HS rfl (by exact rfl)) ?_
      refine L_pur rfl (p_move rfl) ?_
      refine L_pur rfl (p_indexAddr rfl rfl Try.underlying98 ty107 (by omega) (by omega)) ?_
      refine L_val rfl (v_loadE rfl ty107 HS (by first | (simp only [Int.toNat_natCast, List.getElem?_map, hcc]; rfl) | (simp only [Int.toNat_natCast, List.getElem?_map, hcd]; rfl) | simp | rfl)) ?_
      refine L_op (x_lit (vals := [_]) Try.underlying98 ty107 rfl (.cons rfl .nil) (.agg .nil) (Wf.cons rfl rfl Wf.nil) rfl (by decide) rfl rfl fun v37 => ?_)
      refine J_row .here fun hw37 a37 c37 hv37 hl37 hm37 hz37 => ?_
      subst hv37
      refine L_op (x_app rfl rfl Try.underlying98 ty107 rfl rfl PC (fun w H => sep_reads HS H) (by first | omega | (simp <;> omega)) (by first | omega | (simp <;> omega)) rfl fun v38 => ?_)
      refine J_rowEq (ys := ((out.take (k + 1)).filter (fun c => !isM i c)).map encM) (by rw [hsucc, if_pos (by simpa [isM] using h28)]; simp) ?_
      refine J_row .here fun hw38 a38 c38 hv38 hl38 hm38 hz38 => ?_
      subst hv38
      refine L_pur rfl (p_assign rfl) ?_
      refine L_nil ?_
      refine Q_blk_normal ?_
      refine Q_then ?_
      refine J_region ?_
      refine L_pur rfl (p_move rfl) ?_
      refine L_pur rfl (p_add64 rfl rfl (by omega)) ?_
      refine L_pur rfl (p_assign rfl) ?_
      refine L_nil ?_
      refine Q_then ?_
      
      exact J_again2 (k + 1) _ (by omega) (by omega) SU KE
    ·
      refine J_skip ?_
      refine Q_blk_normal ?_
      refine Q_then ?_
      refine J_region ?_
      refine L_pur rfl (p_move rfl) ?_
      refine L_pur rfl (p_add64 rfl rfl (by omega)) ?_
      refine L_pur rfl (p_assign rfl) ?_
      refine L_nil ?_
      refine Q_then ?_
      refine J_pick (A := row 107 5 v _) PC ?_
      refine J_rowEq (ys := ((out.take (k + 1)).filter (fun c => !isM i c)).map encM) (by rw [hsucc, if_neg (by simpa [isM] using h28)]; simp) ?_
      exact J_again2 (k + 1) _ (by omega) (by omega) SU KE
  ·
    have hkx : k = out.length := by omega
    subst hkx
    refine J_pick (A := row 107 5 v _) PC ?_
    refine J_rowEq (ys := (out.filter fun c => !isM i c).map encM) (by rw [List.take_length]) ?_
    refine J_row .here fun hws aws cs hvs h1s h2s h3s => ?_
    subst hvs
    refine J_exit ?_
    refine Q_then_exit ?_
    refine Q_then_exit ?_
    refine Q_blk_this ?_
    refine Q_then ?_
    refine J_seq ?_
    refine J_region ?_
    refine L_pur rfl (p_assign rfl) ?_
    refine J_nil (el := 104) (sz := 3) ?_
    refine L_nil ?_
    refine Q_then ?_
    refine J_seq ?_
    refine J_seq ?_
    refine J_region ?_
    refine L_pur rfl (p_assign rfl) ?_
    refine L_nil ?_
    refine Q_then ?_
    refine J_block ?_
    refine J_loop2 (fun k v => k ≤ inn.length) (fun k v => row 104 3 v (((inn.take k).filter (fun c => !isR i c)).map encR) :: row 107 5 (.slice aws ((out.filter fun c => !isM i c).map encM).length cs) ((out.filter fun c => !isM i c).map encM) :: fld b o [.slice ao (out.map encM).length co, .slice ai (inn.map encR).length ci] :: row 107 5 (.slice ao (out.map encM).length co) (out.map encM) :: row 104 3 (.slice ai (inn.map encR).length ci) (inn.map encR) :: blk b3 36 (encI i) :: m) (fun k v => [(8, .int .i64 (k : Int)), (7, v), (5, .slice aws ((out.filter fun c => !isM i c).map encM).length cs), (0, .pointer (some ⟨b, o, none⟩)), (3, .pointer (some ⟨b3, 0, none⟩))]) (fun k v => inn.length - k) 0 (.slice none 0 0) (by omega) SU KE ?_
    intro k v hk
    have hfl := flt_len (p := (fun c => !isR i c)) hk
    refine J_seq ?_
    refine J_seq ?_
    refine J_region ?_
    refine L_pur rfl (p_move rfl) ?_
    refine L_pur rfl (p_move rfl) ?_
    refine L_pur rfl (p_nilCheck rfl) ?_
    refine L_pur rfl (p_fieldAddr rfl fa101_1) ?_
    refine L_val rfl (v_loadL rfl ty99 HS rfl (by exact rfl)) ?_
    refine L_pur rfl (p_len rfl Try.underlying99) ?_
    refine L_pur rfl (p_lss rfl rfl) ?_
    refine L_nil ?_
    refine Q_then ?_
    refine C_dec rfl (fun h45 => ?_) (fun h45 => ?_)
    ·
      have hlt : k < inn.length := by omega
      obtain ⟨bx, ox, rfl⟩ := h3i (by intro h; rw [h] at hmli; simp at hmli; omega)
      obtain ⟨c, hcc⟩ : ∃ c, inn[k]? = some c := ⟨_, List.getElem?_eq_getElem hlt⟩
      have hsucc := flt_succ (p := (fun c => !isR i c)) hcc
      refine J_skip ?_
      refine Q_then ?_
      refine J_seq ?_
      refine J_block ?_
      refine J_seq ?_
      refine J_drawS mixed (by kernel_rfl) ?_
      refine S_val rfl (Pur.vl (p_move rfl)) ?_
      refine S_val rfl (Pur.vl (p_nilCheck rfl)) ?_
      refine S_val rfl (Pur.vl (p_fieldAddr rfl fa101_1)) ?_
      refine S_val rfl (v_loadL rfl ty99 HS rfl (by exact rfl)) ?_
      refine S_val rfl (Pur.vl (p_move rfl)) ?_
      refine S_val rfl (Pur.vl (p_indexAddr rfl rfl Try.underlying99 ty104 (by omega) (by omega))) ?_
      refine S_val rfl (Pur.vl (p_fieldAddr rfl fa104_0)) ?_
      refine S_val rfl (v_loadFA rfl ty36 HS (by first | (simp only [Int.toNat_natCast, List.getElem?_map, hcc]; rfl) | (simp only [Int.toNat_natCast, List.getElem?_map, hcd]; rfl) | simp | rfl) CT) ?_
      refine S_val rfl (v_loadA rfl ty36 HS CT) ?_
      refine S_val rfl (Pur.vl (p_nev rfl rfl (fun w => eg36 _ _ _ _ _ w) (fun w => nev36 _ _ _ _ w))) ?_
      refine S_nil ?_
      refine Q_then ?_
      refine C_split rfl (fun h57 => ?_) (fun h57 => ?_)
      ·
        refine J_region ?_
        refine L_pur rfl (p_move rfl) ?_
        refine L_pur rfl (p_move rfl) ?_
        refine L_pur rfl (p_nilCheck rfl) ?_
        refine L_pur rfl (p_fieldAddr rfl fa101_1) ?_
        refine L_val rfl (v_loadL rfl ty99 HS rfl (by exact rfl)) ?_
        refine L_pur rfl (p_move rfl) ?_
        refine L_pur rfl (p_indexAddr rfl rfl Try.underlying99 ty104 (by omega) (by omega)) ?_
        refine L_val rfl (v_loadE rfl ty104 HS (by first | (simp only [Int.toNat_natCast, List.getElem?_map, hcc]; rfl) | (simp only [Int.toNat_natCast, List.getElem?_map, hcd]; rfl) | simp | rfl)) ?_
        refine L_op (x_lit (vals := [_]) Try.underlying99 ty104 rfl (.cons rfl .nil) (.agg .nil) (Wf.cons rfl rfl Wf.nil) rfl (by decide) rfl rfl fun v66 => ?_)
        refine J_row .here fun hw66 a66 c66 hv66 hl66 hm66 hz66 => ?_
        subst hv66
        refine L_op (x_app rfl rfl Try.underlying99 ty104 rfl rfl PC (fun w H => sep_reads HS H) (by first | omega | (simp <;> omega)) (by first | omega | (simp <;> omega)) rfl fun v67 => ?_)
        refine J_rowEq (ys := ((inn.take (k + 1)).filter (fun c => !isR i c)).map encR) (by rw [hsucc, if_pos (by simpa [isR] using h57)]; simp) ?_
        refine J_row .here fun hw67 a67 c67 hv67 hl67 hm67 hz67 => ?_
        subst hv67
        refine L_pur rfl (p_assign rfl) ?_
        refine L_nil ?_
        refine Q_blk_normal ?_
        refine Q_then ?_
        refine J_region ?_
        refine L_pur rfl (p_move rfl) ?_
        refine L_pur rfl (p_add64 rfl rfl (by omega)) ?_
        refine L_pur rfl (p_assign rfl) ?_
        refine L_nil ?_
        refine Q_then ?_
        
        exact J_again2 (k + 1) _ (by omega) (by omega) SU KE
      ·
        refine J_skip ?_
        refine Q_blk_normal ?_
        refine Q_then ?_
        refine J_region ?_
        refine L_pur rfl (p_move rfl) ?_
        refine L_pur rfl (p_add64 rfl rfl (by omega)) ?_
        refine L_pur rfl (p_assign rfl) ?_
        refine L_nil ?_
        refine Q_then ?_
        refine J_pick (A := row 104 3 v _) PC ?_
        refine J_rowEq (ys := ((inn.take (k + 1)).filter (fun c => !isR i c)).map encR) (by rw [hsucc, if_neg (by simpa [isR] using h57)]; simp) ?_
        exact J_again2 (k + 1) _ (by omega) (by omega) SU KE
    ·
      have hkx : k = inn.length := by omega
      subst hkx
      refine J_pick (A := row 104 3 v _) PC ?_
      refine J_rowEq (ys := (inn.filter fun c => !isR i c).map encR) (by rw [List.take_length]) ?_
      refine J_row .here fun hwr ar cr hvr h1r h2r h3r => ?_
      subst hvr
      have lo := List.length_filter_le (fun c => !isM i c) out
      have li := List.length_filter_le (fun c => !isR i c) inn
      refine J_exit ?_
      refine Q_then_exit ?_
      refine Q_then_exit ?_
      refine Q_blk_this ?_
      refine Q_then ?_
      refine J_seq ?_
      refine J_region ?_
      refine L_pur rfl (p_move rfl) ?_
      refine L_pur rfl (p_len rfl Try.underlying98) ?_
      refine L_pur rfl (p_move rfl) ?_
      refine L_pur rfl (p_nilCheck rfl) ?_
      refine L_pur rfl (p_fieldAddr rfl fa101_0) ?_
      refine L_val rfl (v_loadL rfl ty98 HS rfl (by exact rfl)) ?_
      refine L_pur rfl (p_len rfl Try.underlying98) ?_
      refine L_pur rfl (p_lss rfl rfl) ?_
      refine L_pur rfl (p_move rfl) ?_
      refine J_gsplit (t := 76) rfl (fun h76 => ?_) (fun h76 => ?_)
      ·
        refine L_op (G_off rfl rfl rfl rfl rfl rfl ?_)
        refine L_op (G_off rfl rfl rfl rfl rfl rfl ?_)
        refine L_op (G_off rfl rfl rfl rfl rfl rfl ?_)
        refine L_op (G_off rfl rfl rfl rfl rfl rfl ?_)
        refine L_op (G_off rfl rfl rfl rfl rfl rfl ?_)
        refine L_op (G_off rfl rfl rfl rfl rfl rfl ?_)
        refine L_op (G_off rfl rfl rfl rfl rfl rfl ?_)
        refine L_op (G_off rfl rfl rfl rfl rfl rfl ?_)
        refine L_pur rfl (p_pick_t rfl rfl) ?_
        refine L_pur rfl (p_assign rfl) ?_
        refine L_nil ?_
        refine Q_then ?_
        refine J_seq ?_
        refine J_region ?_
        refine L_pur rfl (p_move rfl) ?_
        refine L_pur rfl (p_move rfl) ?_
        refine L_pur rfl (p_nilCheck rfl) ?_
        refine L_pur rfl (p_fieldAddr rfl fa101_0) ?_
        refine L_op (x_storeL rfl rfl ty98 rfl (by first | rfl | (simp [*]; done)) (by first | rfl | (simp [*]; done)) rfl RO rfl PT ?_)
        refine L_nil ?_
        refine Q_then ?_
        refine J_seq ?_
        refine J_region ?_
        refine L_pur rfl (p_move rfl) ?_
        refine L_pur rfl (p_move rfl) ?_
        refine L_pur rfl (p_nilCheck rfl) ?_
        refine L_pur rfl (p_fieldAddr rfl fa101_1) ?_
        refine L_op (x_storeL rfl rfl ty99 rfl (by first | rfl | (simp [*]; done)) (by first | rfl | (simp [*]; done)) rfl RO rfl PT ?_)
        refine L_nil ?_
        refine Q_then ?_
        refine J_seq ?_
        refine J_region ?_
        refine L_pur rfl (p_move rfl) ?_
        refine L_pur rfl (p_assign rfl) ?_
        refine L_nil ?_
        refine Q_then ?_
        refine J_ret ?_
        refine J_reS (b := b) (o := o) (out := (out.filter fun c => !isM i c)) (inn := (inn.filter fun c => !isR i c)) _ _ PX trivial ?_
        refine J_return (()) Try.results59 (.tmp rfl .nil) ?_ ?_
        · simp only [one]; congr 1; simp [-List.length_filter_lt_length_iff_exists] at h76 ⊢; omega
        · exact SU
      ·
        refine L_op (G_on rfl rfl rfl ?_)
        refine J_pur (p_move rfl) rfl rfl rfl ?_
        refine L_op (G_on rfl rfl rfl ?_)
        refine J_pur (p_len rfl Try.underlying99) rfl rfl rfl ?_
        refine L_op (G_on rfl rfl rfl ?_)
        refine J_pur (p_move rfl) rfl rfl rfl ?_
        refine L_op (G_on rfl rfl rfl ?_)
        refine J_pur (p_nilCheck rfl) rfl rfl rfl ?_
        refine L_op (G_on rfl rfl rfl ?_)
        refine J_pur (p_fieldAddr rfl fa101_1) rfl rfl rfl ?_
        refine L_op (G_on rfl rfl rfl ?_)
        refine J_val (v_loadL rfl ty99 HS rfl (by exact rfl)) rfl rfl rfl ?_
        refine L_op (G_on rfl rfl rfl ?_)
        refine J_pur (p_len rfl Try.underlying99) rfl rfl rfl ?_
        refine L_op (G_on rfl rfl rfl ?_)
        refine J_pur (p_lss rfl rfl) rfl rfl rfl ?_
        refine L_pur rfl (p_pick_f rfl rfl) ?_
        refine L_pur rfl (p_assign rfl) ?_
        refine L_nil ?_
        refine Q_then ?_
        refine J_seq ?_
        refine J_region ?_
        refine L_pur rfl (p_move rfl) ?_
        refine L_pur rfl (p_move rfl) ?_
        refine L_pur rfl (p_nilCheck rfl) ?_
        refine L_pur rfl (p_fieldAddr rfl fa101_0) ?_
        refine L_op (x_storeL rfl rfl ty98 rfl (by first | rfl | (simp [*]; done)) (by first | rfl | (simp [*]; done)) rfl RO rfl PT ?_)
        refine L_nil ?_
        refine Q_then ?_
        refine J_seq ?_
        refine J_region ?_
        refine L_pur rfl (p_move rfl) ?_
        refine L_pur rfl (p_move rfl) ?_
        refine L_pur rfl (p_nilCheck rfl) ?_
        refine L_pur rfl (p_fieldAddr rfl fa101_1) ?_
        refine L_op (x_storeL rfl rfl ty99 rfl (by first | rfl | (simp [*]; done)) (by first | rfl | (simp [*]; done)) rfl RO rfl PT ?_)
        refine L_nil ?_
        refine Q_then ?_
        refine J_seq ?_
        refine J_region ?_
        refine L_pur rfl (p_move rfl) ?_
        refine L_pur rfl (p_assign rfl) ?_
        refine L_nil ?_
        refine Q_then ?_
        refine J_ret ?_
        refine J_reS (b := b) (o := o) (out := (out.filter fun c => !isM i c)) (inn := (inn.filter fun c => !isR i c)) _ _ PX trivial ?_
        refine J_return (()) Try.results59 (.tmp rfl .nil) ?_ ?_
        · simp only [one]; congr 1; simp [-List.length_filter_lt_length_iff_exists] at h76 ⊢; omega
        · exact SU

end Go.Pse
