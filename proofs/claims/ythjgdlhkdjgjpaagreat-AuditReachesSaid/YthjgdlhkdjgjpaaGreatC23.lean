/-
  Rings, the journal, lists, notifications, endpoints, deadlines, replies: contracts.
-/
import Derived.Test.YthjgdlhkdjgjpaaGreatC22
namespace Go.Pse
open Go.RowKit Go.Proofs

set_option maxRecDepth 100000 in
set_option maxHeartbeats 4000000 in
theorem ringTail {E : World} {l m : List As} {b mb : Nat} {r : Rg} (hp : Pick (rgA b mb r) l m) :
    Con Tryz.prog 29 #[.pointer (some ⟨b, 0, none⟩)] E l (fun _ : Unit => .int .u32 r.tail) (fun _ => rgA b mb r :: m) := by
  refine Con.body (vs := [.pointer (some ⟨b, 0, none⟩)]) (n := 7) Tryz.func29 rfl rfl [(0, .pointer (some ⟨b, 0, none⟩))] (env_ok 1 rfl) <| J_pick hp <| J_rgO fun v _ => sr <| ag rfl rfl <| nx <| mv rfl rfl <| nc rfl rfl ?_
  refine fa rfl rfl fa167_6 <| L_val rfl (v_load rfl ty36 HS (by exact rfl)) ?_
  refine ag rfl rfl <| nq <| J_ret <| J_rgS (b := b) (mb := mb) (r := r) v PX trivial ?_
  refine J_return (()) Tryz.results29 (.tmp rfl .nil) ?_ ?_
  · rfl
  · exact SU

set_option maxRecDepth 100000 in
set_option maxHeartbeats 4000000 in
theorem jnlAdd {E : World} {l m : List As} {b o : Nat} {xs : List Deed} (hp : Pick (jnlA b o xs) l m) (hb : xs.length ≤ 200000) {d : Deed} :
    Con Tryz.prog 11 #[.pointer (some ⟨b, o, none⟩), .agg (encD d).toArray] E l (fun _ : Unit => .tuple #[]) (fun _ => jnlA b o (xs ++ [d]) :: m) := by
  refine Con.body (vs := [.pointer (some ⟨b, o, none⟩), .agg (encD d).toArray]) (n := 14) Tryz.func11 rfl rfl [(0, .pointer (some ⟨b, o, none⟩)), (1, .agg (encD d).toArray)] (env_ok 2 rfl) <| J_pick hp <| J_jnlO fun v _ => J_row (.there .here) fun hw a cap hv h1 h2 h3 => ?_
  subst hv
  have hm : cap ≤ 9223372036854775807 := h2
  have hml : (xs.map encD).length = xs.length := List.length_map _
  refine sr <| L_op <| x_box rfl rfl rfl fun b3 => nq <| J_drawL (some 7) mixed <| ip 0 rfl rfl rfl rfl (p_move rfl) <| ip 1 rfl rfl rfl rfl (p_move rfl) <| ip 2 rfl rfl rfl rfl (p_nilCheck rfl) ?_
  refine ip 3 rfl rfl rfl rfl (p_fieldAddr rfl fa89_0) <| iv 4 rfl rfl rfl rfl (fun _ => v_loadL rfl ty87 HS rfl (by exact rfl)) ?_
  refine iv 5 rfl rfl rfl rfl (fun _ => v_loadA rfl ty38 HS CT) ?_
  refine i1 6 rfl <| x_lit (vals := [_]) Tryz.underlying87 ty38 rfl (.cons rfl .nil) (.agg .nil) (Wf.cons rfl rfl Wf.nil) rfl (by decide) rfl rfl <| JR fun a10 c10 hw10 hl10 hm10 hz10 => i1 7 rfl <| x_app rfl rfl Tryz.underlying87 ty38 rfl rfl PC (fun w H => sep_reads HS H) (by simp; omega) (by simp; omega) rfl <| JE ((xs ++ [d]).map encD) (by simp) fun a11 c11 hw11 hl11 hm11 hz11 => ip 8 rfl rfl rfl rfl (p_nilCheck rfl) <| ip 9 rfl rfl rfl rfl (p_fieldAddr rfl fa89_0) ?_
  refine i1 10 rfl <| x_storeL rfl rfl ty87 rfl SM SM rfl RO rfl PT ?_
  refine i0 <| J_endnormal <| J_jnlS (b := b) (o := o) (xs := xs ++ [d]) _ PX trivial ?_
  exact J_return (()) Tryz.results11 .nil rfl SU


/-! ### plain: who waits, in order -/
theorem encI_one (c : ID) : ones (encI c) = true := rfl
theorem encI_len (c : ID) : (encI c).length = 2 := rfl
def isI (i c : ID) : Bool := decide (c.1 = i.1 ∧ c.2 = i.2)
theorem isI_iff {i c : ID} : isI i c = true ↔ c = i := by unfold isI; rw [decide_eq_true_eq, Prod.ext_iff]
theorem isI_eq (i c : ID) : isI i c = decide (c = i) := by rw [Bool.eq_iff_iff, isI_iff, decide_eq_true_eq]
def lpush (xs : List ID) (i : ID) : List ID := if i ∈ xs then xs else xs ++ [i]
def ldrop (xs : List ID) (i : ID) : List ID := xs.filter fun c => !isI i c
theorem ldrop_len (xs : List ID) (i : ID) : (ldrop xs i).length ≤ xs.length := List.length_filter_le _ _
theorem lpush_len (xs : List ID) (i : ID) : (lpush xs i).length ≤ xs.length + 1 := by unfold lpush; split <;> simp
theorem ldrop_mem {xs : List ID} {i c : ID} : c ∈ ldrop xs i ↔ c ∈ xs ∧ ¬ c = i := by
  unfold ldrop; rw [List.mem_filter]; simp [isI_eq]
theorem ldrop_no {xs : List ID} {i : ID} (h : i ∉ xs) : ldrop xs i = xs := by
  unfold ldrop; rw [List.filter_eq_self]; intro c hc; have : ¬ c = i := fun e => h (e ▸ hc); simp [isI_eq, this]
theorem ldrop_nodup {xs : List ID} (h : xs.Nodup) (i : ID) : (ldrop xs i).Nodup := List.Nodup.sublist List.filter_sublist h
theorem lpush_nodup {xs : List ID} (h : xs.Nodup) (i : ID) : (lpush xs i).Nodup := by
  unfold lpush; split
  · exact h
  · rename_i hi
    rw [List.nodup_append]
    refine ⟨h, by simp, fun x hx y hy => ?_⟩
    simp at hy; subst hy; exact fun e => hi (e ▸ hx)
theorem ldrop_head {x : ID} {xs : List ID} (h : (x :: xs).Nodup) : ldrop (x :: xs) x = xs := by
  have h1 := List.nodup_cons.1 h
  unfold ldrop
  rw [List.filter_cons, if_neg (by simp [isI_eq])]
  exact ldrop_no h1.1
theorem Who.push {xs : List ID} {ps : List (ID × Bool)} (h : Who xs ps) {i : ID} (hi : i ∉ xs) : Who (xs ++ [i]) (ins ps i true) := by
  refine ⟨by have := lpush_nodup h.1 i; unfold lpush at this; rwa [if_neg hi] at this, fun c => ?_⟩
  rw [look_ins, h.2]
  by_cases hc : i = c
  · subst hc; simp
  · have hc' : ¬ c = i := fun e => hc e.symm
    simp [hc, hc']
theorem Who.drop {xs : List ID} {ps : List (ID × Bool)} (h : Who xs ps) (i : ID) : Who (ldrop xs i) (del ps i) := by
  refine ⟨ldrop_nodup h.1 i, fun c => ?_⟩
  rw [look_del, h.2]
  by_cases hc : i = c
  · subst hc; simp [ldrop_mem]
  · have hc' : ¬ c = i := fun e => hc e.symm
    simp [hc, hc', ldrop_mem]
theorem Who.says {xs : List ID} {ps : List (ID × Bool)} (h : Who xs ps) (i : ID) : zof evB (.bool false) (look ps i) = .bool (decide (i ∈ xs)) := by
  rw [h.2]; by_cases hi : i ∈ xs <;> simp [zof, hi]

set_option maxRecDepth 100000 in
set_option maxHeartbeats 4000000 in
theorem clone145 {E : World} {l : List As} {v : Value} {xs : List (List Value)} (hr : ∀ w, Sep E w l → Reads w 2 v xs) (hb : xs.length ≤ 1000000) :
  Con Tryz.prog 145 #[v] E l (fun v' : Value => v') (fun v' => row 35 2 v' xs :: l) := by
 refine Con.body (vs := [v]) (n := 8) Tryz.func145 rfl rfl [(0, v)] (env_ok 1 rfl) <| J_reads hr fun hw a cap hv h1 h2 h3 => ?_
 subst hv
 refine sr <| ag rfl rfl <| nxx <| mv rfl rfl <| L_pur rfl (p_eqnil Tryz.underlying99 rfl) <| nq ?_
 refine C_split rfl (fun h4 => ?_) (fun h4 => ?_)
 ·
  obtain rfl : a = none := by simpa using h4
  obtain ⟨rfl, rfl⟩ := h3 rfl
  refine J_nil (el := 35) (sz := 2) <| sr <| ag rfl rfl <| nq <| J_ret <| Q_then_ret ?_
  exact J_return (_) Tryz.results145 (.tmp rfl .nil) rfl SU
 ·
  refine J_skip <| qx <| L_op <| x_lit (vals := []) Tryz.underlying99 ty35 rfl .nil .nil Wf.nil rfl (by decide) rfl rfl <| JR fun a5 c5 hw5 hl5 hm5 hz5 => mv rfl rfl <| L_op <| x_app rfl rfl Tryz.underlying99 ty35 rfl rfl PC (fun w H => hr w H.tail) (OM) (OM) rfl ?_
  refine JR fun a7 c7 hw7 hl7 hm7 hz7 => ag rfl rfl <| nq <| J_ret ?_
  exact J_return (_) Tryz.results145 (.tmp rfl .nil) rfl SU



set_option maxRecDepth 100000 in
set_option maxHeartbeats 4000000 in
theorem lAll {E : World} {l m : List As} {b o : Nat} {xs : List ID} (hp : Pick (lsA b o xs) l m) (hb : xs.length ≤ 100000) :
    Con Tryz.prog 123 #[.pointer (some ⟨b, o, none⟩)] E l (fun v : Value => v) (fun v => row 35 2 v (xs.map encI) :: lsA b o xs :: m) := by
  refine Con.body (vs := [.pointer (some ⟨b, o, none⟩)]) (n := 8) Tryz.func123 rfl rfl [(0, .pointer (some ⟨b, o, none⟩))] (env_ok 1 rfl) <| J_pick hp <| J_lsO fun v ob ps hw => sr <| ag rfl rfl <| nx <| mv rfl rfl <| nc rfl rfl ?_
  refine fa rfl rfl fa102_0 <| L_val rfl (v_loadL rfl ty99 HS rfl (by exact rfl)) ?_
  refine L_op <| x_call Tryz.func145 nm145 bd145 (.cons rfl .nil) rfl (clone145 (xs := xs.map encI) (fun w H => sep_reads (xs := xs.map encI) HS H) (by simp; omega)) <| JR fun a7 c7 hw7 hl7 hm7 hz7 => ag rfl rfl <| nq <| J_ret <| J_lsS (b := b) (o := o) (xs := xs) _ _ _ PX (hw) ?_
  exact J_return (_) Tryz.results123 (.tmp rfl .nil) rfl SU


abbrev orb (w x : Int) : Int := bits .or .u32 w x
def woke (w : Int) (xs : List ID) (x : Int) : Bool := !decide (orb w x = 0) && !xs.isEmpty
def sigI (w : Int) (xs : List ID) (x : Int) : ID := if woke w xs x then xs.headD (0, 0) else (0, 0)
def sigV (w : Int) (xs : List ID) (x : Int) : Int := if woke w xs x then orb w x else 0
def sigW (w : Int) (xs : List ID) (x : Int) : Int := if woke w xs x then 0 else orb w x
def sigL (w : Int) (xs : List ID) (x : Int) : List ID := if woke w xs x then xs.tail else xs
def waitL (w : Int) (xs : List ID) (i : ID) : List ID := if w = 0 then lpush xs i else xs
theorem sigL_len (w : Int) (xs : List ID) (x : Int) : (sigL w xs x).length ≤ xs.length := by unfold sigL; split <;> simp
theorem waitL_len (w : Int) (xs : List ID) (i : ID) : (waitL w xs i).length ≤ xs.length + 1 := by
  unfold waitL; split
  · exact lpush_len xs i
  · omega
set_option maxRecDepth 100000 in
set_option maxHeartbeats 4000000 in
theorem ntWaits {E : World} {l m : List As} {b o : Nat} {w : Int} {xs : List ID} (hp : Pick (ntA b o w xs) l m) (hb : xs.length ≤ 100000) :
    Con Tryz.prog 88 #[.pointer (some ⟨b, o, none⟩)] E l (fun v : Value => v) (fun v => row 35 2 v (xs.map encI) :: ntA b o w xs :: m) := by
  refine Con.body (vs := [.pointer (some ⟨b, o, none⟩)]) (n := 7) Tryz.func88 rfl rfl [(0, .pointer (some ⟨b, o, none⟩))] (env_ok 1 rfl) <| J_pick hp <| J_ntO fun _ _ => sr <| ag rfl rfl <| nx <| mv rfl rfl <| nc rfl rfl ?_
  refine fa rfl rfl fa104_1 <| L_op <| x_call Tryz.func123 nm123 bd123 (.cons rfl .nil) rfl (lAll (xs := xs) PC (by omega)) <| JR fun a6 c6 hw6 hl6 hm6 hz6 => ag rfl rfl <| nq <| J_ret <| J_ntS (b := b) (o := o) (w := w) (xs := xs) PX trivial ?_
  exact J_return (_) Tryz.results88 (.tmp rfl .nil) rfl SU

def isM (i : ID) (m : Msg) : Bool := decide (m.1.1 = i.1 ∧ m.1.2 = i.2)
def isR (i : ID) (r : Rcv) : Bool := decide (r.1.1 = i.1 ∧ r.1.2 = i.2)
theorem isM_eq (i : ID) (c : Msg) : isM i c = decide (c.1 = i) := by unfold isM; rw [decide_eq_decide]; exact Prod.ext_iff.symm
theorem isR_eq (i : ID) (c : Rcv) : isR i c = decide (c.1 = i) := by unfold isR; rw [decide_eq_decide]; exact Prod.ext_iff.symm
abbrev mdrop (xs : List Msg) (i : ID) : List Msg := xs.filter fun c => !isM i c
abbrev rdrop (xs : List Rcv) (i : ID) : List Rcv := xs.filter fun c => !isR i c
theorem encM_one (c : Msg) : ones (encM c) = true := rfl
theorem encM_len (c : Msg) : (encM c).length = 5 := rfl
theorem encR_one (c : Rcv) : ones (encR c) = true := rfl
theorem encR_len (c : Rcv) : (encR c).length = 3 := rfl
theorem encT_one (c : Tm) : ones (encT c) = true := rfl
theorem encT_len (c : Tm) : (encT c).length = 3 := rfl
def isTm (i : ID) (c : Tm) : Bool := decide (c.2.1 = i.1 ∧ c.2.2 = i.2)
theorem isTm_eq (i : ID) (c : Tm) : isTm i c = decide (c.2 = i) := by unfold isTm; rw [decide_eq_decide]; exact Prod.ext_iff.symm
abbrev tdrop (xs : List Tm) (i : ID) : List Tm := xs.filter fun c => !isTm i c




set_option maxRecDepth 100000 in
set_option maxHeartbeats 4000000 in
theorem clone121 {E : World} {l : List As} {v : Value} {xs : List (List Value)} (hr : ∀ w, Sep E w l → Reads w 5 v xs) (hb : xs.length ≤ 1000000) :
  Con Tryz.prog 121 #[v] E l (fun v' : Value => v') (fun v' => row 212 5 v' xs :: l) := by
 refine Con.body (vs := [v]) (n := 8) Tryz.func121 rfl rfl [(0, v)] (env_ok 1 rfl) <| J_reads hr fun hw a cap hv h1 h2 h3 => ?_
 subst hv
 refine sr <| ag rfl rfl <| nxx <| mv rfl rfl <| L_pur rfl (p_eqnil Tryz.underlying94 rfl) <| nq ?_
 refine C_split rfl (fun h4 => ?_) (fun h4 => ?_)
 ·
  obtain rfl : a = none := by simpa using h4
  obtain ⟨rfl, rfl⟩ := h3 rfl
  refine J_nil (el := 212) (sz := 5) <| sr <| ag rfl rfl <| nq <| J_ret <| Q_then_ret ?_
  exact J_return (_) Tryz.results121 (.tmp rfl .nil) rfl SU
 ·
  refine J_skip <| qx <| L_op <| x_lit (vals := []) Tryz.underlying94 ty212 rfl .nil .nil Wf.nil rfl (by decide) rfl rfl <| JR fun a5 c5 hw5 hl5 hm5 hz5 => mv rfl rfl <| L_op <| x_app rfl rfl Tryz.underlying94 ty212 rfl rfl PC (fun w H => hr w H.tail) (OM) (OM) rfl ?_
  refine JR fun a7 c7 hw7 hl7 hm7 hz7 => ag rfl rfl <| nq <| J_ret ?_
  exact J_return (_) Tryz.results121 (.tmp rfl .nil) rfl SU

set_option maxRecDepth 100000 in
set_option maxHeartbeats 4000000 in
theorem clone122 {E : World} {l : List As} {v : Value} {xs : List (List Value)} (hr : ∀ w, Sep E w l → Reads w 3 v xs) (hb : xs.length ≤ 1000000) :
  Con Tryz.prog 122 #[v] E l (fun v' : Value => v') (fun v' => row 214 3 v' xs :: l) := by
 refine Con.body (vs := [v]) (n := 8) Tryz.func122 rfl rfl [(0, v)] (env_ok 1 rfl) <| J_reads hr fun hw a cap hv h1 h2 h3 => ?_
 subst hv
 refine sr <| ag rfl rfl <| nxx <| mv rfl rfl <| L_pur rfl (p_eqnil Tryz.underlying95 rfl) <| nq ?_
 refine C_split rfl (fun h4 => ?_) (fun h4 => ?_)
 ·
  obtain rfl : a = none := by simpa using h4
  obtain ⟨rfl, rfl⟩ := h3 rfl
  refine J_nil (el := 214) (sz := 3) <| sr <| ag rfl rfl <| nq <| J_ret <| Q_then_ret ?_
  exact J_return (_) Tryz.results122 (.tmp rfl .nil) rfl SU
 ·
  refine J_skip <| qx <| L_op <| x_lit (vals := []) Tryz.underlying95 ty214 rfl .nil .nil Wf.nil rfl (by decide) rfl rfl <| JR fun a5 c5 hw5 hl5 hm5 hz5 => mv rfl rfl <| L_op <| x_app rfl rfl Tryz.underlying95 ty214 rfl rfl PC (fun w H => hr w H.tail) (OM) (OM) rfl ?_
  refine JR fun a7 c7 hw7 hl7 hm7 hz7 => ag rfl rfl <| nq <| J_ret ?_
  exact J_return (_) Tryz.results122 (.tmp rfl .nil) rfl SU

set_option maxRecDepth 100000 in
set_option maxHeartbeats 4000000 in
theorem epSenders {E : World} {l m : List As} {b : Nat} {out : List Msg} {inn : List Rcv} (hp : Pick (epA b out inn) l m) (hbo : out.length ≤ 100000) (hbi : inn.length ≤ 100000) :
    Con Tryz.prog 85 #[.pointer (some ⟨b, 0, none⟩)] E l (fun v : Value => v) (fun v => row 212 5 v (out.map encM) :: epA b out inn :: m) := by
  refine Con.body (vs := [.pointer (some ⟨b, 0, none⟩)]) (n := 8) Tryz.func85 rfl rfl [(0, .pointer (some ⟨b, 0, none⟩))] (env_ok 1 rfl) <| J_pick hp <| J_epO fun vo vi _ => J_row (.there .here) fun hw a cap hv h1 h2 h3 => ?_
  subst hv
  refine J_row (.there (.there .here)) fun hw' a' cap' hv h1' h2' h3' => ?_
  subst hv
  refine sr <| ag rfl rfl <| nx <| mv rfl rfl <| nc rfl rfl <| fa rfl rfl fa97_0 <| L_val rfl (v_load rfl ty94 HS (by exact rfl)) ?_
  refine L_op <| x_call Tryz.func121 nm121 bd121 (.cons rfl .nil) rfl (clone121 (xs := out.map encM) (fun w H => sep_reads (xs := out.map encM) HS H) (by simp; omega)) <| JR fun a7 c7 hw7 hl7 hm7 hz7 => ag rfl rfl <| nq <| J_ret <| J_epS (b := b) (out := out) (inn := inn) _ _ PX trivial ?_
  exact J_return (_) Tryz.results85 (.tmp rfl .nil) rfl SU

set_option maxRecDepth 100000 in
set_option maxHeartbeats 4000000 in
theorem epReceivers {E : World} {l m : List As} {b : Nat} {out : List Msg} {inn : List Rcv} (hp : Pick (epA b out inn) l m) (hbo : out.length ≤ 100000) (hbi : inn.length ≤ 100000) :
    Con Tryz.prog 86 #[.pointer (some ⟨b, 0, none⟩)] E l (fun v : Value => v) (fun v => row 214 3 v (inn.map encR) :: epA b out inn :: m) := by
  refine Con.body (vs := [.pointer (some ⟨b, 0, none⟩)]) (n := 8) Tryz.func86 rfl rfl [(0, .pointer (some ⟨b, 0, none⟩))] (env_ok 1 rfl) <| J_pick hp <| J_epO fun vo vi _ => J_row (.there .here) fun hw a cap hv h1 h2 h3 => ?_
  subst hv
  refine J_row (.there (.there .here)) fun hw' a' cap' hv h1' h2' h3' => ?_
  subst hv
  refine sr <| ag rfl rfl <| nx <| mv rfl rfl <| nc rfl rfl <| fa rfl rfl fa97_1 <| L_val rfl (v_load rfl ty95 HS (by exact rfl)) ?_
  refine L_op <| x_call Tryz.func122 nm122 bd122 (.cons rfl .nil) rfl (clone122 (xs := inn.map encR) (fun w H => sep_reads (xs := inn.map encR) HS H) (by simp; omega)) <| JR fun a7 c7 hw7 hl7 hm7 hz7 => ag rfl rfl <| nq <| J_ret <| J_epS (b := b) (out := out) (inn := inn) _ _ PX trivial ?_
  exact J_return (_) Tryz.results86 (.tmp rfl .nil) rfl SU



def cDrop (c : ID × Bool) (i : ID) : ID × Bool := if c.2 = true ∧ c.1 = i then ((0, 0), false) else c
set_option maxRecDepth 100000 in
set_option maxHeartbeats 4000000 in
theorem rpCaller {E : World} {l m : List As} {b : Nat} {c : ID × Bool} (hp : Pick (rpA b c) l m) :
    Con Tryz.prog 90 #[.pointer (some ⟨b, 0, none⟩)] E l (fun _ : Unit => .tuple #[.agg (encI c.1).toArray, .bool c.2]) (fun _ => rpA b c :: m) := by
  refine Con.body (vs := [.pointer (some ⟨b, 0, none⟩)]) (n := 12) Tryz.func90 rfl rfl [(0, .pointer (some ⟨b, 0, none⟩))] (env_ok 1 rfl) <| J_pick hp <| J_asTo (B := blk b 149 [.int .i64 c.1.1, .int .i64 c.1.2, .bool c.2]) (by rfl) <| sr <| L_op <| x_alloc ty35 rfl fun b2 => ag rfl rfl <| nq ?_
  refine J_seq <| J_drawL (some 8) mixed <| ip 0 rfl rfl rfl rfl (p_move rfl) <| ip 1 rfl rfl rfl rfl (p_nilCheck rfl) <| ip 2 rfl rfl rfl rfl (p_fieldAddr rfl fa149_0) <| iv 3 rfl rfl rfl rfl (fun _ => v_loadA rfl ty35 HS CT) ?_
  refine ip 4 rfl rfl rfl rfl (p_move rfl) <| ip 5 rfl rfl rfl rfl (p_nilCheck rfl) <| ip 6 rfl rfl rfl rfl (p_fieldAddr rfl fa149_1) <| I_ready (rs := [7, 8]) SI (by kernel_rfl) (by simp) ?_
  refine (I_cons rfl ?_ (I_cons rfl ?_ I_nil))
  ·
    refine J_val (v_load rfl ty4 HS (by exact rfl)) rfl rfl rfl ?_
    refine i1 8 rfl <| x_store rfl rfl ty35 rfl SM SM RO PT ?_
    refine ip 9 rfl rfl rfl rfl (p_assign rfl) <| i0 <| Q_then <| J_ret <| J_pick (A := blk b _ _) PC ?_
    refine J_asTo (B := rpA b c) (by rfl) ?_
    refine J_return (()) Tryz.results90 (.cellA rfl ty35 HS CT (.tmp rfl .nil)) ?_ ?_
    · rfl
    · exact SU
  ·
    refine x_store rfl rfl ty35 rfl SM SM RO PT ?_
    refine i1 7 rfl <| J_val (v_load rfl ty4 HS (by exact rfl)) rfl rfl rfl ?_
    refine ip 9 rfl rfl rfl rfl (p_assign rfl) <| i0 <| Q_then <| J_ret <| J_pick (A := blk b _ _) PC ?_
    refine J_asTo (B := rpA b c) (by rfl) ?_
    refine J_return (()) Tryz.results90 (.cellA rfl ty35 HS CT (.tmp rfl .nil)) ?_ ?_
    · rfl
    · exact SU

end Go.Pse
