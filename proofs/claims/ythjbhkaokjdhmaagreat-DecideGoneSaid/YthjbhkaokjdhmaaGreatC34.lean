/-
  An object is there no more, with whoever waits there.
-/
import Derived.Test.YthjbhkaokjdhmaaGreatC33
namespace Go.Pse
open Go.RowKit Go.Proofs

set_option maxRecDepth 100000 in
set_option maxHeartbeats 4000000 in
theorem epRecvC {E : World} {l m : List As} {b : Nat} {inn : List Rcv} (hp : Pick (epA b [] inn) l m) (hbi : inn.length ≤ 100000) {x : Rcv} :
    Con Tryz.prog 29 #[.pointer (some ⟨b, 0, none⟩), .agg (encR x).toArray] E l (fun _ : Unit => .tuple #[.agg (encM ((0, 0), 0, 0, false)).toArray, .bool false]) (fun _ => epA b [] (inn ++ [x]) :: m) := by
  refine Con.body (vs := [.pointer (some ⟨b, 0, none⟩), .agg (encR x).toArray]) (n := 39) Tryz.func29 rfl rfl [(0, .pointer (some ⟨b, 0, none⟩)), (1, .agg (encR x).toArray)] (env_ok 2 rfl) <| J_pick hp <| J_epO fun vo vi _ => J_row (.there .here) fun hw a cap hv h1 h2 h3 => ?_
  subst hv
  refine J_row (.there (.there .here)) fun hw' a' cap' hv h1' h2' h3' => ?_
  subst hv
  refine sr <| L_op <| x_box rfl rfl rfl fun b3 => L_op <| x_alloc ty71 rfl fun b4 => ag rfl rfl <| nxx <| mv rfl rfl ?_
  refine nc rfl rfl <| fa rfl rfl fa121_0 <| L_val rfl (v_load rfl ty118 HS (by exact rfl)) ?_
  refine L_pur rfl (p_len rfl Tryz.underlying118) <| L_pur rfl (p_eql rfl rfl) <| nq <| J_bool (t := 12) (c := true) rfl (by simp) <| C_true rfl <| J_seq <| J_drawL (some 7) mixed <| ip 0 rfl rfl rfl rfl (p_move rfl) ?_
  refine ip 1 rfl rfl rfl rfl (p_move rfl) <| ip 2 rfl rfl rfl rfl (p_nilCheck rfl) <| ip 3 rfl rfl rfl rfl (p_fieldAddr rfl fa121_1) <| iv 4 rfl rfl rfl rfl (fun _ => v_load rfl ty119 HS (by exact rfl)) ?_
  refine iv 5 rfl rfl rfl rfl (fun _ => v_loadA rfl ty77 HS CT) ?_
  refine i1 6 rfl <| x_lit (vals := [_]) Tryz.underlying119 ty77 rfl (.cons rfl .nil) (.agg .nil) (Wf.cons rfl rfl Wf.nil) rfl (by decide) rfl rfl <| JR fun a19 c19 hw19 hl19 hm19 hz19 => i1 7 rfl <| x_app rfl rfl Tryz.underlying119 ty77 rfl rfl PC (fun w H => sep_reads HS H) (by simp; omega) (by simp; omega) rfl <| JE ((inn ++ [x]).map encR) (by simp) fun a20 c20 hw20 hl20 hm20 hz20 => ip 8 rfl rfl rfl rfl (p_nilCheck rfl) <| ip 9 rfl rfl rfl rfl (p_fieldAddr rfl fa121_1) ?_
  refine i1 10 rfl <| x_store rfl rfl ty119 rfl SM SM RO PT ?_
  refine i0 <| qx <| L_pur rfl (bld71 .nil (by repeat constructor)) <| L_op <| x_store rfl rfl ty71 rfl SM SM RO PT ?_
  refine ag rfl rfl <| nq <| J_ret <| Q_then_ret <| J_epS (b := b) (out := []) (inn := (inn ++ [x])) _ _ PX trivial ?_
  refine J_return (()) Tryz.results29 (.cellA rfl ty71 HS CT (.tmp rfl .nil)) ?_ ?_
  · rfl
  · exact SU

set_option maxRecDepth 100000 in
set_option maxHeartbeats 4000000 in
theorem recvC {E : World} {l : List As} {i : ID} :
    Con Tryz.prog 30 #[.agg (encI i).toArray] E l (fun _ : Unit => .agg (encR (i, 0)).toArray) (fun _ => l) := by
  refine Con.body (vs := [.agg (encI i).toArray]) (n := 5) Tryz.func30 rfl rfl [(0, .agg (encI i).toArray)] (env_ok 1 rfl) <| sr <| L_op <| x_box rfl rfl rfl fun b1 => L_op <| x_alloc ty77 rfl fun b2 => nx <| L_val rfl (v_loadA rfl ty36 HS CT) ?_
  refine L_pur rfl (bld77 (.cons rfl .nil) (by repeat constructor)) <| L_op <| x_store rfl rfl ty77 rfl SM SM RO PT ?_
  refine nq <| J_ret ?_
  refine J_return (()) Tryz.results30 (.cellA rfl ty77 HS CT .nil) ?_ ?_
  · rfl
  · exact SU

set_option maxRecDepth 100000 in
set_option maxHeartbeats 4000000 in
theorem rpBindC {E : World} {l m : List As} {b : Nat} {c : ID × Bool} (hp : Pick (rpA b c) l m) {i : ID} :
    Con Tryz.prog 31 #[.pointer (some ⟨b, 0, none⟩), .agg (encI i).toArray] E l (fun _ : Unit => .tuple #[.agg (encI c.1).toArray, .bool c.2]) (fun _ => rpA b (i, true) :: m) := by
  refine Con.body (vs := [.pointer (some ⟨b, 0, none⟩), .agg (encI i).toArray]) (n := 22) Tryz.func31 rfl rfl [(0, .pointer (some ⟨b, 0, none⟩)), (1, .agg (encI i).toArray)] (env_ok 2 rfl) <| J_pick hp <| sr <| L_op <| x_box rfl rfl rfl fun b3 => L_op <| x_alloc ty36 rfl fun b4 => ag rfl rfl ?_
  refine nx <| mv rfl rfl <| L_op <| x_call Tryz.func56 nm56 bd56 (.cons rfl .nil) rfl (rpCaller (c := c) PC) fun _ => ?_
  refine J_pick (A := rpA b c) PC ?_
  refine J_asTo (B := blk b 150 [.int .i64 c.1.1, .int .i64 c.1.2, .bool c.2]) (by rfl) <| mv rfl rfl <| L_pur rfl (p_extract rfl rfl) <| L_pur rfl (p_extract rfl rfl) <| L_op <| x_alloc ty36 rfl fun b6 => L_op <| x_store rfl rfl ty36 rfl SM SM RO PT ?_
  refine J_pick (A := blk b6 _ _) PC ?_
  refine J_asTo (B := blk b6 36 (encI c.1)) (by rfl) <| ag rfl rfl <| nx <| mv rfl rfl <| mv rfl rfl <| L_val rfl (v_loadA rfl ty36 HS CT) ?_
  refine nc rfl rfl <| fa rfl rfl fa150_0 <| L_op <| x_store rfl rfl ty36 rfl SM SM RO PT ?_
  refine nc rfl rfl <| fa rfl rfl fa150_1 <| L_op <| x_store rfl rfl ty4 rfl SM SM RO PT ?_
  refine nx <| L_val rfl (v_loadA rfl ty36 HS CT) ?_
  refine mv rfl rfl <| L_op <| x_store rfl rfl ty36 rfl SM SM RO PT ?_
  refine ag rfl rfl <| nq <| J_ret <| J_pick (A := blk b _ _) PC ?_
  refine J_asTo (B := rpA b (i, true)) (by rfl) ?_
  refine J_return (()) Tryz.results31 (.cellA rfl ty36 HS CT (.tmp rfl .nil)) ?_ ?_
  · rfl
  · exact SU

set_option maxHeartbeats 4000000 in
theorem coEpRecv {E : World} {l m : List As} {p : Nat} {s : KS} (hp : Pick (coA p s) l m) {u : Int} {b : Nat} {inn : List Rcv} (hl : look s.ep u = some (b, [], inn)) (hbi : inn.length ≤ 100000) {y : Rcv} :
  Con Tryz.prog 29 #[.pointer (some ⟨b, 0, none⟩), .agg (encR y).toArray] E l (fun _ : Unit => .tuple #[.agg (encM ((0, 0), 0, 0, false)).toArray, .bool false]) (fun _ => coA p { s with ep := updO s.ep u (fun a => (a.1, a.2 ++ [y])) } :: m) := fun w H => by
 refine (?_ : Jk E l 0 [] fun _ w => Calls Tryz.prog 29 #[.pointer (some ⟨b, 0, none⟩), .agg (encR y).toArray] w fun e w' => ∃ x, e = .returned ((fun _ : Unit => .tuple #[.agg (encM ((0, 0), 0, 0, false)).toArray, .bool false]) x) ∧ Sep E w' ((fun _ : Unit => coA p { s with ep := updO s.ep u (fun a => (a.1, a.2 ++ [y])) } :: m) x)) w _ H fr0
 obtain ⟨j, hj⟩ := look_ix hl
 have hjl := (List.getElem?_eq_some_iff.1 hj).1
 refine J_pick hp <| J_coO fun bn be br bg bt bs bp bl bk _ => J_keyd (ps := ptrs s.ep) HS fun hK => ?_
 refine J_pick (A := each epF s.ep) PC ?_
 refine J_eachOut hj ?_
 skip
 refine J_asTo (B := epA b [] inn) (by rfl) <| J_con (epRecvC (inn := inn) (x := y) PC hbi) fun x => ?_
 refine J_pick (A := epA b [] (inn ++ [y])) PC ?_
 refine J_asTo (B := epF (u, b, ((fun a => (a.1, a.2 ++ [y]))) ([], inn))) (by rfl) <| J_pick (A := each epF _) PC ?_
 refine J_pick (A := epF (u, b, _)) PC ?_
 refine J_eachIn (u, b, ((fun a => (a.1, a.2 ++ [y]))) ([], inn)) hjl ?_
 skip
 refine J_asTo (B := each epF (updO s.ep u (fun a => (a.1, a.2 ++ [y])))) (by rw [updO_set hK hj]) <| J_pick (A := mapV kZ evA (.map (some be)) (ptrs s.ep)) PC ?_
 refine J_mapEq (qs := ptrs (updO s.ep u (fun a => (a.1, a.2 ++ [y])))) ptrs_updO.symm <| J_coS (p := p) (s := { s with ep := updO s.ep u (fun a => (a.1, a.2 ++ [y])) }) bn be br bg bt bs bp bl bk PX trivial ?_
 exact J_end SU
set_option maxHeartbeats 4000000 in
theorem coRpBind {E : World} {l m : List As} {p : Nat} {s : KS} (hp : Pick (coA p s) l m) {u : Int} {b : Nat} {c : ID × Bool} (hl : look s.rp u = some (b, c)) {i : ID} :
  Con Tryz.prog 31 #[.pointer (some ⟨b, 0, none⟩), .agg (encI i).toArray] E l (fun _ : Unit => .tuple #[.agg (encI c.1).toArray, .bool c.2]) (fun _ => coA p { s with rp := updO s.rp u (fun _ => (i, true)) } :: m) := fun w H => by
 refine (?_ : Jk E l 0 [] fun _ w => Calls Tryz.prog 31 #[.pointer (some ⟨b, 0, none⟩), .agg (encI i).toArray] w fun e w' => ∃ x, e = .returned ((fun _ : Unit => .tuple #[.agg (encI c.1).toArray, .bool c.2]) x) ∧ Sep E w' ((fun _ : Unit => coA p { s with rp := updO s.rp u (fun _ => (i, true)) } :: m) x)) w _ H fr0
 obtain ⟨j, hj⟩ := look_ix hl
 have hjl := (List.getElem?_eq_some_iff.1 hj).1
 refine J_pick hp <| J_coO fun bn be br bg bt bs bp bl bk _ => J_keyd (ps := ptrs s.rp) HS fun hK => ?_
 refine J_pick (A := each rpF s.rp) PC ?_
 refine J_eachOut hj ?_
 skip
 refine J_asTo (B := rpA b c) (by rfl) <| J_con (rpBindC (c := c) (i := i) PC) fun x => ?_
 refine J_pick (A := rpA b (i, true)) PC ?_
 refine J_asTo (B := rpF (u, b, ((fun _ => (i, true))) (c))) (by rfl) <| J_pick (A := each rpF _) PC ?_
 refine J_pick (A := rpF (u, b, _)) PC ?_
 refine J_eachIn (u, b, ((fun _ => (i, true))) (c)) hjl ?_
 skip
 refine J_asTo (B := each rpF (updO s.rp u (fun _ => (i, true)))) (by rw [updO_set hK hj]) <| J_pick (A := mapV kZ evA (.map (some br)) (ptrs s.rp)) PC ?_
 refine J_mapEq (qs := ptrs (updO s.rp u (fun _ => (i, true)))) ptrs_updO.symm <| J_coS (p := p) (s := { s with rp := updO s.rp u (fun _ => (i, true)) }) bn be br bg bt bs bp bl bk PX trivial ?_
 exact J_end SU
set_option maxHeartbeats 4000000 in
theorem coRpCaller {E : World} {l m : List As} {p : Nat} {s : KS} (hp : Pick (coA p s) l m) {u : Int} {b : Nat} {c : ID × Bool} (hl : look s.rp u = some (b, c)) :
  Con Tryz.prog 56 #[.pointer (some ⟨b, 0, none⟩)] E l (fun _ : Unit => .tuple #[.agg (encI c.1).toArray, .bool c.2]) (fun _ => coA p s :: m) := fun w H => by
 refine (?_ : Jk E l 0 [] fun _ w => Calls Tryz.prog 56 #[.pointer (some ⟨b, 0, none⟩)] w fun e w' => ∃ x, e = .returned ((fun _ : Unit => .tuple #[.agg (encI c.1).toArray, .bool c.2]) x) ∧ Sep E w' ((fun _ : Unit => coA p s :: m) x)) w _ H fr0
 obtain ⟨j, hj⟩ := look_ix hl
 have hjl := (List.getElem?_eq_some_iff.1 hj).1
 refine J_pick hp <| J_coO fun bn be br bg bt bs bp bl bk _ => J_keyd (ps := ptrs s.rp) HS fun hK => ?_
 refine J_pick (A := each rpF s.rp) PC ?_
 refine J_eachOut hj ?_
 skip
 refine J_asTo (B := rpA b c) (by rfl) <| J_con (rpCaller (c := c) PC) fun x => ?_
 refine J_pick (A := rpA b c) PC ?_
 refine J_asTo (B := rpF (u, b, c)) (by rfl) <| J_pick (A := each rpF _) PC ?_
 refine J_pick (A := rpF (u, b, _)) PC ?_
 refine J_eachIn (u, b, c) hjl ?_
 skip
 refine J_asTo (B := each rpF s.rp) (by rw [lset_same hj]) <| J_coS (p := p) (s := s) bn be br bg bt bs bp bl bk PX trivial ?_
 exact J_end SU
set_option maxHeartbeats 4000000 in
theorem coEpSenders {E : World} {l m : List As} {p : Nat} {s : KS} (hp : Pick (coA p s) l m) {u : Int} {b : Nat} {out : List Msg} {inn : List Rcv} (hl : look s.ep u = some (b, out, inn)) (hbo : out.length ≤ 100000) (hbi : inn.length ≤ 100000) :
  Con Tryz.prog 116 #[.pointer (some ⟨b, 0, none⟩)] E l (fun x : Value => x) (fun x => row 71 5 x (out.map encM) :: coA p s :: m) := fun w H => by
 refine (?_ : Jk E l 0 [] fun _ w => Calls Tryz.prog 116 #[.pointer (some ⟨b, 0, none⟩)] w fun e w' => ∃ x, e = .returned ((fun x : Value => x) x) ∧ Sep E w' ((fun x : Value => row 71 5 x (out.map encM) :: coA p s :: m) x)) w _ H fr0
 obtain ⟨j, hj⟩ := look_ix hl
 have hjl := (List.getElem?_eq_some_iff.1 hj).1
 refine J_pick hp <| J_coO fun bn be br bg bt bs bp bl bk _ => J_keyd (ps := ptrs s.ep) HS fun hK => ?_
 refine J_pick (A := each epF s.ep) PC ?_
 refine J_eachOut hj ?_
 skip
 refine J_asTo (B := epA b out inn) (by rfl) <| J_con (epSenders (out := out) (inn := inn) PC hbo hbi) fun x => ?_
 refine J_pick (A := epA b out inn) PC ?_
 refine J_asTo (B := epF (u, b, out, inn)) (by rfl) <| J_pick (A := each epF _) PC ?_
 refine J_pick (A := epF (u, b, _)) PC ?_
 refine J_eachIn (u, b, out, inn) hjl ?_
 skip
 refine J_asTo (B := each epF s.ep) (by rw [lset_same hj]) <| J_coS (p := p) (s := s) bn be br bg bt bs bp bl bk PX trivial ?_
 exact J_end SU
set_option maxHeartbeats 4000000 in
theorem coEpReceivers {E : World} {l m : List As} {p : Nat} {s : KS} (hp : Pick (coA p s) l m) {u : Int} {b : Nat} {out : List Msg} {inn : List Rcv} (hl : look s.ep u = some (b, out, inn)) (hbo : out.length ≤ 100000) (hbi : inn.length ≤ 100000) :
  Con Tryz.prog 117 #[.pointer (some ⟨b, 0, none⟩)] E l (fun x : Value => x) (fun x => row 77 3 x (inn.map encR) :: coA p s :: m) := fun w H => by
 refine (?_ : Jk E l 0 [] fun _ w => Calls Tryz.prog 117 #[.pointer (some ⟨b, 0, none⟩)] w fun e w' => ∃ x, e = .returned ((fun x : Value => x) x) ∧ Sep E w' ((fun x : Value => row 77 3 x (inn.map encR) :: coA p s :: m) x)) w _ H fr0
 obtain ⟨j, hj⟩ := look_ix hl
 have hjl := (List.getElem?_eq_some_iff.1 hj).1
 refine J_pick hp <| J_coO fun bn be br bg bt bs bp bl bk _ => J_keyd (ps := ptrs s.ep) HS fun hK => ?_
 refine J_pick (A := each epF s.ep) PC ?_
 refine J_eachOut hj ?_
 skip
 refine J_asTo (B := epA b out inn) (by rfl) <| J_con (epReceivers (out := out) (inn := inn) PC hbo hbi) fun x => ?_
 refine J_pick (A := epA b out inn) PC ?_
 refine J_asTo (B := epF (u, b, out, inn)) (by rfl) <| J_pick (A := each epF _) PC ?_
 refine J_pick (A := epF (u, b, _)) PC ?_
 refine J_eachIn (u, b, out, inn) hjl ?_
 skip
 refine J_asTo (B := each epF s.ep) (by rw [lset_same hj]) <| J_coS (p := p) (s := s) bn be br bg bt bs bp bl bk PX trivial ?_
 exact J_end SU
set_option maxRecDepth 100000 in
set_option maxHeartbeats 4000000 in
theorem coWaitsEp {E : World} {l m : List As} {p : Nat} {s : KS} (hp : Pick (coA p s) l m) {u : Int} {b : Nat} {out : List Msg} {inn : List Rcv} (hl : look s.ep u = some (b, out, inn)) (hbo : out.length ≤ 100000) (hbi : inn.length ≤ 100000) :
  Con Tryz.prog 82 #[.pointer (some ⟨p, 0, none⟩), .agg (encI (4, u)).toArray] E l (fun v : Value => v) (fun v => row 36 2 v ((out.map Prod.fst ++ inn.map Prod.fst).map encI) :: coA p s :: m) := by
 refine Con.body (vs := [.pointer (some ⟨p, 0, none⟩), .agg (encI (4, u)).toArray]) (n := 80) Tryz.func82 rfl rfl [(0, .pointer (some ⟨p, 0, none⟩)), (1, .agg (encI (4, u)).toArray)] (env_ok 2 rfl) <| J_pick hp <| sr <| L_op <| x_box rfl rfl rfl fun b3 => ag rfl rfl <| nx <| ag rfl rfl ?_
 refine J_nil (el := 36) (sz := 2) <| nxx <| fa rfl rfl fa82_0 <| L_val rfl (v_load rfl ty3 HS (by exact rfl)) ?_
 refine nq <| J_block <| sr <| L_pur rfl (p_eql rfl rfl) <| ag rfl rfl <| nq <| J_bool (t := 17) (c := true) rfl (rfl) <| C_true rfl ?_
 refine sr <| mv rfl rfl <| fa rfl rfl fa82_1 <| L_val rfl (v_load rfl ty3 HS (by exact rfl)) ?_
 refine L_op <| x_call Tryz.func28 nm28 bd28 (.cons rfl (.cons rfl .nil)) rfl (coEp (s := s) (u := u) PC) fun _ => ?_
 refine J_slot (t := 22) (v := .pointer (some ⟨b, 0, none⟩)) rfl (by rw [look_is hl]; rfl) <| ag rfl rfl <| nx <| mv rfl rfl <| L_pur rfl (p_neNilPtr Tryz.underlying73 rfl) <| nq <| J_bool (t := 24) (c := true) rfl (rfl) <| C_true rfl ?_
 refine J_seq <| sr <| mv rfl rfl <| L_op <| x_call Tryz.func116 nm116 bd116 (.cons rfl .nil) rfl (coEpSenders (s := s) (u := u) PC hl hbo hbi) <| JR fun a26 c26 hw26 hl26 hm26 hz26 => ?_
 have hmo : (out.map encM).length = out.length := List.length_map _
 refine L_pur rfl (p_len rfl Tryz.underlying118) <| mv rfl rfl <| nq <| J_block <| J_loop2 (fun k v5 => k ≤ out.length) (fun k v5 => row 36 2 v5 (((out.take k).map Prod.fst).map encI) :: row 71 5 (.slice a26 (out.map encM).length c26) (out.map encM) :: blk b3 82 [.int .i64 4, .int .i64 u] :: coA p s :: m) (fun k v5 => [(28, .int .i64 (k : Int)), (5, v5), (26, .slice a26 (out.map encM).length c26), (27, .int .i64 ((out.map encM).length : Int)), (6, .pointer (some ⟨b, 0, none⟩)), (3, .pointer (some ⟨b3, 0, none⟩)), (0, .pointer (some ⟨p, 0, none⟩))]) (fun k v5 => out.length - k) 0 _ (by omega) SU KE ?_
 intro k v5 hk
 refine sr <| L_pur rfl (p_lss rfl rfl) <| nq <| J_seq ?_
 refine C_dec rfl (fun h29 => ?_) (fun h29 => ?_)
 ·
  have hlt : k < out.length := by omega
  obtain ⟨bx, ox, rfl⟩ := hz26 (by intro h; rw [h] at hmo; simp at hmo; omega)
  obtain ⟨c, hcc⟩ : ∃ c, out[k]? = some c := ⟨_, List.getElem?_eq_getElem hlt⟩
  refine J_skip <| Q_then <| J_seq <| J_block <| sr <| L_pur rfl (p_indexAddr rfl rfl Tryz.underlying118 ty71 (by omega) (by omega)) ?_
  refine L_val rfl (v_loadE rfl ty71 HS (by first | (simp only [Int.toNat_natCast, List.getElem?_map, hcc]; rfl) | (simp only [Int.toNat_natCast, List.getElem?_map, hcd]; rfl) | simp | rfl)) ?_
  refine L_op <| x_alloc ty71 rfl fun b8 => L_op <| x_store rfl rfl ty71 rfl SM SM RO PT ?_
  refine ny <| mv rfl rfl <| fa rfl rfl fa71_0 <| L_val rfl (v_loadA rfl ty36 HS CT) ?_
  refine L_op <| x_lit (vals := [_]) Tryz.underlying65 ty36 rfl (.cons rfl .nil) (.agg .nil) (Wf.cons rfl rfl Wf.nil) rfl (by decide) rfl rfl <| JR fun a35 c35 hw35 hl35 hm35 hz35 => L_op <| x_app rfl rfl Tryz.underlying65 ty36 rfl rfl PC (fun w H => sep_reads HS H) (by simp; omega) (by simp; omega) rfl <| JE (((out.take (k + 1)).map Prod.fst).map encI) (by rw [List.take_add_one, hcc]; simp [encI]) fun a36 c36 hw36 hl36 hm36 hz36 => ag rfl rfl <| L_nil ?_
  refine Q_blk_normal <| qr <| L_pur rfl (p_add64 rfl rfl (by omega)) <| mv rfl rfl <| nq ?_
  exact J_again2 (k + 1) _ (by omega) (by omega) SU KE
 ·
  have hko : k = out.length := by omega
  subst hko
  refine J_pick (A := row 36 2 v5 _) PC ?_
  refine J_rowEq (ys := (out.map Prod.fst ++ (inn.take 0).map Prod.fst).map encI) (by rw [List.take_length, List.take_zero]; simp) <| J_exit <| Q_then_exit <| Q_then_exit <| Q_blk_this <| qx <| mv rfl rfl <| L_op <| x_call Tryz.func117 nm117 bd117 (.cons rfl .nil) rfl (coEpReceivers (s := s) (u := u) PC hl hbo hbi) ?_
  refine JR fun a39 c39 hw39 hl39 hm39 hz39 => ?_
  have hmi : (inn.map encR).length = inn.length := List.length_map _
  refine L_pur rfl (p_len rfl Tryz.underlying119) <| mv rfl rfl <| nq <| J_block <| J_loop2 (fun k v5 => k ≤ inn.length) (fun k v5 => row 36 2 v5 ((out.map Prod.fst ++ (inn.take k).map Prod.fst).map encI) :: row 77 3 (.slice a39 (inn.map encR).length c39) (inn.map encR) :: coA p s :: m) (fun k v5 => [(41, .int .i64 (k : Int)), (5, v5), (39, .slice a39 (inn.map encR).length c39), (40, .int .i64 ((inn.map encR).length : Int)), (0, .pointer (some ⟨p, 0, none⟩))]) (fun k v5 => inn.length - k) 0 _ (by omega) SU KE ?_
  intro k v5 hk
  refine sr <| L_pur rfl (p_lss rfl rfl) <| nq <| J_seq ?_
  refine C_dec rfl (fun h42 => ?_) (fun h42 => ?_)
  ·
   have hlt : k < inn.length := by omega
   obtain ⟨bx, ox, rfl⟩ := hz39 (by intro h; rw [h] at hmi; simp at hmi; omega)
   obtain ⟨c, hcc⟩ : ∃ c, inn[k]? = some c := ⟨_, List.getElem?_eq_getElem hlt⟩
   refine J_skip <| Q_then <| J_seq <| J_block <| sr <| L_pur rfl (p_indexAddr rfl rfl Tryz.underlying119 ty77 (by omega) (by omega)) ?_
   refine L_val rfl (v_loadE rfl ty77 HS (by first | (simp only [Int.toNat_natCast, List.getElem?_map, hcc]; rfl) | (simp only [Int.toNat_natCast, List.getElem?_map, hcd]; rfl) | simp | rfl)) ?_
   refine L_op <| x_alloc ty77 rfl fun b10 => L_op <| x_store rfl rfl ty77 rfl SM SM RO PT ?_
   refine ny <| mv rfl rfl <| fa rfl rfl fa77_0 <| L_val rfl (v_loadA rfl ty36 HS CT) ?_
   refine L_op <| x_lit (vals := [_]) Tryz.underlying65 ty36 rfl (.cons rfl .nil) (.agg .nil) (Wf.cons rfl rfl Wf.nil) rfl (by decide) rfl rfl <| JR fun a48 c48 hw48 hl48 hm48 hz48 => L_op <| x_app rfl rfl Tryz.underlying65 ty36 rfl rfl PC (fun w H => sep_reads HS H) (by simp; omega) (by simp; omega) rfl <| JE ((out.map Prod.fst ++ (inn.take (k + 1)).map Prod.fst).map encI) (by rw [List.take_add_one, hcc]; simp [encI]) fun a49 c49 hw49 hl49 hm49 hz49 => ag rfl rfl <| L_nil ?_
   refine Q_blk_normal <| qr <| L_pur rfl (p_add64 rfl rfl (by omega)) <| mv rfl rfl <| nq ?_
   exact J_again2 (k + 1) _ (by omega) (by omega) SU KE
  ·
   have hko : k = inn.length := by omega
   subst hko
   refine J_pick (A := row 36 2 v5 _) PC ?_
   refine J_rowEq (ys := (out.map Prod.fst ++ inn.map Prod.fst).map encI) (by rw [List.take_length]) <| J_exit <| Q_then_exit <| Q_then_exit <| Q_blk_this <| Q_blk_normal <| qx <| mv rfl rfl ?_
   refine ag rfl rfl <| nq <| J_ret ?_
   exact J_return (_) Tryz.results82 (.tmp rfl .nil) rfl SU

set_option maxRecDepth 100000 in
set_option maxHeartbeats 4000000 in
theorem coWaitsNt {E : World} {l m : List As} {p : Nat} {s : KS} (hp : Pick (coA p s) l m) {u : Int} {b : Nat} {w0 : Int} {xs : List ID} (hl : look s.nt u = some (b, w0, xs)) (hb : xs.length ≤ 100000) :
    Con Tryz.prog 82 #[.pointer (some ⟨p, 0, none⟩), .agg (encI (5, u)).toArray] E l (fun v : Value => v) (fun v => row 36 2 v (xs.map encI) :: coA p s :: m) := by
  refine Con.body (vs := [.pointer (some ⟨p, 0, none⟩), .agg (encI (5, u)).toArray]) (n := 80) Tryz.func82 rfl rfl [(0, .pointer (some ⟨p, 0, none⟩)), (1, .agg (encI (5, u)).toArray)] (env_ok 2 rfl) <| J_pick hp <| sr <| L_op <| x_box rfl rfl rfl fun b3 => ag rfl rfl <| nx <| ag rfl rfl ?_
  refine nxx <| fa rfl rfl fa82_0 <| L_val rfl (v_load rfl ty3 HS (by exact rfl)) ?_
  refine nq <| J_block <| sr <| L_pur rfl (p_eql rfl rfl) <| ag rfl rfl <| nq <| J_bool (t := 17) (c := false) rfl (rfl) <| C_false rfl ?_
  refine sr <| L_pur rfl (p_eql rfl rfl) <| ag rfl rfl <| nq <| J_bool (t := 51) (c := true) rfl (rfl) <| C_true rfl <| sr <| mv rfl rfl ?_
  refine fa rfl rfl fa82_1 <| L_val rfl (v_load rfl ty3 HS (by exact rfl)) ?_
  refine L_op <| x_call Tryz.func19 nm19 bd19 (.cons rfl (.cons rfl .nil)) rfl (coNotif (s := s) (u := u) PC) fun _ => ?_
  refine J_slot (t := 56) (v := .pointer (some ⟨b, 0, none⟩)) rfl (by rw [look_is hl]; rfl) <| ag rfl rfl <| nx <| mv rfl rfl <| L_pur rfl (p_neNilPtr Tryz.underlying54 rfl) <| nq <| J_bool (t := 58) (c := true) rfl (rfl) <| C_true rfl ?_
  refine J_region <| mv rfl rfl <| L_op <| x_call Tryz.func26 nm26 bd26 (.cons rfl .nil) rfl (coNtWaits (s := s) (u := u) PC hl hb) <| JR fun a60 c60 hw60 hl60 hm60 hz60 => ag rfl rfl <| L_nil <| Q_blk_normal ?_
  refine qx <| mv rfl rfl <| ag rfl rfl <| nq <| J_ret ?_
  exact J_return (_) Tryz.results82 (.tmp rfl .nil) rfl SU

set_option maxRecDepth 100000 in
set_option maxHeartbeats 4000000 in
theorem coWaitsRp {E : World} {l m : List As} {p : Nat} {s : KS} (hp : Pick (coA p s) l m) {u : Int} {b : Nat} {c : ID × Bool} (hl : look s.rp u = some (b, c)) :
  Con Tryz.prog 82 #[.pointer (some ⟨p, 0, none⟩), .agg (encI (7, u)).toArray] E l (fun v : Value => v) (fun v => row 36 2 v ((if c.2 = true then [c.1] else []).map encI) :: coA p s :: m) := by
 refine Con.body (vs := [.pointer (some ⟨p, 0, none⟩), .agg (encI (7, u)).toArray]) (n := 80) Tryz.func82 rfl rfl [(0, .pointer (some ⟨p, 0, none⟩)), (1, .agg (encI (7, u)).toArray)] (env_ok 2 rfl) <| J_pick hp <| sr <| L_op <| x_box rfl rfl rfl fun b3 => ag rfl rfl <| nx <| ag rfl rfl ?_
 refine J_nil (el := 36) (sz := 2) <| nxx <| fa rfl rfl fa82_0 <| L_val rfl (v_load rfl ty3 HS (by exact rfl)) ?_
 refine nq <| J_block <| sr <| L_pur rfl (p_eql rfl rfl) <| ag rfl rfl <| nq <| J_bool (t := 17) (c := false) rfl (rfl) <| C_false rfl ?_
 refine sr <| L_pur rfl (p_eql rfl rfl) <| ag rfl rfl <| nq <| J_bool (t := 51) (c := false) rfl (rfl) <| C_false rfl <| sr <| L_pur rfl (p_eql rfl rfl) ?_
 refine ag rfl rfl <| nq <| J_bool (t := 61) (c := true) rfl (rfl) <| C_true rfl <| sr <| mv rfl rfl <| fa rfl rfl fa82_1 <| L_val rfl (v_load rfl ty3 HS (by exact rfl)) ?_
 refine L_op <| x_call Tryz.func27 nm27 bd27 (.cons rfl (.cons rfl .nil)) rfl (coReply (s := s) (u := u) PC) fun _ => ?_
 refine J_slot (t := 66) (v := .pointer (some ⟨b, 0, none⟩)) rfl (by rw [look_is hl]; rfl) <| ag rfl rfl <| nx <| mv rfl rfl <| L_pur rfl (p_neNilPtr Tryz.underlying68 rfl) <| nq <| J_bool (t := 68) (c := true) rfl (rfl) <| C_true rfl ?_
 refine sr <| mv rfl rfl <| L_op <| x_call Tryz.func56 nm56 bd56 (.cons rfl .nil) rfl (coRpCaller (s := s) (u := u) (c := c) PC hl) fun _ => ?_
 refine mv rfl rfl <| L_pur rfl (p_extract rfl rfl) <| L_pur rfl (p_extract rfl rfl) <| L_op <| x_alloc ty36 rfl fun b13 => L_op <| x_store rfl rfl ty36 rfl SM SM RO PT ?_
 refine J_pick (A := blk b13 _ _) PC ?_
 refine J_asTo (B := blk b13 36 (encI c.1)) (by rfl) <| ag rfl rfl <| nx <| mv rfl rfl <| nq ?_
 refine C_split rfl (fun h74 => ?_) (fun h74 => ?_)
 ·
  refine J_region <| mv rfl rfl <| L_val rfl (v_loadA rfl ty36 HS CT) ?_
  refine L_op <| x_lit (vals := [_]) Tryz.underlying65 ty36 rfl (.cons rfl .nil) (.agg .nil) (Wf.cons rfl rfl Wf.nil) rfl (by decide) rfl rfl <| JR fun a77 c77 hw77 hl77 hm77 hz77 => L_op <| x_app rfl rfl Tryz.underlying65 ty36 rfl rfl PC (fun w H => sep_reads HS H) (by simp) (by simp) rfl <| JE ((if c.2 = true then [c.1] else []).map encI) (by rw [if_pos h74]; rfl) fun a78 c78 hw78 hl78 hm78 hz78 => ag rfl rfl <| L_nil ?_
  refine Q_blk_normal <| qx <| mv rfl rfl <| ag rfl rfl <| nq <| J_ret ?_
  exact J_return (_) Tryz.results82 (.tmp rfl .nil) rfl SU
 ·
  refine J_pick (A := row 36 2 (.slice none 0 0) []) PC ?_
  refine J_rowEq (ys := (if c.2 = true then [c.1] else []).map encI) (by rw [h74]; rfl) <| J_skip <| Q_blk_normal <| qx <| mv rfl rfl <| ag rfl rfl <| nq <| J_ret ?_
  exact J_return (_) Tryz.results82 (.tmp rfl .nil) rfl SU

/-- Those that wait end, one by one. -/
def kEnds (s : KS) (l : List ID) : KS := l.foldl (fun s i => kDec s.rt.length s i (-9) 0) s
theorem kEnds_snoc {s : KS} {l : List ID} {i : ID} : kEnds s (l ++ [i]) = kDec (kEnds s l).rt.length (kEnds s l) i (-9) 0 := by unfold kEnds; rw [List.foldl_append]; rfl
theorem Fits.ends {N M : Nat} : ∀ {l : List ID} {s : KS}, Fits s N M → Fits (kEnds s l) N M
  | [], _, h => h
  | i :: l, s, h => Fits.ends (l := l) (Fits.dec _ (i := i) (r := -9) (v := 0) h).1
theorem kSaid_same {s : KS} {d : Deed} : (kSaid s d).q = s.q ∧ (kSaid s d).mp = s.mp := by
  unfold kSaid kPost; split <;> exact ⟨rfl, rfl⟩
theorem kTell_same {D : KS → ID → Int → Int → KS} (hD : ∀ s i r v, (D s i r v).q = s.q ∧ (D s i r v).mp = s.mp) {s : KS} {d : Deed} : (kTell D s d).q = s.q ∧ (kTell D s d).mp = s.mp := by
  unfold kTell
  split
  · exact kSaid_same
  · split
    · have h := hD (kRung (kSaid s d) d.1.1)
      exact ⟨(h _ _ _).1.trans kSaid_same.1, (h _ _ _).2.trans kSaid_same.2⟩
    · exact kSaid_same
theorem kDec_same : ∀ n {s : KS} {i : ID} {r v : Int}, (kDec n s i r v).q = s.q ∧ (kDec n s i r v).mp = s.mp
  | 0, _, _, _, _ => ⟨rfl, rfl⟩
  | n + 1, s, i, r, v => by
    cases hq : look s.rt i with
    | none => rw [kDec_none hq]; exact ⟨rfl, rfl⟩
    | some q =>
      rw [kDec_some hq]
      have h := kTell_same (D := kDec n) (fun s i r v => kDec_same n) (s := kForget { s with rt := del s.rt i } i) (d := (i, q.e.tag, q.e.op, r, v, false))
      unfold kNext
      split
      · exact h
      · split
        · exact ⟨(kDec_same n).1.trans h.1, (kDec_same n).2.trans h.2⟩
        · exact h
theorem kEnds_same : ∀ {l : List ID} {s : KS}, (kEnds s l).q = s.q ∧ (kEnds s l).mp = s.mp
  | [], _ => ⟨rfl, rfl⟩
  | i :: l, s => by
    have h := kEnds_same (l := l) (s := kDec s.rt.length s i (-9) 0)
    have h2 := kDec_same s.rt.length (s := s) (i := i) (r := -9) (v := 0)
    exact ⟨h.1.trans h2.1, h.2.trans h2.2⟩
set_option maxRecDepth 100000 in
set_option maxHeartbeats 4000000 in
theorem coDest {E : World} {l m : List As} {p : Nat} {s : KS} (hp : Pick (coA p s) l m) {k u : Int} {ws : List ID} {N M : Nat} (hk : k ≠ 3 ∧ k ≠ 9) (hW : ∀ (E : World) (l m : List As), Pick (coA p s) l m → Con Tryz.prog 82 #[.pointer (some ⟨p, 0, none⟩), .agg (encI (k, u)).toArray] E l (fun v : Value => v) (fun v => row 36 2 v (ws.map encI) :: coA p s :: m)) (hF : Fits s N M) (hq : s.q.length ≤ 90000) (hz : s.mp.length ≤ 1000000) :
  Con Tryz.prog 57 #[.pointer (some ⟨p, 0, none⟩), .agg (encI (k, u)).toArray] E l (fun _ : Unit => .tuple #[]) (fun _ => coA p (kGone (kEnds s ws) k u) :: m) := by
 refine Con.body (vs := [.pointer (some ⟨p, 0, none⟩), .agg (encI (k, u)).toArray]) (n := 63) Tryz.func57 rfl rfl [(0, .pointer (some ⟨p, 0, none⟩)), (1, .agg (encI (k, u)).toArray)] (env_ok 2 rfl) <| J_pick hp <| sr <| L_op <| x_box rfl rfl rfl fun b3 => nxx <| mv rfl rfl <| L_val rfl (v_loadA rfl ty82 HS CT) ?_
 refine L_op <| x_call Tryz.func82 nm82 bd82 (.cons rfl (.cons rfl .nil)) rfl (hW _ _ _ PC) <| JR fun a12 c12 hw12 hl12 hm12 hz12 => ?_
 have hml : (ws.map encI).length = ws.length := List.length_map _
 have hmcap : c12 ≤ 9223372036854775807 := hm12
 refine J_pick (A := coA p s) PC ?_
 refine J_asTo (B := coA p (kEnds s (ws.take 0))) (by rw [List.take_zero]; rfl) <| L_pur rfl (p_len rfl Tryz.underlying65) <| mv rfl rfl <| nq <| J_block <| J_loop (α := Nat) (fun j => j ≤ ws.length) (fun j => row 36 2 (.slice a12 (ws.map encI).length c12) (ws.map encI) :: blk b3 82 [.int .i64 k, .int .i64 u] :: coA p (kEnds s (ws.take j)) :: m) (fun j => [(14, .int .i64 (j : Int)), (12, .slice a12 (ws.map encI).length c12), (13, .int .i64 ((ws.map encI).length : Int)), (0, .pointer (some ⟨p, 0, none⟩)), (3, .pointer (some ⟨b3, 0, none⟩))]) (fun j => ws.length - j) 0 (by omega) SU KE ?_
 intro j hj
 refine sr <| L_pur rfl (p_lss rfl rfl) <| nq <| J_seq ?_
 refine C_dec rfl (fun h15 => ?_) (fun h15 => ?_)
 ·
  have hlt : j < ws.length := by omega
  obtain ⟨bx, ox, rfl⟩ := hz12 (by intro h; rw [h] at hml; simp at hml; omega)
  obtain ⟨c, hcc⟩ : ∃ c, ws[j]? = some c := ⟨_, List.getElem?_eq_getElem hlt⟩
  refine J_skip <| Q_then <| J_seq <| J_block <| sr <| L_pur rfl (p_indexAddr rfl rfl Tryz.underlying65 ty36 (by omega) (by omega)) ?_
  refine L_val rfl (v_loadE rfl ty36 HS (by first | (simp only [Int.toNat_natCast, List.getElem?_map, hcc]; rfl) | (simp only [Int.toNat_natCast, List.getElem?_map, hcd]; rfl) | simp | rfl)) ?_
  refine L_op <| x_alloc ty36 rfl fun b5 => L_op <| x_store rfl rfl ty36 rfl SM SM RO PT ?_
  refine J_pick (A := blk b5 _ _) PC ?_
  refine J_asTo (B := blk b5 36 (encI c)) (by rfl) <| ny <| mv rfl rfl <| L_val rfl (v_loadA rfl ty36 HS CT) ?_
  refine L_op <| x_call Tryz.func14 nm14 bd14 (.cons rfl (.cons rfl (.cons rfl (.cons rfl .nil)))) rfl (coDecide (s := (kEnds s (ws.take j))) (i := c) (r := -9) (v := 0) PC (hF.ends (l := ws.take j))) fun _ => ?_
  refine J_pick (A := coA p _) PC ?_
  refine J_asTo (B := coA p (kEnds s (ws.take (j + 1)))) (by rw [List.take_add_one, hcc, Option.toList_some, kEnds_snoc]) <| L_nil <| Q_blk_normal <| qr <| L_pur rfl (p_add64 rfl rfl (by omega)) <| mv rfl rfl <| nq ?_
  exact J_again (j + 1) (by omega) (by omega) SU KE
 ·
  have hjw : j = ws.length := by omega
  subst hjw
  refine J_pick (A := coA p _) PC ?_
  refine J_asTo (B := coA p (kEnds s ws)) (by rw [List.take_length]) <| J_exit <| Q_then_exit <| Q_then_exit <| Q_blk_this <| Q_then <| J_seq <| sr ?_
  refine fa rfl rfl fa82_0 <| L_val rfl (v_load rfl ty3 HS (by exact rfl)) ?_
  refine nq <| J_block <| sr <| L_pur rfl (p_eql rfl rfl) <| ag rfl rfl <| nq <| J_bool (t := 24) (c := false) rfl (by simp [hk.1]) <| C_false rfl ?_
  refine sr <| L_pur rfl (p_eql rfl rfl) <| ag rfl rfl <| nq <| J_bool (t := 54) (c := false) rfl (by simp [hk.2]) <| C_false rfl <| J_skip <| Q_blk_normal ?_
  refine qr <| mv rfl rfl <| L_val rfl (v_loadA rfl ty82 HS CT) ?_
  refine L_op <| x_call Tryz.func53 nm53 bd53 (.cons rfl (.cons rfl .nil)) rfl (coGone (s := kEnds s ws) (k := k) (u := u) PC (by rw [kEnds_same.1]; exact hq) (by rw [kEnds_same.2]; exact hz)) fun _ => ?_
  refine L_nil <| J_endnormal ?_
  exact J_return (()) Tryz.results57 .nil rfl SU

set_option maxRecDepth 100000 in
set_option maxHeartbeats 4000000 in
theorem coDestroy {E : World} {l m : List As} {p : Nat} {s : KS} {v : Value} {k u : Int} (hp : Picks [coA p s, row 82 2 v [encI (k, u)]] l m) {ws : List ID} {N M : Nat} (hk : k ≠ 3 ∧ k ≠ 9) (hW : ∀ (E : World) (l m : List As), Pick (coA p s) l m → Con Tryz.prog 82 #[.pointer (some ⟨p, 0, none⟩), .agg (encI (k, u)).toArray] E l (fun v : Value => v) (fun v => row 36 2 v (ws.map encI) :: coA p s :: m)) (hF : Fits s N M) (hq : s.q.length ≤ 90000) (hz : s.mp.length ≤ 1000000) :
  Con Tryz.prog 32 #[.pointer (some ⟨p, 0, none⟩), v] E l (fun _ : Unit => .tuple #[]) (fun _ => coA p (kGone (kEnds s ws) k u) :: m) := by
 refine Con.body (vs := [.pointer (some ⟨p, 0, none⟩), v]) (n := 16) Tryz.func32 rfl rfl [(0, .pointer (some ⟨p, 0, none⟩)), (1, v)] (env_ok 2 rfl) <| J_picks2 hp <| J_row (.there .here) fun hw a cap hv h1 h2 h3 => ?_
 subst hv
 obtain ⟨bo, oo, rfl⟩ := h3 (by simp)
 have hm : cap ≤ 9223372036854775807 := h2
 refine sr <| mv rfl rfl <| L_pur rfl (p_len rfl Tryz.underlying151) <| mv rfl rfl <| J_pick (A := coA p s) PC ?_
 refine J_asTo (B := coA p (if 0 = 0 then s else kGone (kEnds s ws) k u)) (by rw [if_pos rfl]) <| nq <| J_block <| J_loop (α := Nat) (fun j => j ≤ 1) (fun j => row 82 2 (.slice (some ⟨bo, oo, none⟩) 1 cap) [encI (k, u)] :: coA p (if j = 0 then s else kGone (kEnds s ws) k u) :: m) (fun j => [(8, .int .i64 (j : Int)), (6, .slice (some ⟨bo, oo, none⟩) 1 cap), (7, .int .i64 1), (0, .pointer (some ⟨p, 0, none⟩))]) (fun j => 1 - j) 0 (by omega) SU KE ?_
 intro j hj
 refine sr <| L_pur rfl (p_lss rfl rfl) <| nq <| J_seq ?_
 refine C_dec rfl (fun h9 => ?_) (fun h9 => ?_)
 ·
  have hj0 : j = 0 := by omega
  subst hj0
  refine J_pick (A := coA p _) PC ?_
  refine J_asTo (B := coA p s) (by rw [if_pos rfl]) <| J_skip <| Q_then <| J_seq <| J_block <| sr <| L_pur rfl (p_indexAddr rfl rfl Tryz.underlying151 ty82 (by simp) (by simp)) <| L_val rfl (v_loadE rfl ty82 HS (by rfl)) ?_
  refine L_op <| x_alloc ty82 rfl fun b5 => L_op <| x_store rfl rfl ty82 rfl SM SM RO PT ?_
  refine ny <| mv rfl rfl <| L_val rfl (v_loadA rfl ty82 HS CT) ?_
  refine L_op <| x_call Tryz.func57 nm57 bd57 (.cons rfl (.cons rfl .nil)) rfl (coDest (s := s) (k := k) (u := u) PC hk hW hF hq hz) fun _ => ?_
  refine L_nil <| Q_blk_normal <| qr <| L_pur rfl (p_add64 rfl rfl (by omega)) <| mv rfl rfl <| nq <| J_pick (A := coA p _) PC ?_
  refine J_asTo (B := coA p (if 0 + 1 = 0 then s else kGone (kEnds s ws) k u)) (by rw [if_neg (by omega)]) ?_
  exact J_again (0 + 1) (by omega) (by omega) SU KE
 ·
  have hj1 : j = 1 := by omega
  subst hj1
  refine J_pick (A := coA p _) PC ?_
  refine J_asTo (B := coA p (kGone (kEnds s ws) k u)) (by rw [if_neg (by omega)]) <| J_exit <| Q_then_exit <| Q_then_exit <| Q_blk_this <| J_endnormal ?_
  exact J_return (()) Tryz.results32 .nil rfl SU

end Go.Pse
