/-
  Readers of the state.
-/
import Derived.Test.YtkdifbmjhkfgoaaGreatC11
namespace Go.Pse
open Go.RowKit Go.Proofs

set_option maxRecDepth 100000 in
set_option maxHeartbeats 4000000 in
theorem slAllC {E : World} {l m : List As} {b o : Nat} {ps : List (Place × SV)} (hp : Pick (slA b o ps) l m) (hb : ps.length ≤ 1000000) :
    Con Tryz.prog 10 #[.pointer (some ⟨b, o, none⟩)] E l (fun v : Value => v) (fun v => row 44 2 v ((sortP (ps.map Prod.fst)).map encI) :: slA b o ps :: m) := by
  refine Con.body (vs := [.pointer (some ⟨b, o, none⟩)]) (n := 9) Tryz.func10 rfl rfl [(0, .pointer (some ⟨b, o, none⟩))] (env_ok 1 rfl) <| J_pick hp <| J_slO fun ob _ => sr <| ag rfl rfl <| nx <| mv rfl rfl <| nc rfl rfl ?_
  refine fa rfl rfl fa143_0 <| L_val rfl (v_loadL rfl ty141 HS rfl (by exact rfl)) ?_
  refine L_op <| x_call Tryz.func57 nm57 bd57 (.cons rfl .nil) rfl (mapsKeys57) fun b7 => L_op <| x_call Tryz.func56 nm56 bd56 (.cons rfl (.cons rfl .nil)) rfl (slSd (ks := ps.map Prod.fst) (A := blk b7 141 [.map ob]) (B := mapV kI evS (.map ob) ps) Tryz.func118 nm118 bd118 (by simpa using hb) (by simpa using keys118) PX) <| JR fun a8 c8 hw8 hl8 hm8 hz8 => ag rfl rfl <| nq <| J_ret ?_
  refine J_slS (b := b) (o := o) (ps := ps) _ PX trivial ?_
  exact J_return (_) Tryz.results10 (.tmp rfl .nil) rfl SU

set_option maxRecDepth 100000 in
set_option maxHeartbeats 4000000 in
theorem spAllC {E : World} {l m : List As} {b o : Nat} {ps : List (Place × M1)} (hp : Pick (spA b o ps) l m) (hb : ps.length ≤ 1000000) :
    Con Tryz.prog 27 #[.pointer (some ⟨b, o, none⟩)] E l (fun v : Value => v) (fun v => row 63 2 v ((sortP (ps.map Prod.fst)).map encI) :: spA b o ps :: m) := by
  refine Con.body (vs := [.pointer (some ⟨b, o, none⟩)]) (n := 9) Tryz.func27 rfl rfl [(0, .pointer (some ⟨b, o, none⟩))] (env_ok 1 rfl) <| J_pick hp <| J_spO fun ob _ => sr <| ag rfl rfl <| nx <| mv rfl rfl <| nc rfl rfl ?_
  refine fa rfl rfl fa149_0 <| L_val rfl (v_loadL rfl ty147 HS rfl (by exact rfl)) ?_
  refine L_op <| x_call Tryz.func67 nm67 bd67 (.cons rfl .nil) rfl (mapsKeys67) fun b7 => L_op <| x_call Tryz.func66 nm66 bd66 (.cons rfl (.cons rfl .nil)) rfl (pgSd (ks := ps.map Prod.fst) (A := blk b7 147 [.map ob]) (B := mapV kI kI (.map ob) ps) Tryz.func131 nm131 bd131 (by simpa using hb) (by simpa using keys131) PX) <| JR fun a8 c8 hw8 hl8 hm8 hz8 => ag rfl rfl <| nq <| J_ret ?_
  refine J_spS (b := b) (o := o) (ps := ps) _ PX trivial ?_
  exact J_return (_) Tryz.results27 (.tmp rfl .nil) rfl SU

set_option maxRecDepth 100000 in
set_option maxHeartbeats 4000000 in
theorem slGetC {E : World} {l m : List As}  {b o : Nat} {ps : List (Place × SV)} (hp : Pick (slA b o ps) l m) {p : Place} :
    Con Tryz.prog 15 #[.pointer (some ⟨b, o, none⟩), .agg (encI p).toArray] E l (fun _ : Unit => .tuple #[.agg (encC ((look ps p).getD s0).1).toArray, .bool (look ps p).isSome]) (fun _ => slA b o ps :: m) := by
  refine Con.body (vs := [.pointer (some ⟨b, o, none⟩), .agg (encI p).toArray]) (n := 20) Tryz.func15 rfl rfl [(0, .pointer (some ⟨b, o, none⟩)), (1, .agg (encI p).toArray)] (env_ok 2 rfl) <| J_pick hp <| J_slO fun ob _ => sr <| L_op <| x_box rfl rfl rfl fun b3 => L_op <| x_alloc ty40 rfl fun b4 => ?_
  refine ag rfl rfl <| nq <| J_seq <| J_drawL none mixed <| ip 0 rfl rfl rfl rfl (p_move rfl) <| ip 1 rfl rfl rfl rfl (p_nilCheck rfl) <| ip 2 rfl rfl rfl rfl (p_fieldAddr rfl fa143_0) <| iv 3 rfl rfl rfl rfl (fun _ => v_loadL rfl ty141 HS rfl (by exact rfl)) ?_
  refine iv 4 rfl rfl rfl rfl (fun _ => v_loadA rfl ty44 HS CT) ?_
  refine iv 5 rfl rfl rfl rfl (fun _ => v_lookOk (ek := kI) (ev := evS) (a := p) rfl rfl ky44 Tryz.underlying141 zv179 HS) ?_
  refine J_slot (t := 14) (v := .tuple #[evS ((look ps p).getD s0), .bool (look ps p).isSome]) rfl (by cases look ps p <;> rfl) <| ip 6 rfl rfl rfl rfl (p_move rfl) <| ip 7 rfl rfl rfl rfl (p_extract rfl rfl) <| ip 8 rfl rfl rfl rfl (p_extract rfl rfl) <| i1 9 rfl <| x_alloc ty179 rfl fun b6 => i1 10 rfl <| x_store rfl rfl ty179 rfl SM SM RO PT ?_
  refine ip 11 rfl rfl rfl rfl (p_assign rfl) <| i0 <| qx <| fa rfl rfl fa179_0 <| L_val rfl (v_loadA rfl ty40 HS CT) ?_
  refine mv rfl rfl <| L_op <| x_store rfl rfl ty40 rfl SM SM RO PT ?_
  refine ag rfl rfl <| nq <| J_ret <| J_slS (b := b) (o := o) (ps := ps) _ PX trivial ?_
  refine J_return (()) Tryz.results15 (.cellA rfl ty40 HS CT (.tmp rfl .nil)) ?_ ?_
  · rfl
  · exact SU

set_option maxRecDepth 100000 in
set_option maxHeartbeats 4000000 in
theorem slParC {E : World} {l m : List As}  {b o : Nat} {ps : List (Place × SV)} (hp : Pick (slA b o ps) l m) {p : Place} :
    Con Tryz.prog 16 #[.pointer (some ⟨b, o, none⟩), .agg (encI p).toArray] E l (fun _ : Unit => .agg (encI ((look ps p).getD s0).2).toArray) (fun _ => slA b o ps :: m) := by
  refine Con.body (vs := [.pointer (some ⟨b, o, none⟩), .agg (encI p).toArray]) (n := 12) Tryz.func16 rfl rfl [(0, .pointer (some ⟨b, o, none⟩)), (1, .agg (encI p).toArray)] (env_ok 2 rfl) <| J_pick hp <| J_slO fun ob _ => sr <| L_op <| x_box rfl rfl rfl fun b3 => L_op <| x_alloc ty44 rfl fun b4 => ?_
  refine nq <| J_seq <| J_drawT 7 mixed (by kernel_rfl) <| sm rfl rfl <| sp rfl (p_nilCheck rfl) <| sp rfl (p_fieldAddr rfl fa143_0) <| S_val rfl (v_loadL rfl ty141 HS rfl (by exact rfl)) ?_
  refine S_val rfl (v_loadA rfl ty44 HS CT) ?_
  refine S_val rfl (v_look (ek := kI) (ev := evS) (a := p) rfl rfl ky44 Tryz.underlying141 zv179 HS) ?_
  refine J_slot (t := 10) (v := evS ((look ps p).getD s0)) rfl (by cases look ps p <;> rfl) <| sp rfl (p_field rfl fd179_1) <| S_nil <| L_op <| x_store rfl rfl ty44 rfl SM SM RO PT ?_
  refine nq <| J_ret <| J_slS (b := b) (o := o) (ps := ps) _ PX trivial ?_
  refine J_return (()) Tryz.results16 (.cellA rfl ty44 HS CT .nil) ?_ ?_
  · rfl
  · exact SU

set_option maxRecDepth 100000 in
set_option maxHeartbeats 4000000 in
theorem spGetC {E : World} {l m : List As}  {b o : Nat} {ps : List (Place × M1)} (hp : Pick (spA b o ps) l m) {p : Place} :
    Con Tryz.prog 22 #[.pointer (some ⟨b, o, none⟩), .agg (encI p).toArray] E l (fun _ : Unit => .tuple #[.agg (encI ((look ps p).getD (0, 0))).toArray, .bool (look ps p).isSome]) (fun _ => spA b o ps :: m) := by
  refine Con.body (vs := [.pointer (some ⟨b, o, none⟩), .agg (encI p).toArray]) (n := 19) Tryz.func22 rfl rfl [(0, .pointer (some ⟨b, o, none⟩)), (1, .agg (encI p).toArray)] (env_ok 2 rfl) <| J_pick hp <| J_spO fun ob _ => sr <| L_op <| x_box rfl rfl rfl fun b3 => L_op <| x_alloc ty57 rfl fun b4 => ?_
  refine ag rfl rfl <| nq <| J_seq <| J_drawL none mixed <| ip 0 rfl rfl rfl rfl (p_move rfl) <| ip 1 rfl rfl rfl rfl (p_nilCheck rfl) <| ip 2 rfl rfl rfl rfl (p_fieldAddr rfl fa149_0) <| iv 3 rfl rfl rfl rfl (fun _ => v_loadL rfl ty147 HS rfl (by exact rfl)) ?_
  refine iv 4 rfl rfl rfl rfl (fun _ => v_loadA rfl ty63 HS CT) ?_
  refine iv 5 rfl rfl rfl rfl (fun _ => v_lookOk (ek := kI) (ev := kI) (a := p) rfl rfl ky63 Tryz.underlying147 zv57 HS) ?_
  refine J_slot (t := 14) (v := .tuple #[kI ((look ps p).getD (0, 0)), .bool (look ps p).isSome]) rfl (by cases look ps p <;> rfl) <| ip 6 rfl rfl rfl rfl (p_move rfl) <| ip 7 rfl rfl rfl rfl (p_extract rfl rfl) <| ip 8 rfl rfl rfl rfl (p_extract rfl rfl) <| i1 9 rfl <| x_alloc ty57 rfl fun b6 => i1 10 rfl <| x_store rfl rfl ty57 rfl SM SM RO PT ?_
  refine ip 11 rfl rfl rfl rfl (p_assign rfl) <| i0 <| qx <| L_val rfl (v_loadA rfl ty57 HS CT) ?_
  refine mv rfl rfl <| L_op <| x_store rfl rfl ty57 rfl SM SM RO PT ?_
  refine ag rfl rfl <| nq <| J_ret <| J_spS (b := b) (o := o) (ps := ps) _ PX trivial ?_
  refine J_return (()) Tryz.results22 (.cellA rfl ty57 HS CT (.tmp rfl .nil)) ?_ ?_
  · rfl
  · exact SU

set_option maxRecDepth 100000 in
set_option maxHeartbeats 4000000 in
theorem coThr {E : World} {l m : List As} {p : Nat} {s : KS} (hp : Pick (coA p s) l m) {u : Int} :
    Con Tryz.prog 17 #[.pointer (some ⟨p, 0, none⟩), .int .i64 u] E l (fun _ : Unit => .tuple #[evT ((look s.th u).getD t0), .bool (look s.th u).isSome]) (fun _ => coA p s :: m) := by
  refine Con.body (vs := [.pointer (some ⟨p, 0, none⟩), .int .i64 u]) (n := 19) Tryz.func17 rfl rfl [(0, .pointer (some ⟨p, 0, none⟩)), (1, .int .i64 u)] (env_ok 2 rfl) <| J_pick hp <| J_coO fun bn be br bg bt bs bp bl bk _ => sr <| L_op <| x_alloc ty47 rfl fun b4 => ag rfl rfl <| nx ?_
  refine mv rfl rfl <| nc rfl rfl <| fa rfl rfl fa162_13 <| L_val rfl (v_loadL (o := 13) (i := 4) rfl ty137 HS rfl (by exact rfl)) ?_
  refine mv rfl rfl <| L_val rfl (v_lookOk (ek := kZ) (ev := evT) (a := u) rfl rfl ky3 Tryz.underlying137 zv47 HS) ?_
  refine J_slot (t := 14) (v := .tuple #[evT ((look s.th u).getD t0), .bool (look s.th u).isSome]) rfl (by cases look s.th u <;> rfl) <| mv rfl rfl <| L_pur rfl (p_extract rfl rfl) <| L_pur rfl (p_extract rfl rfl) <| L_op <| x_alloc ty47 rfl fun b6 => L_op <| x_store rfl rfl ty47 rfl SM SM RO PT ?_
  refine ag rfl rfl <| nx <| L_val rfl (v_loadA rfl ty47 HS CT) ?_
  refine mv rfl rfl <| L_op <| x_store rfl rfl ty47 rfl SM SM RO PT ?_
  refine ag rfl rfl <| nq <| J_ret <| J_coS (p := p) (s := s) bn be br bg bt bs bp bl bk PX trivial ?_
  refine J_return (()) Tryz.results17 (.cellA rfl ty47 HS CT (.tmp rfl .nil)) ?_ ?_
  · rfl
  · exact SU

set_option maxRecDepth 100000 in
set_option maxHeartbeats 4000000 in
theorem coBell {E : World} {l m : List As} {p : Nat} {s : KS} (hp : Pick (coA p s) l m) {u : Int} :
    Con Tryz.prog 30 #[.pointer (some ⟨p, 0, none⟩), .int .i64 u] E l (fun _ : Unit => .tuple #[.int .i64 ((look s.be u).getD (0, 0)).1, .int .u32 ((look s.be u).getD (0, 0)).2]) (fun _ => coA p s :: m) := by
  refine Con.body (vs := [.pointer (some ⟨p, 0, none⟩), .int .i64 u]) (n := 17) Tryz.func30 rfl rfl [(0, .pointer (some ⟨p, 0, none⟩)), (1, .int .i64 u)] (env_ok 2 rfl) <| J_pick hp <| J_coO fun bn be br bg bt bs bp bl bk _ => sr <| ag rfl rfl <| ag rfl rfl <| nx <| mv rfl rfl ?_
  refine nc rfl rfl <| fa rfl rfl fa162_16 <| L_val rfl (v_loadL (o := 13) (i := 7) rfl ty140 HS rfl (by exact rfl)) ?_
  refine mv rfl rfl <| L_val rfl (v_look (ek := kZ) (ev := evL) (a := u) rfl rfl ky3 Tryz.underlying140 zv199 HS) ?_
  refine J_slot (t := 12) (v := evL ((look s.be u).getD (0, 0))) rfl (by cases look s.be u <;> rfl) <| L_op <| x_alloc ty199 rfl fun b6 => L_op <| x_store rfl rfl ty199 rfl SM SM RO PT ?_
  refine nq <| J_seq <| J_drawS mixed (by kernel_rfl) <| sp rfl (p_fieldAddr rfl fa199_0) <| S_val rfl (v_load rfl ty3 HS (by exact rfl)) ?_
  refine sp rfl (p_fieldAddr rfl fa199_1) <| S_val rfl (v_load rfl ty76 HS (by exact rfl)) ?_
  refine sp rfl (p_assign rfl) <| sp rfl (p_assign rfl) <| sq <| J_ret <| J_coS (p := p) (s := s) bn be br bg bt bs bp bl bk PX trivial ?_
  refine J_return (()) Tryz.results30 (.tmp rfl (.tmp rfl .nil)) ?_ ?_
  · rfl
  · exact SU

set_option maxRecDepth 100000 in
set_option maxHeartbeats 4000000 in
theorem coNotif {E : World} {l m : List As} {p : Nat} {s : KS} (hp : Pick (coA p s) l m) {u : Int} :
    Con Tryz.prog 31 #[.pointer (some ⟨p, 0, none⟩), .int .i64 u] E l (fun _ : Unit => ptrOf (look (ptrs s.nt) u)) (fun _ => coA p s :: m) := by
  refine Con.body (vs := [.pointer (some ⟨p, 0, none⟩), .int .i64 u]) (n := 11) Tryz.func31 rfl rfl [(0, .pointer (some ⟨p, 0, none⟩)), (1, .int .i64 u)] (env_ok 2 rfl) <| J_pick hp <| J_coO fun bn be br bg bt bs bp bl bk _ => sr <| ag rfl rfl <| nx <| mv rfl rfl <| nc rfl rfl ?_
  refine fa rfl rfl fa162_9 <| L_val rfl (v_loadL (o := 13) (i := 0) rfl ty133 HS rfl (by exact rfl)) ?_
  refine mv rfl rfl <| L_val rfl (v_look (ek := kZ) (ev := evA) (a := u) rfl rfl ky3 Tryz.underlying133 zv79 HS) ?_
  refine J_slot (t := 10) (v := ptrOf (look (ptrs s.nt) u)) rfl (by cases look (ptrs s.nt) u <;> rfl) <| ag rfl rfl <| nq <| J_ret <| J_coS (p := p) (s := s) bn be br bg bt bs bp bl bk PX trivial ?_
  exact J_return (()) Tryz.results31 (.tmp rfl .nil) rfl SU

set_option maxRecDepth 100000 in
set_option maxHeartbeats 4000000 in
theorem coEp {E : World} {l m : List As} {p : Nat} {s : KS} (hp : Pick (coA p s) l m) {u : Int} :
    Con Tryz.prog 32 #[.pointer (some ⟨p, 0, none⟩), .int .i64 u] E l (fun _ : Unit => ptrOf (look (ptrs s.ep) u)) (fun _ => coA p s :: m) := by
  refine Con.body (vs := [.pointer (some ⟨p, 0, none⟩), .int .i64 u]) (n := 11) Tryz.func32 rfl rfl [(0, .pointer (some ⟨p, 0, none⟩)), (1, .int .i64 u)] (env_ok 2 rfl) <| J_pick hp <| J_coO fun bn be br bg bt bs bp bl bk _ => sr <| ag rfl rfl <| nx <| mv rfl rfl <| nc rfl rfl ?_
  refine fa rfl rfl fa162_10 <| L_val rfl (v_loadL (o := 13) (i := 1) rfl ty134 HS rfl (by exact rfl)) ?_
  refine mv rfl rfl <| L_val rfl (v_look (ek := kZ) (ev := evA) (a := u) rfl rfl ky3 Tryz.underlying134 zv81 HS) ?_
  refine J_slot (t := 10) (v := ptrOf (look (ptrs s.ep) u)) rfl (by cases look (ptrs s.ep) u <;> rfl) <| ag rfl rfl <| nq <| J_ret <| J_coS (p := p) (s := s) bn be br bg bt bs bp bl bk PX trivial ?_
  exact J_return (()) Tryz.results32 (.tmp rfl .nil) rfl SU

set_option maxRecDepth 100000 in
set_option maxHeartbeats 4000000 in
theorem coReply {E : World} {l m : List As} {p : Nat} {s : KS} (hp : Pick (coA p s) l m) {u : Int} :
    Con Tryz.prog 29 #[.pointer (some ⟨p, 0, none⟩), .int .i64 u] E l (fun _ : Unit => ptrOf (look (ptrs s.rp) u)) (fun _ => coA p s :: m) := by
  refine Con.body (vs := [.pointer (some ⟨p, 0, none⟩), .int .i64 u]) (n := 11) Tryz.func29 rfl rfl [(0, .pointer (some ⟨p, 0, none⟩)), (1, .int .i64 u)] (env_ok 2 rfl) <| J_pick hp <| J_coO fun bn be br bg bt bs bp bl bk _ => sr <| ag rfl rfl <| nx <| mv rfl rfl <| nc rfl rfl ?_
  refine fa rfl rfl fa162_11 <| L_val rfl (v_loadL (o := 13) (i := 2) rfl ty135 HS rfl (by exact rfl)) ?_
  refine mv rfl rfl <| L_val rfl (v_look (ek := kZ) (ev := evA) (a := u) rfl rfl ky3 Tryz.underlying135 zv74 HS) ?_
  refine J_slot (t := 10) (v := ptrOf (look (ptrs s.rp) u)) rfl (by cases look (ptrs s.rp) u <;> rfl) <| ag rfl rfl <| nq <| J_ret <| J_coS (p := p) (s := s) bn be br bg bt bs bp bl bk PX trivial ?_
  exact J_return (()) Tryz.results29 (.tmp rfl .nil) rfl SU

set_option maxRecDepth 100000 in
set_option maxHeartbeats 4000000 in
theorem rgUnitsC {E : World} {l m : List As} {b mb : Nat} {r : Rg} (hp : Pick (rgA b mb r) l m) :
    Con Tryz.prog 20 #[.pointer (some ⟨b, 0, none⟩)] E l (fun _ : Unit => .tuple #[.int .i64 r.sq, .int .i64 r.cq]) (fun _ => rgA b mb r :: m) := by
  refine Con.body (vs := [.pointer (some ⟨b, 0, none⟩)]) (n := 12) Tryz.func20 rfl rfl [(0, .pointer (some ⟨b, 0, none⟩))] (env_ok 1 rfl) <| J_pick hp <| J_rgO fun v _ => sr <| ag rfl rfl <| ag rfl rfl <| nq <| J_seq ?_
  refine J_drawS mixed (by kernel_rfl) <| sm rfl rfl <| sp rfl (p_nilCheck rfl) <| sp rfl (p_fieldAddr rfl fa191_1) <| S_val rfl (v_load rfl ty3 HS (by exact rfl)) ?_
  refine sm rfl rfl <| sp rfl (p_nilCheck rfl) <| sp rfl (p_fieldAddr rfl fa191_2) <| S_val rfl (v_load rfl ty3 HS (by exact rfl)) ?_
  refine sp rfl (p_assign rfl) <| sp rfl (p_assign rfl) <| sq <| J_ret <| J_rgS (b := b) (mb := mb) (r := r) _ PX trivial ?_
  refine J_return (()) Tryz.results20 (.tmp rfl (.tmp rfl .nil)) ?_ ?_
  · rfl
  · exact SU

set_option maxRecDepth 100000 in
set_option maxHeartbeats 4000000 in
theorem keys122 {E : World} {bm : Nat} {v : Value} {ps : List (Int × Nat)} :
  Gives Tryz.prog 122 #[.pointer (some ⟨bm, 0, none⟩)] kZ (fun ss => ss.Perm (ps.map Prod.fst)) ps.length E (blk bm 136 [v]) (mapV kZ evA v ps) := by
 intro lp L hy
 show Con Tryz.prog 122 #[.func (.yield lp) #[] #[], .pointer (some ⟨bm, 0, none⟩)] E (blk bm 136 [v] :: mapV kZ evA v ps :: L []) _ _
 refine Con.body (vs := [.func (.yield lp) #[] #[], .pointer (some ⟨bm, 0, none⟩)]) (n := 14) Tryz.func122 rfl rfl [(0, .func (.yield lp) #[] #[]), (1, .pointer (some ⟨bm, 0, none⟩))] (env_ok 2 rfl) <| sr <| L_val rfl (v_load rfl ty136 HS (by exact rfl)) ?_
 refine L_op <| x_range (ek := kZ) (ev := evA) rfl Tryz.underlying136 PC rfl fun r5 => ?_
 refine nq <| J_block <| J_rangeKeyd (ek := kZ) (ev := evA) (ps := ps) HS fun hK => ?_
 refine J_loop (fun done => Come ps done) (fun done => rangeA kZ evA v r5 ps done :: blk bm 136 [v] :: L done) (fun done => [(5, .pointer (some ⟨r5, 0, none⟩)), (0, .func (.yield lp) #[] #[]), (1, .pointer (some ⟨bm, 0, none⟩))]) (fun done => ps.length - done.length) [] Come.nil SU KE ?_
 intro done hC
 refine sr ?_
 refine L_op (x_next (ek := kZ) (ev := evA) rfl PC rfl (fun k6 u6 hm6 hn6 => ?_) (fun hd6 => ?_))
 ·
  refine L_pur rfl (p_extract rfl rfl) <| nq <| J_seq <| C_true rfl <| J_skip <| Q_then <| J_block <| sr ?_
  refine L_val rfl (v_entry (ek := kZ) (ev := evA) rfl HS (by simp) hm6) ?_
  refine L_pur rfl (p_extract rfl rfl) <| ag rfl rfl <| nq <| J_seq <| J_regionIn <| LI_op <| J_pur (p_move rfl) rfl rfl rfl <| LI_op ?_
  refine J_pur (p_move rfl) rfl rfl rfl <| LI_yield rfl rfl rfl ((hy done k6 _ _ (hC.lt hK hm6 hn6))) <| LI_op <| J_pur (p_not rfl) rfl rfl rfl <| LI_nil <| Q_then <| C_false rfl <| J_skip ?_
  refine Q_blk_normal <| Q_then ?_
  exact J_again ((done ++ [k6])) (by have := hC.lt hK hm6 hn6; simp; omega) (hC.step hm6 hn6) SU KE
 ·
  refine L_pur rfl (p_extract rfl rfl) <| nq <| J_seq <| C_false rfl <| J_exit <| Q_then_exit <| Q_then_exit <| Q_blk_this ?_
  refine J_endnormal <| J_rangeEnd <| J_pure_in (p := done.Perm (ps.map Prod.fst)) (hC.perm hK hd6) ?_
  exact J_return (done) Tryz.results122 .nil rfl SU

set_option maxRecDepth 100000 in
set_option maxHeartbeats 4000000 in
theorem mapsKeys61 {E : World} {l : List As} {ob : Option Nat} :
    Con Tryz.prog 61 #[.map ob] E l (fun b : Nat => .func (.func 122) #[] #[.pointer (some ⟨b, 0, none⟩)]) (fun b => blk b 136 [.map ob] :: l) := by
  refine Con.body (vs := [.map ob]) (n := 4) Tryz.func61 rfl rfl [(0, .map ob)] (env_ok 1 rfl) <| sr <| L_op <| x_box rfl rfl rfl fun b1 => ag rfl rfl <| nx <| L_pur rfl (p_makeFunc (.cons rfl .nil)) <| ag rfl rfl ?_
  refine nq <| J_ret ?_
  exact J_return (b1) Tryz.results61 (.tmp rfl .nil) rfl SU

set_option maxRecDepth 100000 in
set_option maxHeartbeats 4000000 in
theorem coRings {E : World} {l m : List As}{p : Nat} {s : KS} (hp : Pick (coA p s) l m) (hb : s.rg.length ≤ 1000) :
    Con Tryz.prog 12 #[.pointer (some ⟨p, 0, none⟩)] E l (fun v : Value => v) (fun v => row 3 1 v ((sortZ (s.rg.map Prod.fst)).map encN) :: coA p s :: m) := by
  refine Con.body (vs := [.pointer (some ⟨p, 0, none⟩)]) (n := 9) Tryz.func12 rfl rfl [(0, .pointer (some ⟨p, 0, none⟩))] (env_ok 1 rfl) <| J_pick hp <| J_coO fun bn be br bg bt bs bp bl bk _ => sr <| ag rfl rfl <| nx <| mv rfl rfl <| nc rfl rfl ?_
  refine fa rfl rfl fa162_12 <| L_val rfl (v_loadL (o := 13) (i := 3) rfl ty136 HS rfl (by exact rfl)) ?_
  refine L_op <| x_call Tryz.func61 nm61 bd61 (.cons rfl .nil) rfl (mapsKeys61) fun b7 => L_op <| x_call Tryz.func59 nm59 bd59 (.cons rfl .nil) rfl (sortedI (ks := (ptrs s.rg).map Prod.fst) (A := blk b7 136 [.map (some bg)]) (B := mapV kZ evA (.map (some bg)) (ptrs s.rg)) Tryz.func122 nm122 bd122 (by simp [ptrs]; omega) (by simpa using keys122) PX) <| JE ((sortZ (s.rg.map Prod.fst)).map encN) (by simp [ptrs, Function.comp_def]) fun a8 c8 hw8 hl8 hm8 hz8 => ag rfl rfl <| nq <| J_ret ?_
  refine J_coS (p := p) (s := s) bn be br bg bt bs bp bl bk PX trivial ?_
  exact J_return (_) Tryz.results12 (.tmp rfl .nil) rfl SU

def Owns (s : KS) (r : Int) (x : Option Th) : Prop := match x with
  | none => ∀ q ∈ s.th, q.2.ring ≠ r
  | some t => ∃ k, look s.th k = some t ∧ t.ring = r
set_option maxRecDepth 100000 in
set_option maxHeartbeats 4000000 in
theorem coOwner {E : World} {l m : List As}{p : Nat} {s : KS} (hp : Pick (coA p s) l m) {r : Int} :
    Con Tryz.prog 23 #[.pointer (some ⟨p, 0, none⟩), .int .i64 r] E l (fun x : Option Th => .tuple #[evT (x.getD t0), .bool x.isSome]) (fun x => As.pure (Owns s r x) :: coA p s :: m) := by
  refine Con.body (vs := [.pointer (some ⟨p, 0, none⟩), .int .i64 r]) (n := 23) Tryz.func23 rfl rfl [(0, .pointer (some ⟨p, 0, none⟩)), (1, .int .i64 r)] (env_ok 2 rfl) <| J_pick hp <| J_coO fun bn be br bg bt bs bp bl bk _ => sr <| L_op <| x_alloc ty47 rfl fun b4 => ag rfl rfl <| nxx ?_
  refine mv rfl rfl <| nc rfl rfl <| fa rfl rfl fa162_13 <| L_val rfl (v_loadL (o := 13) (i := 4) rfl ty137 HS rfl (by exact rfl)) ?_
  refine L_op <| x_range (ek := kZ) (ev := evT) rfl Tryz.underlying137 PC rfl fun r12 => ?_
  refine nq <| J_block <| J_rangeKeyd (ek := kZ) (ev := evT) (ps := s.th) HS fun hK => ?_
  refine J_loop (fun done => Come s.th done ∧ ∀ q ∈ s.th, q.1 ∈ done → q.2.ring ≠ r) (fun done => rangeA kZ evT (.map (some bt)) r12 s.th done :: blk b4 47 [.int .i64 0, .int .i64 0, .int .i64 0, .int .i64 0, .int .i64 0, .int .i64 0, .int .i64 0, .int .i64 0] :: fld p 0 [.int .i64 s.ct, .int .i64 s.cu, .int .i64 s.cs, .int .i64 s.cc, .bool s.sh, .pointer (some ⟨s.mb, 0, none⟩)] :: memA s.mb s.mem :: slA p 6 s.sl :: mkA p 7 s.mr :: spA p 8 s.mp :: rqA p 9 s.q :: rtA p 10 s.rt :: tmrA p 11 s.tm :: jnlA p 12 s.jn :: fld p 13 [.map (some bn), .map (some be), .map (some br), .map (some bg), .map (some bt), .map (some bs), .map (some bp), .map (some bl), .map (some bk)] :: mapV kZ evA (.map (some bn)) (ptrs s.nt) :: each ntF s.nt :: mapV kZ evA (.map (some be)) (ptrs s.ep) :: each epF s.ep :: mapV kZ evA (.map (some br)) (ptrs s.rp) :: each rpF s.rp :: mapV kZ evA (.map (some bg)) (ptrs s.rg) :: each (rgF s.mb) s.rg :: mapV kZ evB (.map (some bs)) s.sp :: mapV kZ evZ (.map (some bp)) s.pr :: mapV kZ evL (.map (some bl)) s.be :: mapV kZ evZ (.map (some bk)) s.tk :: fld p 22 [.int .u64 s.now] :: m) (fun done => [(12, .pointer (some ⟨r12, 0, none⟩)), (0, .pointer (some ⟨p, 0, none⟩)), (1, .int .i64 r), (4, .pointer (some ⟨b4, 0, none⟩))]) (fun done => s.th.length - done.length) [] ⟨Come.nil, fun _ _ h => by cases h⟩ SU KE ?_
  intro done hC
  obtain ⟨hC, hN⟩ := hC
  refine sr ?_
  refine L_op (x_next (ek := kZ) (ev := evT) rfl PC rfl (fun k13 u13 hm13 hn13 => ?_) (fun hd13 => ?_))
  ·
    refine L_pur rfl (p_extract rfl rfl) <| nq <| J_seq <| C_true rfl <| J_skip <| Q_then <| J_block <| sr ?_
    refine L_val rfl (v_entry (ek := kZ) (ev := evT) rfl HS (by simp) hm13) ?_
    refine L_pur rfl (p_extract rfl rfl) <| L_op <| x_alloc ty47 rfl fun b7 => L_op <| x_store rfl rfl ty47 rfl SM SM RO PT ?_
    refine nx <| fa rfl rfl fa47_2 <| L_val rfl (v_load rfl ty3 HS (by exact rfl)) ?_
    refine mv rfl rfl <| L_pur rfl (p_eql rfl rfl) <| nq ?_
    refine C_dec rfl (fun h20 => ?_) (fun h20 => ?_)
    ·
      refine sr <| L_val rfl (v_loadA rfl ty47 HS CT) ?_
      refine L_op <| x_store rfl rfl ty47 rfl SM SM RO PT ?_
      refine ag rfl rfl <| nq <| J_ret <| Q_blk_ret <| Q_then_ret <| Q_blk_ret <| Q_then_ret <| J_pick (A := rangeA kZ evT _ _ _ _) PC ?_
      refine J_rangeEnd <| J_coS (p := p) (s := s) bn be br bg bt bs bp bl bk PX trivial ?_
      refine J_pure_in (p := Owns s r (some u13)) (⟨k13, look_mem hK hm13, h20⟩) ?_
      refine J_return (some u13) Tryz.results23 (.cellA rfl ty47 HS CT (.tmp rfl .nil)) ?_ ?_
      · rfl
      · exact SU
    ·
      refine J_skip <| Q_blk_normal <| Q_then ?_
      exact J_again ((done ++ [k13])) (by have := hC.lt hK hm13 hn13; simp; omega) (⟨hC.step hm13 hn13, fun q hq hd => by
          rcases List.mem_append.1 hd with h | h
          · exact hN q hq h
          · obtain rfl := List.mem_singleton.1 h
            have h1 := look_mem hK hq
            rw [look_mem hK hm13] at h1
            cases h1
            exact h20⟩) SU KE
  ·
    refine L_pur rfl (p_extract rfl rfl) <| nq <| J_seq <| C_false rfl <| J_exit <| Q_then_exit <| Q_then_exit <| Q_blk_this ?_
    refine qx <| L_pur rfl (bld47 .nil (by repeat constructor)) <| L_op <| x_store rfl rfl ty47 rfl SM SM RO PT ?_
    refine ag rfl rfl <| nq <| J_ret <| J_pick (A := rangeA kZ evT _ _ _ _) PC ?_
    refine J_rangeEnd <| J_coS (p := p) (s := s) bn be br bg bt bs bp bl bk PX trivial ?_
    refine J_pure_in (p := Owns s r none) (fun q hq => hN q hq (hd13 q hq)) ?_
    refine J_return (none) Tryz.results23 (.cellA rfl ty47 HS CT (.tmp rfl .nil)) ?_ ?_
    · rfl
    · exact SU

end Go.Pse
