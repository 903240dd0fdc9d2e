/-
  Readers of the state.
-/
import Derived.Test.YthjgdlhkdjgjpaaGreatC11
namespace Go.Pse
open Go.RowKit Go.Proofs

set_option maxRecDepth 100000 in
set_option maxHeartbeats 4000000 in
theorem slAllC {E : World} {l m : List As} {b o : Nat} {ps : List (Place × SV)} (hp : Pick (slA b o ps) l m) (hb : ps.length ≤ 1000000) :
    Con Tryz.prog 59 #[.pointer (some ⟨b, o, none⟩)] E l (fun v : Value => v) (fun v => row 129 2 v ((sortP (ps.map Prod.fst)).map encI) :: slA b o ps :: m) := by
  refine Con.body (vs := [.pointer (some ⟨b, o, none⟩)]) (n := 9) Tryz.func59 rfl rfl [(0, .pointer (some ⟨b, o, none⟩))] (env_ok 1 rfl) <| J_pick hp <| J_slO fun ob _ => sr <| ag rfl rfl <| nx <| mv rfl rfl <| nc rfl rfl ?_
  refine fa rfl rfl fa71_0 <| L_val rfl (v_loadL rfl ty69 HS rfl (by exact rfl)) ?_
  refine L_op <| x_call Tryz.func81 nm81 bd81 (.cons rfl .nil) rfl (mapsKeys81) fun b7 => L_op <| x_call Tryz.func80 nm80 bd80 (.cons rfl (.cons rfl .nil)) rfl (slSd (ks := ps.map Prod.fst) (A := blk b7 69 [.map ob]) (B := mapV kI evS (.map ob) ps) Tryz.func120 nm120 bd120 (by simpa using hb) (by simpa using keys120) PX) <| JR fun a8 c8 hw8 hl8 hm8 hz8 => ag rfl rfl <| nq <| J_ret ?_
  refine J_slS (b := b) (o := o) (ps := ps) _ PX trivial ?_
  exact J_return (_) Tryz.results59 (.tmp rfl .nil) rfl SU

set_option maxRecDepth 100000 in
set_option maxHeartbeats 4000000 in
theorem spAllC {E : World} {l m : List As} {b o : Nat} {ps : List (Place × M1)} (hp : Pick (spA b o ps) l m) (hb : ps.length ≤ 1000000) :
    Con Tryz.prog 52 #[.pointer (some ⟨b, o, none⟩)] E l (fun v : Value => v) (fun v => row 54 2 v ((sortP (ps.map Prod.fst)).map encI) :: spA b o ps :: m) := by
  refine Con.body (vs := [.pointer (some ⟨b, o, none⟩)]) (n := 9) Tryz.func52 rfl rfl [(0, .pointer (some ⟨b, o, none⟩))] (env_ok 1 rfl) <| J_pick hp <| J_spO fun ob _ => sr <| ag rfl rfl <| nx <| mv rfl rfl <| nc rfl rfl ?_
  refine fa rfl rfl fa77_0 <| L_val rfl (v_loadL rfl ty75 HS rfl (by exact rfl)) ?_
  refine L_op <| x_call Tryz.func76 nm76 bd76 (.cons rfl .nil) rfl (mapsKeys76) fun b7 => L_op <| x_call Tryz.func75 nm75 bd75 (.cons rfl (.cons rfl .nil)) rfl (pgSd (ks := ps.map Prod.fst) (A := blk b7 75 [.map ob]) (B := mapV kI kI (.map ob) ps) Tryz.func109 nm109 bd109 (by simpa using hb) (by simpa using keys109) PX) <| JR fun a8 c8 hw8 hl8 hm8 hz8 => ag rfl rfl <| nq <| J_ret ?_
  refine J_spS (b := b) (o := o) (ps := ps) _ PX trivial ?_
  exact J_return (_) Tryz.results52 (.tmp rfl .nil) rfl SU

set_option maxRecDepth 100000 in
set_option maxHeartbeats 4000000 in
theorem slGetC {E : World} {l m : List As}  {b o : Nat} {ps : List (Place × SV)} (hp : Pick (slA b o ps) l m) {p : Place} :
    Con Tryz.prog 32 #[.pointer (some ⟨b, o, none⟩), .agg (encI p).toArray] E l (fun _ : Unit => .tuple #[.agg (encC ((look ps p).getD s0).1).toArray, .bool (look ps p).isSome]) (fun _ => slA b o ps :: m) := by
  refine Con.body (vs := [.pointer (some ⟨b, o, none⟩), .agg (encI p).toArray]) (n := 20) Tryz.func32 rfl rfl [(0, .pointer (some ⟨b, o, none⟩)), (1, .agg (encI p).toArray)] (env_ok 2 rfl) <| J_pick hp <| J_slO fun ob _ => sr <| L_op <| x_box rfl rfl rfl fun b3 => L_op <| x_alloc ty119 rfl fun b4 => ?_
  refine ag rfl rfl <| nq <| J_seq <| J_drawL none mixed <| ip 0 rfl rfl rfl rfl (p_move rfl) <| ip 1 rfl rfl rfl rfl (p_nilCheck rfl) <| ip 2 rfl rfl rfl rfl (p_fieldAddr rfl fa71_0) <| iv 3 rfl rfl rfl rfl (fun _ => v_loadL rfl ty69 HS rfl (by exact rfl)) ?_
  refine iv 4 rfl rfl rfl rfl (fun _ => v_loadA rfl ty129 HS CT) ?_
  refine iv 5 rfl rfl rfl rfl (fun _ => v_lookOk (ek := kI) (ev := evS) (a := p) rfl rfl ky129 Tryz.underlying69 zv169 HS) ?_
  refine J_slot (t := 14) (v := .tuple #[evS ((look ps p).getD s0), .bool (look ps p).isSome]) rfl (by cases look ps p <;> rfl) <| ip 6 rfl rfl rfl rfl (p_move rfl) <| ip 7 rfl rfl rfl rfl (p_extract rfl rfl) <| ip 8 rfl rfl rfl rfl (p_extract rfl rfl) <| i1 9 rfl <| x_alloc ty169 rfl fun b6 => i1 10 rfl <| x_store rfl rfl ty169 rfl SM SM RO PT ?_
  refine ip 11 rfl rfl rfl rfl (p_assign rfl) <| i0 <| qx <| fa rfl rfl fa169_0 <| L_val rfl (v_loadA rfl ty119 HS CT) ?_
  refine mv rfl rfl <| L_op <| x_store rfl rfl ty119 rfl SM SM RO PT ?_
  refine ag rfl rfl <| nq <| J_ret <| J_slS (b := b) (o := o) (ps := ps) _ PX trivial ?_
  refine J_return (()) Tryz.results32 (.cellA rfl ty119 HS CT (.tmp rfl .nil)) ?_ ?_
  · rfl
  · exact SU

set_option maxRecDepth 100000 in
set_option maxHeartbeats 4000000 in
theorem slParC {E : World} {l m : List As}  {b o : Nat} {ps : List (Place × SV)} (hp : Pick (slA b o ps) l m) {p : Place} :
    Con Tryz.prog 60 #[.pointer (some ⟨b, o, none⟩), .agg (encI p).toArray] E l (fun _ : Unit => .agg (encI ((look ps p).getD s0).2).toArray) (fun _ => slA b o ps :: m) := by
  refine Con.body (vs := [.pointer (some ⟨b, o, none⟩), .agg (encI p).toArray]) (n := 12) Tryz.func60 rfl rfl [(0, .pointer (some ⟨b, o, none⟩)), (1, .agg (encI p).toArray)] (env_ok 2 rfl) <| J_pick hp <| J_slO fun ob _ => sr <| L_op <| x_box rfl rfl rfl fun b3 => L_op <| x_alloc ty129 rfl fun b4 => ?_
  refine nq <| J_seq <| J_drawT 7 mixed (by kernel_rfl) <| sm rfl rfl <| sp rfl (p_nilCheck rfl) <| sp rfl (p_fieldAddr rfl fa71_0) <| S_val rfl (v_loadL rfl ty69 HS rfl (by exact rfl)) ?_
  refine S_val rfl (v_loadA rfl ty129 HS CT) ?_
  refine S_val rfl (v_look (ek := kI) (ev := evS) (a := p) rfl rfl ky129 Tryz.underlying69 zv169 HS) ?_
  refine J_slot (t := 10) (v := evS ((look ps p).getD s0)) rfl (by cases look ps p <;> rfl) <| sp rfl (p_field rfl fd169_1) <| S_nil <| L_op <| x_store rfl rfl ty129 rfl SM SM RO PT ?_
  refine nq <| J_ret <| J_slS (b := b) (o := o) (ps := ps) _ PX trivial ?_
  refine J_return (()) Tryz.results60 (.cellA rfl ty129 HS CT .nil) ?_ ?_
  · rfl
  · exact SU

set_option maxRecDepth 100000 in
set_option maxHeartbeats 4000000 in
theorem spGetC {E : World} {l m : List As}  {b o : Nat} {ps : List (Place × M1)} (hp : Pick (spA b o ps) l m) {p : Place} :
    Con Tryz.prog 53 #[.pointer (some ⟨b, o, none⟩), .agg (encI p).toArray] E l (fun _ : Unit => .tuple #[.agg (encI ((look ps p).getD (0, 0))).toArray, .bool (look ps p).isSome]) (fun _ => spA b o ps :: m) := by
  refine Con.body (vs := [.pointer (some ⟨b, o, none⟩), .agg (encI p).toArray]) (n := 19) Tryz.func53 rfl rfl [(0, .pointer (some ⟨b, o, none⟩)), (1, .agg (encI p).toArray)] (env_ok 2 rfl) <| J_pick hp <| J_spO fun ob _ => sr <| L_op <| x_box rfl rfl rfl fun b3 => L_op <| x_alloc ty56 rfl fun b4 => ?_
  refine ag rfl rfl <| nq <| J_seq <| J_drawL none mixed <| ip 0 rfl rfl rfl rfl (p_move rfl) <| ip 1 rfl rfl rfl rfl (p_nilCheck rfl) <| ip 2 rfl rfl rfl rfl (p_fieldAddr rfl fa77_0) <| iv 3 rfl rfl rfl rfl (fun _ => v_loadL rfl ty75 HS rfl (by exact rfl)) ?_
  refine iv 4 rfl rfl rfl rfl (fun _ => v_loadA rfl ty54 HS CT) ?_
  refine iv 5 rfl rfl rfl rfl (fun _ => v_lookOk (ek := kI) (ev := kI) (a := p) rfl rfl ky54 Tryz.underlying75 zv56 HS) ?_
  refine J_slot (t := 14) (v := .tuple #[kI ((look ps p).getD (0, 0)), .bool (look ps p).isSome]) rfl (by cases look ps p <;> rfl) <| ip 6 rfl rfl rfl rfl (p_move rfl) <| ip 7 rfl rfl rfl rfl (p_extract rfl rfl) <| ip 8 rfl rfl rfl rfl (p_extract rfl rfl) <| i1 9 rfl <| x_alloc ty56 rfl fun b6 => i1 10 rfl <| x_store rfl rfl ty56 rfl SM SM RO PT ?_
  refine ip 11 rfl rfl rfl rfl (p_assign rfl) <| i0 <| qx <| L_val rfl (v_loadA rfl ty56 HS CT) ?_
  refine mv rfl rfl <| L_op <| x_store rfl rfl ty56 rfl SM SM RO PT ?_
  refine ag rfl rfl <| nq <| J_ret <| J_spS (b := b) (o := o) (ps := ps) _ PX trivial ?_
  refine J_return (()) Tryz.results53 (.cellA rfl ty56 HS CT (.tmp rfl .nil)) ?_ ?_
  · rfl
  · exact SU

set_option maxRecDepth 100000 in
set_option maxHeartbeats 4000000 in
theorem coThr {E : World} {l m : List As} {p : Nat} {s : KS} (hp : Pick (coA p s) l m) {u : Int} :
    Con Tryz.prog 30 #[.pointer (some ⟨p, 0, none⟩), .int .i64 u] E l (fun _ : Unit => .tuple #[evT ((look s.th u).getD t0), .bool (look s.th u).isSome]) (fun _ => coA p s :: m) := by
  refine Con.body (vs := [.pointer (some ⟨p, 0, none⟩), .int .i64 u]) (n := 19) Tryz.func30 rfl rfl [(0, .pointer (some ⟨p, 0, none⟩)), (1, .int .i64 u)] (env_ok 2 rfl) <| J_pick hp <| J_coO fun bn be br bg bt bs bp bl bk _ => sr <| L_op <| x_alloc ty121 rfl fun b4 => ag rfl rfl <| nx ?_
  refine mv rfl rfl <| nc rfl rfl <| fa rfl rfl fa92_13 <| L_val rfl (v_loadL (o := 13) (i := 4) rfl ty65 HS rfl (by exact rfl)) ?_
  refine mv rfl rfl <| L_val rfl (v_lookOk (ek := kZ) (ev := evT) (a := u) rfl rfl ky3 Tryz.underlying65 zv121 HS) ?_
  refine J_slot (t := 14) (v := .tuple #[evT ((look s.th u).getD t0), .bool (look s.th u).isSome]) rfl (by cases look s.th u <;> rfl) <| mv rfl rfl <| L_pur rfl (p_extract rfl rfl) <| L_pur rfl (p_extract rfl rfl) <| L_op <| x_alloc ty121 rfl fun b6 => L_op <| x_store rfl rfl ty121 rfl SM SM RO PT ?_
  refine ag rfl rfl <| nx <| L_val rfl (v_loadA rfl ty121 HS CT) ?_
  refine mv rfl rfl <| L_op <| x_store rfl rfl ty121 rfl SM SM RO PT ?_
  refine ag rfl rfl <| nq <| J_ret <| J_coS (p := p) (s := s) bn be br bg bt bs bp bl bk PX trivial ?_
  refine J_return (()) Tryz.results30 (.cellA rfl ty121 HS CT (.tmp rfl .nil)) ?_ ?_
  · rfl
  · exact SU

set_option maxRecDepth 100000 in
set_option maxHeartbeats 4000000 in
theorem coNotif {E : World} {l m : List As} {p : Nat} {s : KS} (hp : Pick (coA p s) l m) {u : Int} :
    Con Tryz.prog 87 #[.pointer (some ⟨p, 0, none⟩), .int .i64 u] E l (fun _ : Unit => ptrOf (look (ptrs s.nt) u)) (fun _ => coA p s :: m) := by
  refine Con.body (vs := [.pointer (some ⟨p, 0, none⟩), .int .i64 u]) (n := 11) Tryz.func87 rfl rfl [(0, .pointer (some ⟨p, 0, none⟩)), (1, .int .i64 u)] (env_ok 2 rfl) <| J_pick hp <| J_coO fun bn be br bg bt bs bp bl bk _ => sr <| ag rfl rfl <| nx <| mv rfl rfl <| nc rfl rfl ?_
  refine fa rfl rfl fa92_9 <| L_val rfl (v_loadL (o := 13) (i := 0) rfl ty61 HS rfl (by exact rfl)) ?_
  refine mv rfl rfl <| L_val rfl (v_look (ek := kZ) (ev := evA) (a := u) rfl rfl ky3 Tryz.underlying61 zv98 HS) ?_
  refine J_slot (t := 10) (v := ptrOf (look (ptrs s.nt) u)) rfl (by cases look (ptrs s.nt) u <;> rfl) <| ag rfl rfl <| nq <| J_ret <| J_coS (p := p) (s := s) bn be br bg bt bs bp bl bk PX trivial ?_
  exact J_return (()) Tryz.results87 (.tmp rfl .nil) rfl SU

set_option maxRecDepth 100000 in
set_option maxHeartbeats 4000000 in
theorem coEp {E : World} {l m : List As} {p : Nat} {s : KS} (hp : Pick (coA p s) l m) {u : Int} :
    Con Tryz.prog 84 #[.pointer (some ⟨p, 0, none⟩), .int .i64 u] E l (fun _ : Unit => ptrOf (look (ptrs s.ep) u)) (fun _ => coA p s :: m) := by
  refine Con.body (vs := [.pointer (some ⟨p, 0, none⟩), .int .i64 u]) (n := 11) Tryz.func84 rfl rfl [(0, .pointer (some ⟨p, 0, none⟩)), (1, .int .i64 u)] (env_ok 2 rfl) <| J_pick hp <| J_coO fun bn be br bg bt bs bp bl bk _ => sr <| ag rfl rfl <| nx <| mv rfl rfl <| nc rfl rfl ?_
  refine fa rfl rfl fa92_10 <| L_val rfl (v_loadL (o := 13) (i := 1) rfl ty62 HS rfl (by exact rfl)) ?_
  refine mv rfl rfl <| L_val rfl (v_look (ek := kZ) (ev := evA) (a := u) rfl rfl ky3 Tryz.underlying62 zv93 HS) ?_
  refine J_slot (t := 10) (v := ptrOf (look (ptrs s.ep) u)) rfl (by cases look (ptrs s.ep) u <;> rfl) <| ag rfl rfl <| nq <| J_ret <| J_coS (p := p) (s := s) bn be br bg bt bs bp bl bk PX trivial ?_
  exact J_return (()) Tryz.results84 (.tmp rfl .nil) rfl SU

set_option maxRecDepth 100000 in
set_option maxHeartbeats 4000000 in
theorem coReply {E : World} {l m : List As} {p : Nat} {s : KS} (hp : Pick (coA p s) l m) {u : Int} :
    Con Tryz.prog 89 #[.pointer (some ⟨p, 0, none⟩), .int .i64 u] E l (fun _ : Unit => ptrOf (look (ptrs s.rp) u)) (fun _ => coA p s :: m) := by
  refine Con.body (vs := [.pointer (some ⟨p, 0, none⟩), .int .i64 u]) (n := 11) Tryz.func89 rfl rfl [(0, .pointer (some ⟨p, 0, none⟩)), (1, .int .i64 u)] (env_ok 2 rfl) <| J_pick hp <| J_coO fun bn be br bg bt bs bp bl bk _ => sr <| ag rfl rfl <| nx <| mv rfl rfl <| nc rfl rfl ?_
  refine fa rfl rfl fa92_11 <| L_val rfl (v_loadL (o := 13) (i := 2) rfl ty63 HS rfl (by exact rfl)) ?_
  refine mv rfl rfl <| L_val rfl (v_look (ek := kZ) (ev := evA) (a := u) rfl rfl ky3 Tryz.underlying63 zv147 HS) ?_
  refine J_slot (t := 10) (v := ptrOf (look (ptrs s.rp) u)) rfl (by cases look (ptrs s.rp) u <;> rfl) <| ag rfl rfl <| nq <| J_ret <| J_coS (p := p) (s := s) bn be br bg bt bs bp bl bk PX trivial ?_
  exact J_return (()) Tryz.results89 (.tmp rfl .nil) rfl SU

set_option maxRecDepth 100000 in
set_option maxHeartbeats 4000000 in
theorem rgUnitsC {E : World} {l m : List As} {b mb : Nat} {r : Rg} (hp : Pick (rgA b mb r) l m) :
    Con Tryz.prog 54 #[.pointer (some ⟨b, 0, none⟩)] E l (fun _ : Unit => .tuple #[.int .i64 r.sq, .int .i64 r.cq]) (fun _ => rgA b mb r :: m) := by
  refine Con.body (vs := [.pointer (some ⟨b, 0, none⟩)]) (n := 12) Tryz.func54 rfl rfl [(0, .pointer (some ⟨b, 0, none⟩))] (env_ok 1 rfl) <| J_pick hp <| J_rgO fun v _ => sr <| ag rfl rfl <| ag rfl rfl <| nq <| J_seq ?_
  refine J_drawS mixed (by kernel_rfl) <| sm rfl rfl <| sp rfl (p_nilCheck rfl) <| sp rfl (p_fieldAddr rfl fa167_1) <| S_val rfl (v_load rfl ty3 HS (by exact rfl)) ?_
  refine sm rfl rfl <| sp rfl (p_nilCheck rfl) <| sp rfl (p_fieldAddr rfl fa167_2) <| S_val rfl (v_load rfl ty3 HS (by exact rfl)) ?_
  refine sp rfl (p_assign rfl) <| sp rfl (p_assign rfl) <| sq <| J_ret <| J_rgS (b := b) (mb := mb) (r := r) _ PX trivial ?_
  refine J_return (()) Tryz.results54 (.tmp rfl (.tmp rfl .nil)) ?_ ?_
  · rfl
  · exact SU

set_option maxRecDepth 100000 in
set_option maxHeartbeats 4000000 in
theorem keys74 {E : World} {bm : Nat} {v : Value} {ps : List (Int × Nat)} :
  Gives Tryz.prog 74 #[.pointer (some ⟨bm, 0, none⟩)] kZ (fun ss => ss.Perm (ps.map Prod.fst)) ps.length E (blk bm 64 [v]) (mapV kZ evA v ps) := by
 intro lp L hy
 show Con Tryz.prog 74 #[.func (.yield lp) #[] #[], .pointer (some ⟨bm, 0, none⟩)] E (blk bm 64 [v] :: mapV kZ evA v ps :: L []) _ _
 refine Con.body (vs := [.func (.yield lp) #[] #[], .pointer (some ⟨bm, 0, none⟩)]) (n := 14) Tryz.func74 rfl rfl [(0, .func (.yield lp) #[] #[]), (1, .pointer (some ⟨bm, 0, none⟩))] (env_ok 2 rfl) <| sr <| L_val rfl (v_load rfl ty64 HS (by exact rfl)) ?_
 refine L_op <| x_range (ek := kZ) (ev := evA) rfl Tryz.underlying64 PC rfl fun r5 => ?_
 refine nq <| J_block <| J_rangeKeyd (ek := kZ) (ev := evA) (ps := ps) HS fun hK => ?_
 refine J_loop (fun done => Come ps done) (fun done => rangeA kZ evA v r5 ps done :: blk bm 64 [v] :: L done) (fun done => [(5, .pointer (some ⟨r5, 0, none⟩)), (0, .func (.yield lp) #[] #[]), (1, .pointer (some ⟨bm, 0, none⟩))]) (fun done => ps.length - done.length) [] Come.nil SU KE ?_
 intro done hC
 refine sr ?_
 refine L_op (x_next (ek := kZ) (ev := evA) rfl PC rfl (fun k6 u6 hm6 hn6 => ?_) (fun hd6 => ?_))
 ·
  refine L_pur rfl (p_extract rfl rfl) <| nq <| J_seq <| C_true rfl <| J_skip <| Q_then <| J_block <| sr ?_
  refine L_val rfl (v_entry (ek := kZ) (ev := evA) rfl HS (by simp) hm6) ?_
  refine L_pur rfl (p_extract rfl rfl) <| ag rfl rfl <| nq <| J_seq <| J_regionIn <| LI_op <| J_pur (p_move rfl) rfl rfl rfl <| LI_op ?_
  refine J_pur (p_move rfl) rfl rfl rfl <| LI_yield rfl rfl rfl ((hy done k6 _ _ (hC.lt hK hm6 hn6))) <| LI_op <| J_pur (p_not rfl) rfl rfl rfl <| LI_nil <| Q_then <| C_false rfl <| J_skip ?_
  refine Q_blk_normal <| Q_then ?_
  exact J_again ((done ++ [k6])) (by have := hC.lt hK hm6 hn6; simp; omega) (hC.step hm6 hn6) SU KE
 ·
  refine L_pur rfl (p_extract rfl rfl) <| nq <| J_seq <| C_false rfl <| J_exit <| Q_then_exit <| Q_then_exit <| Q_blk_this ?_
  refine J_endnormal <| J_rangeEnd <| J_pure_in (p := done.Perm (ps.map Prod.fst)) (hC.perm hK hd6) ?_
  exact J_return (done) Tryz.results74 .nil rfl SU

set_option maxRecDepth 100000 in
set_option maxHeartbeats 4000000 in
theorem mapsKeys49 {E : World} {l : List As} {ob : Option Nat} :
    Con Tryz.prog 49 #[.map ob] E l (fun b : Nat => .func (.func 74) #[] #[.pointer (some ⟨b, 0, none⟩)]) (fun b => blk b 64 [.map ob] :: l) := by
  refine Con.body (vs := [.map ob]) (n := 4) Tryz.func49 rfl rfl [(0, .map ob)] (env_ok 1 rfl) <| sr <| L_op <| x_box rfl rfl rfl fun b1 => ag rfl rfl <| nx <| L_pur rfl (p_makeFunc (.cons rfl .nil)) <| ag rfl rfl ?_
  refine nq <| J_ret ?_
  exact J_return (b1) Tryz.results49 (.tmp rfl .nil) rfl SU

set_option maxRecDepth 100000 in
set_option maxHeartbeats 4000000 in
theorem coRings {E : World} {l m : List As}{p : Nat} {s : KS} (hp : Pick (coA p s) l m) (hb : s.rg.length ≤ 1000) :
    Con Tryz.prog 26 #[.pointer (some ⟨p, 0, none⟩)] E l (fun v : Value => v) (fun v => row 3 1 v ((sortZ (s.rg.map Prod.fst)).map encN) :: coA p s :: m) := by
  refine Con.body (vs := [.pointer (some ⟨p, 0, none⟩)]) (n := 9) Tryz.func26 rfl rfl [(0, .pointer (some ⟨p, 0, none⟩))] (env_ok 1 rfl) <| J_pick hp <| J_coO fun bn be br bg bt bs bp bl bk _ => sr <| ag rfl rfl <| nx <| mv rfl rfl <| nc rfl rfl ?_
  refine fa rfl rfl fa92_12 <| L_val rfl (v_loadL (o := 13) (i := 3) rfl ty64 HS rfl (by exact rfl)) ?_
  refine L_op <| x_call Tryz.func49 nm49 bd49 (.cons rfl .nil) rfl (mapsKeys49) fun b7 => L_op <| x_call Tryz.func48 nm48 bd48 (.cons rfl .nil) rfl (sortedI (ks := (ptrs s.rg).map Prod.fst) (A := blk b7 64 [.map (some bg)]) (B := mapV kZ evA (.map (some bg)) (ptrs s.rg)) Tryz.func74 nm74 bd74 (by simp [ptrs]; omega) (by simpa using keys74) PX) <| JE ((sortZ (s.rg.map Prod.fst)).map encN) (by simp [ptrs, Function.comp_def]) fun a8 c8 hw8 hl8 hm8 hz8 => ag rfl rfl <| nq <| J_ret ?_
  refine J_coS (p := p) (s := s) bn be br bg bt bs bp bl bk PX trivial ?_
  exact J_return (_) Tryz.results26 (.tmp rfl .nil) rfl SU

def Owns (s : KS) (r : Int) (x : Option Th) : Prop := match x with
  | none => ∀ q ∈ s.th, q.2.ring ≠ r
  | some t => ∃ k, look s.th k = some t ∧ t.ring = r

end Go.Pse
