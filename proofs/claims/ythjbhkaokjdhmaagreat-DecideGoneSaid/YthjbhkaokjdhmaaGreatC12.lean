/-
  Readers of the state.
-/
import Derived.Test.YthjbhkaokjdhmaaGreatC11
namespace Go.Pse
open Go.RowKit Go.Proofs



set_option maxRecDepth 100000 in
set_option maxHeartbeats 4000000 in
theorem coBell {E : World} {l m : List As} {p : Nat} {s : KS} (hp : Pick (coA p s) l m) {u : Int} :
    Con Tryz.prog 67 #[.pointer (some ⟨p, 0, none⟩), .int .i64 u] E l (fun _ : Unit => .tuple #[.int .i64 ((look s.be u).getD (0, 0)).1, .int .u32 ((look s.be u).getD (0, 0)).2]) (fun _ => coA p s :: m) := by
  refine Con.body (vs := [.pointer (some ⟨p, 0, none⟩), .int .i64 u]) (n := 17) Tryz.func67 rfl rfl [(0, .pointer (some ⟨p, 0, none⟩)), (1, .int .i64 u)] (env_ok 2 rfl) <| J_pick hp <| J_coO fun bn be br bg bt bs bp bl bk _ => sr <| ag rfl rfl <| ag rfl rfl <| nx <| mv rfl rfl ?_
  refine nc rfl rfl <| fa rfl rfl fa117_16 <| L_val rfl (v_loadL (o := 13) (i := 7) rfl ty95 HS rfl (by exact rfl)) ?_
  refine mv rfl rfl <| L_val rfl (v_look (ek := kZ) (ev := evL) (a := u) rfl rfl ky3 Tryz.underlying95 zv163 HS) ?_
  refine J_slot (t := 12) (v := evL ((look s.be u).getD (0, 0))) rfl (by cases look s.be u <;> rfl) <| L_op <| x_alloc ty163 rfl fun b6 => L_op <| x_store rfl rfl ty163 rfl SM SM RO PT ?_
  refine nq <| J_seq <| J_drawS mixed (by kernel_rfl) <| sp rfl (p_fieldAddr rfl fa163_0) <| S_val rfl (v_load rfl ty3 HS (by exact rfl)) ?_
  refine sp rfl (p_fieldAddr rfl fa163_1) <| S_val rfl (v_load rfl ty37 HS (by exact rfl)) ?_
  refine sp rfl (p_assign rfl) <| sp rfl (p_assign rfl) <| sq <| J_ret <| J_coS (p := p) (s := s) bn be br bg bt bs bp bl bk PX trivial ?_
  refine J_return (()) Tryz.results67 (.tmp rfl (.tmp rfl .nil)) ?_ ?_
  · rfl
  · exact SU

set_option maxRecDepth 100000 in
set_option maxHeartbeats 4000000 in
theorem coNotif {E : World} {l m : List As} {p : Nat} {s : KS} (hp : Pick (coA p s) l m) {u : Int} :
    Con Tryz.prog 19 #[.pointer (some ⟨p, 0, none⟩), .int .i64 u] E l (fun _ : Unit => ptrOf (look (ptrs s.nt) u)) (fun _ => coA p s :: m) := by
  refine Con.body (vs := [.pointer (some ⟨p, 0, none⟩), .int .i64 u]) (n := 11) Tryz.func19 rfl rfl [(0, .pointer (some ⟨p, 0, none⟩)), (1, .int .i64 u)] (env_ok 2 rfl) <| J_pick hp <| J_coO fun bn be br bg bt bs bp bl bk _ => sr <| ag rfl rfl <| nx <| mv rfl rfl <| nc rfl rfl ?_
  refine fa rfl rfl fa117_9 <| L_val rfl (v_loadL (o := 13) (i := 0) rfl ty88 HS rfl (by exact rfl)) ?_
  refine mv rfl rfl <| L_val rfl (v_look (ek := kZ) (ev := evA) (a := u) rfl rfl ky3 Tryz.underlying88 zv54 HS) ?_
  refine J_slot (t := 10) (v := ptrOf (look (ptrs s.nt) u)) rfl (by cases look (ptrs s.nt) u <;> rfl) <| ag rfl rfl <| nq <| J_ret <| J_coS (p := p) (s := s) bn be br bg bt bs bp bl bk PX trivial ?_
  exact J_return (()) Tryz.results19 (.tmp rfl .nil) rfl SU

set_option maxRecDepth 100000 in
set_option maxHeartbeats 4000000 in
theorem coEp {E : World} {l m : List As} {p : Nat} {s : KS} (hp : Pick (coA p s) l m) {u : Int} :
    Con Tryz.prog 28 #[.pointer (some ⟨p, 0, none⟩), .int .i64 u] E l (fun _ : Unit => ptrOf (look (ptrs s.ep) u)) (fun _ => coA p s :: m) := by
  refine Con.body (vs := [.pointer (some ⟨p, 0, none⟩), .int .i64 u]) (n := 11) Tryz.func28 rfl rfl [(0, .pointer (some ⟨p, 0, none⟩)), (1, .int .i64 u)] (env_ok 2 rfl) <| J_pick hp <| J_coO fun bn be br bg bt bs bp bl bk _ => sr <| ag rfl rfl <| nx <| mv rfl rfl <| nc rfl rfl ?_
  refine fa rfl rfl fa117_10 <| L_val rfl (v_loadL (o := 13) (i := 1) rfl ty89 HS rfl (by exact rfl)) ?_
  refine mv rfl rfl <| L_val rfl (v_look (ek := kZ) (ev := evA) (a := u) rfl rfl ky3 Tryz.underlying89 zv73 HS) ?_
  refine J_slot (t := 10) (v := ptrOf (look (ptrs s.ep) u)) rfl (by cases look (ptrs s.ep) u <;> rfl) <| ag rfl rfl <| nq <| J_ret <| J_coS (p := p) (s := s) bn be br bg bt bs bp bl bk PX trivial ?_
  exact J_return (()) Tryz.results28 (.tmp rfl .nil) rfl SU

set_option maxRecDepth 100000 in
set_option maxHeartbeats 4000000 in
theorem coReply {E : World} {l m : List As} {p : Nat} {s : KS} (hp : Pick (coA p s) l m) {u : Int} :
    Con Tryz.prog 27 #[.pointer (some ⟨p, 0, none⟩), .int .i64 u] E l (fun _ : Unit => ptrOf (look (ptrs s.rp) u)) (fun _ => coA p s :: m) := by
  refine Con.body (vs := [.pointer (some ⟨p, 0, none⟩), .int .i64 u]) (n := 11) Tryz.func27 rfl rfl [(0, .pointer (some ⟨p, 0, none⟩)), (1, .int .i64 u)] (env_ok 2 rfl) <| J_pick hp <| J_coO fun bn be br bg bt bs bp bl bk _ => sr <| ag rfl rfl <| nx <| mv rfl rfl <| nc rfl rfl ?_
  refine fa rfl rfl fa117_11 <| L_val rfl (v_loadL (o := 13) (i := 2) rfl ty90 HS rfl (by exact rfl)) ?_
  refine mv rfl rfl <| L_val rfl (v_look (ek := kZ) (ev := evA) (a := u) rfl rfl ky3 Tryz.underlying90 zv68 HS) ?_
  refine J_slot (t := 10) (v := ptrOf (look (ptrs s.rp) u)) rfl (by cases look (ptrs s.rp) u <;> rfl) <| ag rfl rfl <| nq <| J_ret <| J_coS (p := p) (s := s) bn be br bg bt bs bp bl bk PX trivial ?_
  exact J_return (()) Tryz.results27 (.tmp rfl .nil) rfl SU

set_option maxRecDepth 100000 in
set_option maxHeartbeats 4000000 in
theorem rgUnitsC {E : World} {l m : List As} {b mb : Nat} {r : Rg} (hp : Pick (rgA b mb r) l m) :
    Con Tryz.prog 84 #[.pointer (some ⟨b, 0, none⟩)] E l (fun _ : Unit => .tuple #[.int .i64 r.sq, .int .i64 r.cq]) (fun _ => rgA b mb r :: m) := by
  refine Con.body (vs := [.pointer (some ⟨b, 0, none⟩)]) (n := 12) Tryz.func84 rfl rfl [(0, .pointer (some ⟨b, 0, none⟩))] (env_ok 1 rfl) <| J_pick hp <| J_rgO fun v _ => sr <| ag rfl rfl <| ag rfl rfl <| nq <| J_seq ?_
  refine J_drawS mixed (by kernel_rfl) <| sm rfl rfl <| sp rfl (p_nilCheck rfl) <| sp rfl (p_fieldAddr rfl fa138_1) <| S_val rfl (v_load rfl ty3 HS (by exact rfl)) ?_
  refine sm rfl rfl <| sp rfl (p_nilCheck rfl) <| sp rfl (p_fieldAddr rfl fa138_2) <| S_val rfl (v_load rfl ty3 HS (by exact rfl)) ?_
  refine sp rfl (p_assign rfl) <| sp rfl (p_assign rfl) <| sq <| J_ret <| J_rgS (b := b) (mb := mb) (r := r) _ PX trivial ?_
  refine J_return (()) Tryz.results84 (.tmp rfl (.tmp rfl .nil)) ?_ ?_
  · rfl
  · exact SU

set_option maxRecDepth 100000 in
set_option maxHeartbeats 4000000 in
theorem keys143 {E : World} {bm : Nat} {v : Value} {ps : List (Int × Nat)} :
  Gives Tryz.prog 143 #[.pointer (some ⟨bm, 0, none⟩)] kZ (fun ss => ss.Perm (ps.map Prod.fst)) ps.length E (blk bm 91 [v]) (mapV kZ evA v ps) := by
 intro lp L hy
 show Con Tryz.prog 143 #[.func (.yield lp) #[] #[], .pointer (some ⟨bm, 0, none⟩)] E (blk bm 91 [v] :: mapV kZ evA v ps :: L []) _ _
 refine Con.body (vs := [.func (.yield lp) #[] #[], .pointer (some ⟨bm, 0, none⟩)]) (n := 14) Tryz.func143 rfl rfl [(0, .func (.yield lp) #[] #[]), (1, .pointer (some ⟨bm, 0, none⟩))] (env_ok 2 rfl) <| sr <| L_val rfl (v_load rfl ty91 HS (by exact rfl)) ?_
 refine L_op <| x_range (ek := kZ) (ev := evA) rfl Tryz.underlying91 PC rfl fun r5 => ?_
 refine nq <| J_block <| J_rangeKeyd (ek := kZ) (ev := evA) (ps := ps) HS fun hK => ?_
 refine J_loop (fun done => Come ps done) (fun done => rangeA kZ evA v r5 ps done :: blk bm 91 [v] :: L done) (fun done => [(5, .pointer (some ⟨r5, 0, none⟩)), (0, .func (.yield lp) #[] #[]), (1, .pointer (some ⟨bm, 0, none⟩))]) (fun done => ps.length - done.length) [] Come.nil SU KE ?_
 intro done hC
 refine sr ?_
 refine L_op (x_next (ek := kZ) (ev := evA) rfl PC rfl (fun k6 u6 hm6 hn6 => ?_) (fun hd6 => ?_))
 ·
  refine L_pur rfl (p_extract rfl rfl) <| nq <| J_seq <| C_true rfl <| J_skip <| Q_then <| J_block <| sr ?_
  refine L_val rfl (v_entry (ek := kZ) (ev := evA) rfl HS (by simp) hm6) ?_
  refine L_pur rfl (p_extract rfl rfl) <| ag rfl rfl <| nq <| J_seq <| J_regionIn <| LI_op <| J_pur (p_move rfl) rfl rfl rfl <| LI_op ?_
  refine J_pur (p_move rfl) rfl rfl rfl <| LI_yield rfl rfl rfl ((hy done k6 _ _ (hC.lt hK hm6 hn6))) <| LI_op <| J_pur (p_not rfl) rfl rfl rfl <| LI_nil <| Q_then <| C_false rfl <| J_skip ?_
  refine Q_blk_normal <| Q_then ?_
  exact J_again ((done ++ [k6])) (by have := hC.lt hK hm6 hn6; simp; omega) (hC.step hm6 hn6) SU KE
 ·
  refine L_pur rfl (p_extract rfl rfl) <| nq <| J_seq <| C_false rfl <| J_exit <| Q_then_exit <| Q_then_exit <| Q_blk_this ?_
  refine J_endnormal <| J_rangeEnd <| J_pure_in (p := done.Perm (ps.map Prod.fst)) (hC.perm hK hd6) ?_
  exact J_return (done) Tryz.results143 .nil rfl SU

set_option maxRecDepth 100000 in
set_option maxHeartbeats 4000000 in
theorem mapsKeys119 {E : World} {l : List As} {ob : Option Nat} :
    Con Tryz.prog 119 #[.map ob] E l (fun b : Nat => .func (.func 143) #[] #[.pointer (some ⟨b, 0, none⟩)]) (fun b => blk b 91 [.map ob] :: l) := by
  refine Con.body (vs := [.map ob]) (n := 4) Tryz.func119 rfl rfl [(0, .map ob)] (env_ok 1 rfl) <| sr <| L_op <| x_box rfl rfl rfl fun b1 => ag rfl rfl <| nx <| L_pur rfl (p_makeFunc (.cons rfl .nil)) <| ag rfl rfl ?_
  refine nq <| J_ret ?_
  exact J_return (b1) Tryz.results119 (.tmp rfl .nil) rfl SU

set_option maxRecDepth 100000 in
set_option maxHeartbeats 4000000 in
theorem coRings {E : World} {l m : List As}{p : Nat} {s : KS} (hp : Pick (coA p s) l m) (hb : s.rg.length ≤ 1000) :
    Con Tryz.prog 83 #[.pointer (some ⟨p, 0, none⟩)] E l (fun v : Value => v) (fun v => row 3 1 v ((sortZ (s.rg.map Prod.fst)).map encN) :: coA p s :: m) := by
  refine Con.body (vs := [.pointer (some ⟨p, 0, none⟩)]) (n := 9) Tryz.func83 rfl rfl [(0, .pointer (some ⟨p, 0, none⟩))] (env_ok 1 rfl) <| J_pick hp <| J_coO fun bn be br bg bt bs bp bl bk _ => sr <| ag rfl rfl <| nx <| mv rfl rfl <| nc rfl rfl ?_
  refine fa rfl rfl fa117_12 <| L_val rfl (v_loadL (o := 13) (i := 3) rfl ty91 HS rfl (by exact rfl)) ?_
  refine L_op <| x_call Tryz.func119 nm119 bd119 (.cons rfl .nil) rfl (mapsKeys119) fun b7 => L_op <| x_call Tryz.func118 nm118 bd118 (.cons rfl .nil) rfl (sortedI (ks := (ptrs s.rg).map Prod.fst) (A := blk b7 91 [.map (some bg)]) (B := mapV kZ evA (.map (some bg)) (ptrs s.rg)) Tryz.func143 nm143 bd143 (by simp [ptrs]; omega) (by simpa using keys143) PX) <| JE ((sortZ (s.rg.map Prod.fst)).map encN) (by simp [ptrs, Function.comp_def]) fun a8 c8 hw8 hl8 hm8 hz8 => ag rfl rfl <| nq <| J_ret ?_
  refine J_coS (p := p) (s := s) bn be br bg bt bs bp bl bk PX trivial ?_
  exact J_return (_) Tryz.results83 (.tmp rfl .nil) rfl SU

def Owns (s : KS) (r : Int) (x : Option Th) : Prop := match x with
  | none => ∀ q ∈ s.th, q.2.ring ≠ r
  | some t => ∃ k, look s.th k = some t ∧ t.ring = r

end Go.Pse
