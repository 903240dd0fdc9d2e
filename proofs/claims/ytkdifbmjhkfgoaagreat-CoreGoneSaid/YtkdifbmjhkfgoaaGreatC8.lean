/-
  The first state: what it holds.
-/
import Derived.Test.YtkdifbmjhkfgoaaGreatC7
namespace Go.Pse
open Go.RowKit Go.Proofs

set_option maxRecDepth 100000 in
set_option maxHeartbeats 4000000 in
theorem first23 {E : World} {l : List As} :
  Con Tryz.prog 6 #[] E l (fun _ : Unit => .bool true) (fun _ => l) := by
 refine Con.body (vs := []) (n := 63) Tryz.func6 rfl rfl [] (env_ok 0 rfl) <| sr <| ag rfl rfl <| nx <| L_pur rfl (bld25 (.cons rfl (.cons rfl .nil)) (by repeat constructor)) <| J_slot (t := 3) (v := .agg (encG 1 1 0 0 false).toArray) rfl rfl <| L_op <| x_call Tryz.func8 nm8 bd8 (.cons rfl .nil) rfl (coNew (ct := 1) (cu := 1) (cs := 0) (cc := 0) (sh := false)) fun g => ?_
 have hth : (kNew 1 1 0 0 false g).th = [(2, thOf 1)] := by rfl
 refine ag rfl rfl <| nxx <| mv rfl rfl <| L_pur rfl (p_eqNilPtr Tryz.underlying30 rfl) <| mv rfl rfl <| J_bool (t := 7) (c := false) rfl (rfl) <| L_op <| G_on rfl rfl rfl ?_
 refine J_pur (p_move rfl) rfl rfl rfl <| L_op <| G_on rfl rfl rfl <| x_call Tryz.func47 nm47 bd47 (.cons rfl .nil) rfl (coMem PC) fun _ => ?_
 refine L_op <| G_on rfl rfl rfl <| J_pur (p_eqNilPtr Tryz.underlying120 rfl) rfl rfl rfl <| L_pur rfl (p_pick_f rfl rfl) <| mv rfl rfl <| J_bool (t := 12) (c := false) rfl (rfl) <| L_op <| G_on rfl rfl rfl ?_
 refine J_pur (p_move rfl) rfl rfl rfl <| L_op <| G_on rfl rfl rfl <| x_call Tryz.func9 nm9 bd9 (.cons rfl .nil) rfl (coSlots) fun _ => L_op <| G_on rfl rfl rfl <| J_pur (p_eqNilPtr Tryz.underlying33 rfl) rfl rfl rfl <| L_pur rfl (p_pick_f rfl rfl) ?_
 refine mv rfl rfl <| J_bool (t := 17) (c := false) rfl (rfl) <| L_op <| G_on rfl rfl rfl <| J_pur (p_move rfl) rfl rfl rfl <| L_op <| G_on rfl rfl rfl <| x_call Tryz.func21 nm21 bd21 (.cons rfl .nil) rfl (coMaps) fun _ => ?_
 refine L_op <| G_on rfl rfl rfl <| J_pur (p_eqNilPtr Tryz.underlying59 rfl) rfl rfl rfl <| L_pur rfl (p_pick_f rfl rfl) <| mv rfl rfl <| J_bool (t := 22) (c := false) rfl (rfl) <| L_op <| G_on rfl rfl rfl ?_
 refine J_pur (p_move rfl) rfl rfl rfl <| L_op <| G_on rfl rfl rfl <| x_call Tryz.func13 nm13 bd13 (.cons rfl .nil) rfl (coQueue) fun _ => L_op <| G_on rfl rfl rfl <| J_pur (p_eqNilPtr Tryz.underlying37 rfl) rfl rfl rfl <| L_pur rfl (p_pick_f rfl rfl) ?_
 refine mv rfl rfl <| J_bool (t := 27) (c := false) rfl (rfl) <| L_op <| G_on rfl rfl rfl <| J_pur (p_move rfl) rfl rfl rfl <| L_op <| G_on rfl rfl rfl <| x_call Tryz.func48 nm48 bd48 (.cons rfl .nil) rfl (coReqs) fun _ => ?_
 refine L_op <| G_on rfl rfl rfl <| J_pur (p_eqNilPtr Tryz.underlying122 rfl) rfl rfl rfl <| L_pur rfl (p_pick_f rfl rfl) <| mv rfl rfl <| J_bool (t := 32) (c := false) rfl (rfl) <| L_op <| G_on rfl rfl rfl ?_
 refine J_pur (p_move rfl) rfl rfl rfl <| L_op <| G_on rfl rfl rfl <| x_call Tryz.func49 nm49 bd49 (.cons rfl .nil) rfl (coTimers) fun _ => L_op <| G_on rfl rfl rfl <| J_pur (p_eqNilPtr Tryz.underlying124 rfl) rfl rfl rfl <| L_pur rfl (p_pick_f rfl rfl) ?_
 refine mv rfl rfl <| J_bool (t := 37) (c := false) rfl (rfl) <| L_op <| G_on rfl rfl rfl <| J_pur (p_move rfl) rfl rfl rfl <| L_op <| G_on rfl rfl rfl <| x_call Tryz.func50 nm50 bd50 (.cons rfl .nil) rfl (coJournal) fun _ => ?_
 refine L_op <| G_on rfl rfl rfl <| J_pur (p_eqNilPtr Tryz.underlying126 rfl) rfl rfl rfl <| L_pur rfl (p_pick_f rfl rfl) <| mv rfl rfl <| J_bool (t := 42) (c := false) rfl (rfl) <| L_op <| G_on rfl rfl rfl ?_
 refine J_pur (p_move rfl) rfl rfl rfl <| L_op <| G_on rfl rfl rfl <| x_call Tryz.func51 nm51 bd51 (.cons rfl .nil) rfl (coMarks) fun _ => L_op <| G_on rfl rfl rfl <| J_pur (p_eqNilPtr Tryz.underlying128 rfl) rfl rfl rfl <| L_pur rfl (p_pick_f rfl rfl) ?_
 refine nq <| J_bool (t := 46) (c := false) rfl (rfl) <| C_false rfl <| J_skip <| qx <| mv rfl rfl <| L_op <| x_call Tryz.func11 nm11 bd11 (.cons rfl .nil) rfl (coThreads PC (by rw [hth]; decide)) ?_
 refine JE ([[.int .i64 2]]) (by rw [hth]; simp [sortZ, encN]) fun a48 c48 hw48 hl48 hm48 hz48 => ?_
 obtain ⟨b48, o48, rfl⟩ := hz48 (by simp)
 have hml : [[Value.int .i64 2]].length = 1 := rfl
 refine ag rfl rfl <| nx <| mv rfl rfl <| L_pur rfl (p_len rfl Tryz.underlying22) <| L_pur rfl (p_eql rfl rfl) <| mv rfl rfl <| J_bool (t := 52) (c := true) rfl (rfl) <| L_op <| G_on rfl rfl rfl ?_
 refine J_pur (p_move rfl) rfl rfl rfl <| L_op <| G_on rfl rfl rfl <| J_pur (p_indexAddr rfl rfl Tryz.underlying22 ty3 (by omega) (by omega)) rfl rfl rfl <| L_op <| G_on rfl rfl rfl <| J_val (v_loadE1 rfl ty3 HS (by rfl)) rfl rfl rfl ?_
 refine L_op <| G_on rfl rfl rfl <| J_pur (p_eql rfl rfl) rfl rfl rfl <| L_pur rfl (p_pick_t rfl rfl) <| mv rfl rfl <| J_bool (t := 58) (c := true) rfl (rfl) <| L_op <| G_on rfl rfl rfl ?_
 refine J_pur (p_move rfl) rfl rfl rfl <| L_op <| G_on rfl rfl rfl <| x_call Tryz.func19 nm19 bd19 (.cons rfl (.cons rfl .nil)) rfl (coRing PC) fun _ => ?_
 refine J_slot (t := 60) (v := ptrOf (look (ptrs (kNew 1 1 0 0 false g).rg) 4)) rfl rfl <| L_op <| G_on rfl rfl rfl <| J_pur (p_neNilPtr Tryz.underlying52 rfl) rfl rfl rfl <| L_pur rfl (p_pick_t rfl rfl) <| ag rfl rfl <| nq <| J_ret ?_
 exact J_return (()) Tryz.results6 (.tmp rfl .nil) rfl SU

end Go.Pse
