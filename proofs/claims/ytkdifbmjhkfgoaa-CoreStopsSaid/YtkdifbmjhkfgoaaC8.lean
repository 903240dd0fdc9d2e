/-
  The first state: what it holds. Stops and starts of one unit.
-/
import Derived.Test.YtkdifbmjhkfgoaaC7
namespace Go.Pse
open Go.RowKit Go.Proofs

set_option maxRecDepth 100000 in
set_option maxHeartbeats 4000000 in
theorem first23 {E : World} {l : List As} :
  Con Try.prog 4 #[] E l (fun _ : Unit => .bool true) (fun _ => l) := by
 refine Con.body (vs := []) (n := 63) Try.func4 rfl rfl [] (env_ok 0 rfl) <| sr <| ag rfl rfl <| nx <| L_pur rfl (bld27 (.cons rfl (.cons rfl .nil)) (by repeat constructor)) <| J_slot (t := 3) (v := .agg (encG 1 1 0 0 false).toArray) rfl rfl <| L_op <| x_call Try.func5 nm5 bd5 (.cons rfl .nil) rfl (coNew (ct := 1) (cu := 1) (cs := 0) (cc := 0) (sh := false)) fun g => ?_
 have hth : (kNew 1 1 0 0 false g).th = [(2, thOf 1)] := by rfl
 refine ag rfl rfl <| nxx <| mv rfl rfl <| L_pur rfl (p_eqNilPtr Try.underlying24 rfl) <| mv rfl rfl <| J_bool (t := 7) (c := false) rfl (rfl) <| L_op <| G_on rfl rfl rfl ?_
 refine J_pur (p_move rfl) rfl rfl rfl <| L_op <| G_on rfl rfl rfl <| x_call Try.func16 nm16 bd16 (.cons rfl .nil) rfl (coMem PC) fun _ => ?_
 refine L_op <| G_on rfl rfl rfl <| J_pur (p_eqNilPtr Try.underlying40 rfl) rfl rfl rfl <| L_pur rfl (p_pick_f rfl rfl) <| mv rfl rfl <| J_bool (t := 12) (c := false) rfl (rfl) <| L_op <| G_on rfl rfl rfl ?_
 refine J_pur (p_move rfl) rfl rfl rfl <| L_op <| G_on rfl rfl rfl <| x_call Try.func17 nm17 bd17 (.cons rfl .nil) rfl (coSlots) fun _ => L_op <| G_on rfl rfl rfl <| J_pur (p_eqNilPtr Try.underlying42 rfl) rfl rfl rfl <| L_pur rfl (p_pick_f rfl rfl) ?_
 refine mv rfl rfl <| J_bool (t := 17) (c := false) rfl (rfl) <| L_op <| G_on rfl rfl rfl <| J_pur (p_move rfl) rfl rfl rfl <| L_op <| G_on rfl rfl rfl <| x_call Try.func18 nm18 bd18 (.cons rfl .nil) rfl (coMaps) fun _ => ?_
 refine L_op <| G_on rfl rfl rfl <| J_pur (p_eqNilPtr Try.underlying44 rfl) rfl rfl rfl <| L_pur rfl (p_pick_f rfl rfl) <| mv rfl rfl <| J_bool (t := 22) (c := false) rfl (rfl) <| L_op <| G_on rfl rfl rfl ?_
 refine J_pur (p_move rfl) rfl rfl rfl <| L_op <| G_on rfl rfl rfl <| x_call Try.func6 nm6 bd6 (.cons rfl .nil) rfl (coQueue) fun _ => L_op <| G_on rfl rfl rfl <| J_pur (p_eqNilPtr Try.underlying28 rfl) rfl rfl rfl <| L_pur rfl (p_pick_f rfl rfl) ?_
 refine mv rfl rfl <| J_bool (t := 27) (c := false) rfl (rfl) <| L_op <| G_on rfl rfl rfl <| J_pur (p_move rfl) rfl rfl rfl <| L_op <| G_on rfl rfl rfl <| x_call Try.func19 nm19 bd19 (.cons rfl .nil) rfl (coReqs) fun _ => ?_
 refine L_op <| G_on rfl rfl rfl <| J_pur (p_eqNilPtr Try.underlying46 rfl) rfl rfl rfl <| L_pur rfl (p_pick_f rfl rfl) <| mv rfl rfl <| J_bool (t := 32) (c := false) rfl (rfl) <| L_op <| G_on rfl rfl rfl ?_
 refine J_pur (p_move rfl) rfl rfl rfl <| L_op <| G_on rfl rfl rfl <| x_call Try.func20 nm20 bd20 (.cons rfl .nil) rfl (coTimers) fun _ => L_op <| G_on rfl rfl rfl <| J_pur (p_eqNilPtr Try.underlying48 rfl) rfl rfl rfl <| L_pur rfl (p_pick_f rfl rfl) ?_
 refine mv rfl rfl <| J_bool (t := 37) (c := false) rfl (rfl) <| L_op <| G_on rfl rfl rfl <| J_pur (p_move rfl) rfl rfl rfl <| L_op <| G_on rfl rfl rfl <| x_call Try.func21 nm21 bd21 (.cons rfl .nil) rfl (coJournal) fun _ => ?_
 refine L_op <| G_on rfl rfl rfl <| J_pur (p_eqNilPtr Try.underlying50 rfl) rfl rfl rfl <| L_pur rfl (p_pick_f rfl rfl) <| mv rfl rfl <| J_bool (t := 42) (c := false) rfl (rfl) <| L_op <| G_on rfl rfl rfl ?_
 refine J_pur (p_move rfl) rfl rfl rfl <| L_op <| G_on rfl rfl rfl <| x_call Try.func22 nm22 bd22 (.cons rfl .nil) rfl (coMarks) fun _ => L_op <| G_on rfl rfl rfl <| J_pur (p_eqNilPtr Try.underlying52 rfl) rfl rfl rfl <| L_pur rfl (p_pick_f rfl rfl) ?_
 refine nq <| J_bool (t := 46) (c := false) rfl (rfl) <| C_false rfl <| J_skip <| qx <| mv rfl rfl <| L_op <| x_call Try.func23 nm23 bd23 (.cons rfl .nil) rfl (coThreads PC (by rw [hth]; decide)) ?_
 refine JE ([[.int .i64 2]]) (by rw [hth]; simp [sortZ, encN]) fun a48 c48 hw48 hl48 hm48 hz48 => ?_
 obtain ⟨b48, o48, rfl⟩ := hz48 (by simp)
 have hml : [[Value.int .i64 2]].length = 1 := rfl
 refine ag rfl rfl <| nx <| mv rfl rfl <| L_pur rfl (p_len rfl Try.underlying22) <| L_pur rfl (p_eql rfl rfl) <| mv rfl rfl <| J_bool (t := 52) (c := true) rfl (rfl) <| L_op <| G_on rfl rfl rfl ?_
 refine J_pur (p_move rfl) rfl rfl rfl <| L_op <| G_on rfl rfl rfl <| J_pur (p_indexAddr rfl rfl Try.underlying22 ty3 (by omega) (by omega)) rfl rfl rfl <| L_op <| G_on rfl rfl rfl <| J_val (v_loadE1 rfl ty3 HS (by rfl)) rfl rfl rfl ?_
 refine L_op <| G_on rfl rfl rfl <| J_pur (p_eql rfl rfl) rfl rfl rfl <| L_pur rfl (p_pick_t rfl rfl) <| mv rfl rfl <| J_bool (t := 58) (c := true) rfl (rfl) <| L_op <| G_on rfl rfl rfl ?_
 refine J_pur (p_move rfl) rfl rfl rfl <| L_op <| G_on rfl rfl rfl <| x_call Try.func24 nm24 bd24 (.cons rfl (.cons rfl .nil)) rfl (coRing PC) fun _ => ?_
 refine J_slot (t := 60) (v := ptrOf (look (ptrs (kNew 1 1 0 0 false g).rg) 4)) rfl rfl <| L_op <| G_on rfl rfl rfl <| J_pur (p_neNilPtr Try.underlying55 rfl) rfl rfl rfl <| L_pur rfl (p_pick_t rfl rfl) <| ag rfl rfl <| nq <| J_ret ?_
 exact J_return (()) Try.results4 (.tmp rfl .nil) rfl SU

def kAt (s : KS) (P now nx : Int) : KS := { s with q := [(10, 4), (18, 4), (2, P)], pr := [(2, P)], now := now, tk := [(4, nx - 1), (12, 0), (20, 0)] }
def kB (s : KS) (P : Int) : KS := { s with q := [(10, 4), (18, 4)], pr := [(2, P)] }
def q0 : List (Int × Int) := [(2, 4), (10, 4), (18, 4)]
theorem q_steps : ∀ P : Nat, P < 8 → okPrio P = true ∧ qSetOk q0 2 P = true ∧ qHas (qSet q0 2 P) 2 = true ∧ qGet (qSet q0 2 P) 2 = some (P : Int) ∧ qRem (qSet q0 2 P) 2 = [(10, 4), (18, 4)] ∧ (qSet q0 2 P).length = 3 := by decide +kernel
section
variable {s : KS} {P : Nat} (hP : P < 8) (hq : s.q = q0) (h2 : (look s.th 2).isSome = true) (hpr : s.pr = [])
include hP hq h2 hpr in
theorem st_a : kStopOk { s with q := qSet s.q 2 P } 2 = true ∧ kStop { s with q := qSet s.q 2 P } 2 = kB s P := by
  obtain ⟨g0, g1, g2, g3, g4, g5⟩ := q_steps P hP
  have h : kStopOk { s with q := qSet s.q 2 P } 2 = true := by unfold kStopOk; dsimp only; rw [h2, hq, g2]; rfl
  refine ⟨h, ?_⟩
  unfold kStop; rw [h]; dsimp only; rw [hq, g3, g4, hpr]; rfl
include h2 in
theorem st_b : kStopOk (kB s P) 2 = false ∧ kStop (kB s P) 2 = kB s P := by
  have h : kStopOk (kB s P) 2 = false := by unfold kStopOk kB; dsimp only; rw [h2]; rfl
  exact ⟨h, by unfold kStop; rw [h]; rfl⟩
theorem st_c : kGoOk (kB s P) 10 = false ∧ kGo (kB s P) 10 = kB s P := by
  have h : qAddOk (kB s P).q 10 (kPrio (kB s P) 10) = false := by rfl
  constructor
  · unfold kGoOk; rw [h, Bool.and_false]
  · unfold kGo qAdd; rw [h]; split <;> rfl
include hP h2 in
theorem st_d : kGoOk (kB s P) 2 = true ∧ kGo (kB s P) 2 = { kB s P with q := [(10, 4), (18, 4), (2, (P : Int))] } := by
  have h : qAddOk (kB s P).q 2 (kPrio (kB s P) 2) = true := by
    show (!qHas [(10, 4), (18, 4)] 2 && okPrio (P : Int)) = true
    rw [(q_steps P hP).1]; rfl
  have ht : (look (kB s P).th 2).isSome = true := h2
  constructor
  · unfold kGoOk; rw [h, ht]; rfl
  · unfold kGo qAdd; rw [h, ht]; rfl
theorem st_e : kGoOk { kB s P with q := [(10, 4), (18, 4), (2, (P : Int))] } 2 = false ∧ kGo { kB s P with q := [(10, 4), (18, 4), (2, (P : Int))] } 2 = { kB s P with q := [(10, 4), (18, 4), (2, (P : Int))] } := by
  have h : qAddOk [(10, 4), (18, 4), (2, (P : Int))] 2 (kPrio { kB s P with q := [(10, 4), (18, 4), (2, (P : Int))] } 2) = false := by rfl
  constructor
  · unfold kGoOk; dsimp only; rw [h, Bool.and_false]
  · unfold kGo qAdd; dsimp only; rw [h]; split <;> rfl
end
end Go.Pse
