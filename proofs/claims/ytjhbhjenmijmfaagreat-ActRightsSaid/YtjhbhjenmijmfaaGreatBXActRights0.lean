/-
  Own texts, merged: C84a, C84.
-/
import Derived.Test.YtjhbhjenmijmfaaGreatBC4
set_option linter.unusedVariables false
set_option linter.unusedSimpArgs false
namespace Go.Pse
open Go.RowKit Go.Proofs

def opR (k : Nat) : Int := if k = 0 then 10 else if k = 1 then 11 else if k = 2 then 12 else if k = 3 then 14 else if k = 4 then 15 else 8
def frR (k : Nat) : Nat := if k ≤ 2 then 9 else if k ≤ 4 then 10 else 5
def ndR (k : Nat) : Int := if k = 0 then 2 else if k = 1 then 1 else if k = 2 then 6 else if k = 3 then 2 else if k = 4 then 1 else 3
def andR (k rt : Nat) : Int := bits .and .i64 (rt : Int) (ndR k)
abbrev eCp (k rt : Nat) : Sqe := ⟨2, 0, 0, atK (frR k), atK 13, (rt : Int), 0, 0⟩
abbrev eDo (k : Nat) : Sqe := ⟨opR k, 0, 0, atK 13, if k = 5 then 5 else 0, if k = 5 then 3 else 0, 0, 0⟩
theorem frR_lt (k : Nat) : frR k < 16 := by unfold frR; (repeat' split) <;> omega
theorem ops_at {k : Nat} (hk : k < 6) : ([[.int .i64 10], [.int .i64 11], [.int .i64 12], [.int .i64 14], [.int .i64 15], [.int .i64 8]] : List (List Value))[k]? = some [.int .i64 (opR k)] := by
  rcases (show k = 0 ∨ k = 1 ∨ k = 2 ∨ k = 3 ∨ k = 4 ∨ k = 5 by omega) with rfl | rfl | rfl | rfl | rfl | rfl <;> rfl
theorem frs_at {k : Nat} (hk : k < 6) : ([[.int .u32 (atK 9)], [.int .u32 (atK 9)], [.int .u32 (atK 9)], [.int .u32 (atK 10)], [.int .u32 (atK 10)], [.int .u32 (atK 5)]] : List (List Value))[k]? = some [.int .u32 (atK (frR k))] := by
  rcases (show k = 0 ∨ k = 1 ∨ k = 2 ∨ k = 3 ∨ k = 4 ∨ k = 5 by omega) with rfl | rfl | rfl | rfl | rfl | rfl <;> rfl
theorem nds_at {k : Nat} (hk : k < 6) : ([[.int .i64 2], [.int .i64 1], [.int .i64 6], [.int .i64 2], [.int .i64 1], [.int .i64 3]] : List (List Value))[k]? = some [.int .i64 (ndR k)] := by
  rcases (show k = 0 ∨ k = 1 ∨ k = 2 ∨ k = 3 ∨ k = 4 ∨ k = 5 by omega) with rfl | rfl | rfl | rfl | rfl | rfl <;> rfl
theorem eDo_ok {k : Nat} (hk : k < 6) : SqeOk (eDo k) := by
  rcases (show k = 0 ∨ k = 1 ∨ k = 2 ∨ k = 3 ∨ k = 4 ∨ k = 5 by omega) with rfl | rfl | rfl | rfl | rfl | rfl <;> (refine ⟨?_, ?_, ?_, ?_⟩ <;> exact ⟨by decide, by decide⟩)
theorem eDo_no {k : Nat} (h : ¬ k = 5) : eDo k = ⟨opR k, 0, 0, atK 13, 0, 0, 0, 0⟩ := by unfold eDo; rw [if_neg h, if_neg h]
theorem op8 {k : Nat} : opR k = 8 → ¬ k ≤ 4 := by unfold opR; (repeat' split) <;> omega
theorem op14 {k : Nat} : opR k = 14 → k = 3 := by unfold opR; (repeat' split) <;> omega
theorem op15 {k : Nat} : opR k = 15 → k = 4 := by unfold opR; (repeat' split) <;> omega
theorem op_not {k : Nat} (hk : k < 6) : ¬ opR k = 14 → ¬ opR k = 15 → ¬ opR k = 8 → k ≤ 2 := by unfold opR; (repeat' split) <;> omega
def rgR (k rt : Nat) : Int × Int × Bool := if andR k rt ≠ ndR k then (-6, 0, true) else if k ≤ 2 then (0, 0, false) else if k = 4 then (0, 1, true) else (0, 0, true)
theorem rg_no {k rt : Nat} {r v : Int} {d : Bool} (h : andR k rt ≠ ndR k) (hr : rgR k rt = (r, v, d)) : r = -6 ∧ d = true := by
  unfold rgR at hr; rw [if_pos h] at hr; cases hr; exact ⟨rfl, rfl⟩
theorem rg_yes {k rt : Nat} {r v : Int} {d : Bool} (h : ¬ andR k rt ≠ ndR k) (hr : rgR k rt = (r, v, d)) : r = 0 ∧ d = decide (¬ k ≤ 2) := by
  unfold rgR at hr; rw [if_neg h] at hr
  split at hr
  · cases hr; exact ⟨rfl, by simp; assumption⟩
  · split at hr <;> (cases hr; exact ⟨rfl, by simp; omega⟩)
def rg1 (g : NewG) (b1 : Nat) (k rt : Nat) : KS := kAskS (kNew 2 6 3 4 true g) 4 (eCp k rt) b1
def rg2 (g : NewG) (b1 b2 : Nat) (k rt : Nat) : KS := kAskS (rg1 g b1 k rt) 4 (eDo k) b2
def rgOk (g : NewG) (b1 b2 : Nat) (k rt : Nat) : Bool := chk (kNew 2 6 3 4 true g) 4 (eCp k rt) b1 0 0 true 0 && (decide ((rg1 g b1 k rt).mp.length = 4) && (chk (rg1 g b1 k rt) 4 (eDo k) b2 (rgR k rt).1 (rgR k rt).2.1 (rgR k rt).2.2 1 && (if andR k rt ≠ ndR k then decide ((rg2 g b1 b2 k rt).mp.length = 4) && decide ((ofQ (rg2 g b1 b2 k rt).rt 4).length = 0) else if k ≤ 2 then decide ((ofQ (rg2 g b1 b2 k rt).rt 4).length = 1) else if k ≤ 4 then true else decide (look (rg2 g b1 b2 k rt).mp (3, 5) = some (5, 3)))))
set_option maxRecDepth 100000 in
theorem rg_all (g : NewG) (b1 b2 : Nat) : ((List.range 6).all fun k => (List.range 8).all fun rt => rgOk g b1 b2 k rt) = true := by kernel_rfl
theorem rg_ok (g : NewG) (b1 b2 : Nat) {k rt : Nat} (hk : k < 6) (hr : rt < 8) : rgOk g b1 b2 k rt = true := all_range (all_range (rg_all g b1 b2) hk) hr
end Go.Pse
namespace Go.Pse
open Go.RowKit Go.Proofs

set_option maxRecDepth 100000 in
set_option maxHeartbeats 4000000 in
theorem actRights {E W : World} {x y : Int} :
    Con Tryz.prog 10 #[.int .i64 x, .int .i64 y] E [old W] (fun _ : Unit => .bool true) (fun _ => [old W]) := by
  refine Con.body (vs := [.int .i64 x, .int .i64 y]) (n := 170) Tryz.func10 rfl rfl [(0, .int .i64 x), (1, .int .i64 y)] (env_ok 2 rfl) <| sr <| ag rfl rfl <| nx <| L_op <| xc fc12 .nil rfl (firstG) fun _ => ag rfl rfl <| nxx ?_
  refine mv rfl rfl <| L_pur rfl (p_not rfl) <| nq <| J_bool (t := 23) (c := false) rfl (rfl) <| C_false rfl <| J_skip <| qx <| L_op <| xc fc14 (.cons rfl .nil) rfl (alone2) fun g => ?_
  have W0 := well2 g
  refine ag rfl rfl <| nxx <| mv rfl rfl <| L_pur rfl (p_eqNilPtr Tryz.underlying25 rfl) <| nq <| J_bool (t := 26) (c := false) rfl (rfl) <| C_false rfl <| J_skip ?_
  refine qx <| mv rfl rfl <| L_op <| xc fc13 (.cons rfl (.cons rfl .nil)) rfl (number (by omega) (by omega)) fun _ => ?_
  obtain ⟨rt, hrt0⟩ : ∃ rt, rt = num y (8 : Nat) := ⟨_, rfl⟩
  have hrt : rt < 8 := by rw [hrt0]; exact num_lt' (by omega)
  refine J_slot (t := 28) (v := .int .i64 (rt : Int)) rfl (by rw [hrt0]; rfl) <| ag rfl rfl <| nx <| mv rfl rfl <| L_op <| xc fc13 (.cons rfl (.cons rfl .nil)) rfl (number (by omega) (by omega)) fun _ => ?_
  obtain ⟨k, hk0⟩ : ∃ k, k = num x (6 : Nat) := ⟨_, rfl⟩
  have hk : k < 6 := by rw [hk0]; exact num_lt' (by omega)
  refine J_slot (t := 30) (v := .int .i64 (k : Int)) rfl (by rw [hk0]; rfl) <| ag rfl rfl <| nx <| L_op <| x_lit (vals := [_, _, _, _, _, _]) Tryz.underlying73 ty3 rfl (.cons rfl (.cons rfl (.cons rfl (.cons rfl (.cons rfl (.cons rfl .nil)))))) (.one rfl (.one rfl (.one rfl (.one rfl (.one rfl (.one rfl .nil)))))) (Wf.cons rfl rfl (Wf.cons rfl rfl (Wf.cons rfl rfl (Wf.cons rfl rfl (Wf.cons rfl rfl (Wf.cons rfl rfl Wf.nil)))))) rfl (by decide) rfl rfl <| JR fun a31 c31 hw31 hl31 hm31 hz31 => ?_
  obtain ⟨b31x, o31x, rfl⟩ := hz31 (by simp)
  refine mv rfl rfl <| L_pur rfl (p_indexAddr rfl rfl Tryz.underlying73 ty3 (by omega) (by simp; omega)) <| L_val rfl (v_loadE1 rfl ty3 HS (by simpa using ops_at hk)) ?_
  refine J_slot (t := 34) (v := .int .i64 (opR k)) rfl rfl <| ag rfl rfl <| nx <| L_op <| xc fc16 (.cons rfl .nil) rfl (slotC (k := 9) (by omega)) fun _ => L_op <| xc fc16 (.cons rfl .nil) rfl (slotC (k := 9) (by omega)) fun _ => L_op <| xc fc16 (.cons rfl .nil) rfl (slotC (k := 9) (by omega)) fun _ => ?_
  refine L_op <| xc fc16 (.cons rfl .nil) rfl (slotC (k := 10) (by omega)) fun _ => L_op <| xc fc16 (.cons rfl .nil) rfl (slotC (k := 10) (by omega)) fun _ => L_op <| xc fc16 (.cons rfl .nil) rfl (slotC (k := 5) (by omega)) fun _ => L_op <| x_lit (vals := [_, _, _, _, _, _]) Tryz.underlying94 ty22 rfl (.cons rfl (.cons rfl (.cons rfl (.cons rfl (.cons rfl (.cons rfl .nil)))))) (.one rfl (.one rfl (.one rfl (.one rfl (.one rfl (.one rfl .nil)))))) (Wf.cons rfl rfl (Wf.cons rfl rfl (Wf.cons rfl rfl (Wf.cons rfl rfl (Wf.cons rfl rfl (Wf.cons rfl rfl Wf.nil)))))) rfl (by decide) rfl rfl ?_
  refine JR fun a41 c41 hw41 hl41 hm41 hz41 => ?_
  obtain ⟨b41x, o41x, rfl⟩ := hz41 (by simp)
  refine mv rfl rfl <| L_pur rfl (p_indexAddr rfl rfl Tryz.underlying94 ty22 (by omega) (by simp; omega)) <| L_val rfl (v_loadE1 rfl ty22 HS (by simpa using frs_at hk)) ?_
  refine J_slot (t := 44) (v := .int .u32 (atK (frR k))) rfl rfl <| ag rfl rfl <| nx <| L_op <| x_lit (vals := [_, _, _, _, _, _]) Tryz.underlying73 ty3 rfl (.cons rfl (.cons rfl (.cons rfl (.cons rfl (.cons rfl (.cons rfl .nil)))))) (.one rfl (.one rfl (.one rfl (.one rfl (.one rfl (.one rfl .nil)))))) (Wf.cons rfl rfl (Wf.cons rfl rfl (Wf.cons rfl rfl (Wf.cons rfl rfl (Wf.cons rfl rfl (Wf.cons rfl rfl Wf.nil)))))) rfl (by decide) rfl rfl <| JR fun a45 c45 hw45 hl45 hm45 hz45 => ?_
  obtain ⟨b45x, o45x, rfl⟩ := hz45 (by simp)
  refine mv rfl rfl <| L_pur rfl (p_indexAddr rfl rfl Tryz.underlying73 ty3 (by omega) (by simp; omega)) <| L_val rfl (v_loadE1 rfl ty3 HS (by simpa using nds_at hk)) ?_
  refine J_slot (t := 48) (v := .int .i64 (ndR k)) rfl rfl ?_
  have F := fun b1 b2 => rg_ok g b1 b2 hk hrt
  unfold rgOk at F
  simp only [Bool.and_eq_true] at F
  have hfr := frR_lt k
  obtain ⟨K, hK⟩ : ∃ K, K = (kNew 2 6 3 4 true g) := ⟨_, rfl⟩
  refine J_pick (A := coA g.p _) PC ?_
  refine J_asTo (B := coA g.p K) (by rw [hK]) ?_
  rw [← hK] at W0 F
  refine ag rfl rfl <| nxx <| mv rfl rfl <| mv rfl rfl <| L_op <| xc fc16 (.cons rfl .nil) rfl (slotC (k := 13) (by omega)) fun _ => mv rfl rfl <| L_pur rfl (p_conv rfl Tryz.underlying3 Tryz.underlying22) ?_
  refine J_slot (t := 54) (v := .int .u32 ((rt : Int))) rfl (by rw [wrap32u_of (by omega)]) <| L_pur rfl (bld31 (.cons rfl (.cons rfl (.cons rfl (.cons rfl .nil)))) (by repeat constructor)) <| L_op <| xc fc15 (.cons rfl (.cons rfl (.cons rfl .nil))) rfl (coAskG (s := K) (g := 4) (e := (eCp k rt)) (N := 40) (M := 60) PC W0 (by omega) (by omega) sqeOk_mk (tk_is (chk_is ((fun b => (F b 0).1) 0)).1 (by omega)) (chk_is ((fun b => (F b 0).1) 0)).2.1 (fun q T hq hG hE => doesC2 hG hE (by rw [hq]))) fun b1 => ?_
  refine J_slot (t := 56) (v := .tuple #[.int .i64 0, .int .u32 0, .bool true]) rfl (by rw [(chk_is ((fun b => (F b 0).1) b1)).2.2]) ?_
  obtain ⟨S1, hS1⟩ : ∃ S : KS, S = (rg1 g b1 k rt) := ⟨_, rfl⟩
  refine J_pick (A := coA g.p _) PC ?_
  refine J_asTo (B := coA g.p S1) (by rw [hS1, hK]; rfl) ?_
  have W1 : Well S1 41 61 := by
    have h := W0.ask (by omega) (by omega) 4 sqeOk_mk b1 (e := (eCp k rt))
    rw [hK] at h
    rw [hS1]; exact h
  have F1 := fun b => (F b1 b).2
  rw [← hS1] at F1
  have hm1 : S1.mp.length = 4 := of_decide_eq_true (F1 0).1
  obtain ⟨rr, vv, dd, hrv⟩ : ∃ rr vv dd, rgR k rt = (rr, vv, dd) := ⟨_, _, _, rfl⟩
  rw [hrv] at F1
  clear F
  refine mv rfl rfl <| L_pur rfl (p_extract rfl rfl) <| L_pur rfl (p_extract rfl rfl) <| L_pur rfl (p_extract rfl rfl) <| ag rfl rfl <| ag rfl rfl <| ag rfl rfl <| nx ?_
  refine mv rfl rfl <| L_pur rfl (p_not rfl) <| mv rfl rfl <| J_bool (t := 62) (c := false) rfl (rfl) <| L_op <| G_on rfl rfl rfl <| J_pur (p_move rfl) rfl rfl rfl <| L_op <| G_on rfl rfl rfl ?_
  refine J_pur (p_neq rfl rfl) rfl rfl rfl <| L_pur rfl (p_pick_f rfl rfl) <| J_slot (t := 65) (v := .bool false) rfl (by first | rfl | (congr 1; simp; done) | (simp; done)) <| nq <| J_bool (t := 65) (c := false) rfl (rfl) <| C_false rfl <| J_skip <| qx ?_
  refine mv rfl rfl <| L_op <| xc fc38 (.cons rfl .nil) rfl (coMaps) fun _ => L_op <| xc fc39 (.cons rfl .nil) rfl (coSpAll (s := S1) PC (by omega)) <| JR fun a68 c68 hw68 hl68 hm68 hz68 => ag rfl rfl <| nx ?_
  refine mv rfl rfl <| L_op <| xc fc16 (.cons rfl .nil) rfl (slotC (k := 13) (by omega)) fun _ => L_pur rfl (bld31 (.cons rfl (.cons rfl .nil)) (by repeat constructor)) <| L_op <| x_alloc ty31 rfl fun b15 => L_op <| x_store rfl rfl ty31 rfl SM SM RO PT ?_
  refine nq ?_
  refine J_cut (α := Unit) (fun _ : Unit => [blk b15 31 [.int .i64 (eDo k).op, .int .i64 (eDo k).flags, .int .u32 (eDo k).tag, .int .u32 (eDo k).cap, .int .u32 (eDo k).a, .int .u32 (eDo k).b, .int .u32 (eDo k).c, .int .u32 (eDo k).time], coA g.p S1, old W]) (fun _ : Unit => [(1, .int .i64 (rt : Int)), (5, .bool true), (6, .pointer (some ⟨g.p, 0, none⟩)), (8, .int .i64 (opR k)), (10, .int .i64 (ndR k)), (14, .slice a68 ((sortP (S1.mp.map Prod.fst)).map encI).length c68), (15, .pointer (some ⟨b15, 0, none⟩))]) ?_ ?_
  refine sr <| mv rfl rfl <| L_pur rfl (p_eql rfl rfl) <| nq ?_
  refine C_dec rfl (fun h73 => ?_) (fun h73 => ?_)
  refine sr <| fa rfl rfl fa31_4 <| L_op <| x_store rfl rfl ty22 rfl SM SM RO PT ?_
  refine ny <| fa rfl rfl fa31_5 <| L_op <| x_store rfl rfl ty22 rfl SM SM RO PT ?_
  refine nq <| J_pick (A := blk b15 _ _) PC ?_
  refine J_asTo (B := blk b15 31 [.int .i64 (eDo k).op, .int .i64 (eDo k).flags, .int .u32 (eDo k).tag, .int .u32 (eDo k).cap, .int .u32 (eDo k).a, .int .u32 (eDo k).b, .int .u32 (eDo k).c, .int .u32 (eDo k).time]) (by rw [show k = 5 by have := op8 h73; omega]; rfl) ?_
  exact J_at (L := (fun _ : Unit => [blk b15 31 [.int .i64 (eDo k).op, .int .i64 (eDo k).flags, .int .u32 (eDo k).tag, .int .u32 (eDo k).cap, .int .u32 (eDo k).a, .int .u32 (eDo k).b, .int .u32 (eDo k).c, .int .u32 (eDo k).time], coA g.p S1, old W])) (G := (fun _ : Unit => [(1, .int .i64 (rt : Int)), (5, .bool true), (6, .pointer (some ⟨g.p, 0, none⟩)), (8, .int .i64 (opR k)), (10, .int .i64 (ndR k)), (14, .slice a68 ((sortP (S1.mp.map Prod.fst)).map encI).length c68), (15, .pointer (some ⟨b15, 0, none⟩))])) () SU KE
  refine J_skip <| Q_then <| J_pick (A := blk b15 _ _) PC ?_
  refine J_asTo (B := blk b15 31 [.int .i64 (eDo k).op, .int .i64 (eDo k).flags, .int .u32 (eDo k).tag, .int .u32 (eDo k).cap, .int .u32 (eDo k).a, .int .u32 (eDo k).b, .int .u32 (eDo k).c, .int .u32 (eDo k).time]) (by rw [eDo_no (show ¬ k = 5 by intro h; subst h; exact h73 rfl)]) ?_
  exact J_at (L := (fun _ : Unit => [blk b15 31 [.int .i64 (eDo k).op, .int .i64 (eDo k).flags, .int .u32 (eDo k).tag, .int .u32 (eDo k).cap, .int .u32 (eDo k).a, .int .u32 (eDo k).b, .int .u32 (eDo k).c, .int .u32 (eDo k).time], coA g.p S1, old W])) (G := (fun _ : Unit => [(1, .int .i64 (rt : Int)), (5, .bool true), (6, .pointer (some ⟨g.p, 0, none⟩)), (8, .int .i64 (opR k)), (10, .int .i64 (ndR k)), (14, .slice a68 ((sortP (S1.mp.map Prod.fst)).map encI).length c68), (15, .pointer (some ⟨b15, 0, none⟩))])) () SU KE
  intro _
  refine sr <| mv rfl rfl <| L_val rfl (v_loadA rfl ty31 HS CT) ?_
  refine L_op (xc fc15 (.cons rfl (.cons rfl (.cons rfl .nil))) rfl (coAskG (s := S1) (g := 4) (e := (eDo k)) (N := 41) (M := 61) PC W1 (by omega) (by omega) (eDo_ok hk) (tk_is (chk_is ((fun b => (F1 b).2.1) 0)).1 (by omega)) (chk_is ((fun b => (F1 b).2.1) 0)).2.1 (fun q T hq hG hE => by
      rcases (show k = 0 ∨ k = 1 ∨ k = 2 ∨ k = 3 ∨ k = 4 ∨ k = 5 by omega) with rfl | rfl | rfl | rfl | rfl | rfl
      · exact doesC10 hG hE (by rw [hq]; rfl)
      · exact doesC11 hG hE (by rw [hq]; rfl)
      · exact doesC12 hG hE (by rw [hq]; rfl)
      · exact doesC14 hG hE (by rw [hq]; rfl)
      · exact doesC15 hG hE (by rw [hq]; rfl)
      · exact doesC8 hG hE (by rw [hq]; rfl))) fun b2 => ?_)
  refine J_slot (t := 79) (v := .tuple #[.int .i64 rr, .int .u32 vv, .bool dd]) rfl (by rw [(chk_is ((fun b => (F1 b).2.1) b2)).2.2]) ?_
  obtain ⟨S2, hS2⟩ : ∃ S : KS, S = (rg2 g b1 b2 k rt) := ⟨_, rfl⟩
  refine J_pick (A := coA g.p _) PC ?_
  refine J_asTo (B := coA g.p S2) (by rw [hS2, hS1]; rfl) ?_
  have W2 : Well S2 42 62 := by
    have h := W1.ask (by omega) (by omega) 4 (eDo_ok hk) b2 (e := (eDo k))
    rw [hS1] at h
    rw [hS2]; exact h
  have F2 := (F1 b2).2.2
  rw [← hS2] at F2
  clear F1
  refine mv rfl rfl <| L_pur rfl (p_extract rfl rfl) <| L_pur rfl (p_extract rfl rfl) <| L_pur rfl (p_extract rfl rfl) <| ag rfl rfl <| ag rfl rfl <| ag rfl rfl <| nxx ?_
  refine mv rfl rfl <| mv rfl rfl <| L_pur rfl (p_and rfl rfl) <| J_slot (t := 85) (v := .int .i64 (andR k rt)) rfl rfl <| mv rfl rfl <| L_pur rfl (p_neq rfl rfl) <| nq ?_
  refine C_dec rfl (fun h87 => ?_) (fun h87 => ?_)
  have hc : andR k rt ≠ ndR k := by simpa using h87
  obtain ⟨rfl, rfl⟩ := rg_no hc hrv
  rw [if_pos hc] at F2
  simp only [Bool.and_eq_true, decide_eq_true_eq] at F2
  refine sr <| mv rfl rfl <| mv rfl rfl <| J_bool (t := 89) (c := true) rfl (rfl) <| L_op <| G_on rfl rfl rfl <| J_pur (p_move rfl) rfl rfl rfl <| L_pur rfl (p_pick_t rfl rfl) ?_
  refine mv rfl rfl <| J_bool (t := 92) (c := true) rfl (rfl) <| L_op <| G_on rfl rfl rfl <| J_pur (p_move rfl) rfl rfl rfl <| L_op <| G_on rfl rfl rfl <| J_pur (p_eql rfl rfl) rfl rfl rfl ?_
  refine L_pur rfl (p_pick_t rfl rfl) <| J_slot (t := 95) (v := .bool true) rfl (by first | rfl | (congr 1; simp; done) | (simp; done)) <| mv rfl rfl <| J_bool (t := 96) (c := true) rfl (rfl) <| L_op <| G_on rfl rfl rfl <| J_pur (p_move rfl) rfl rfl rfl <| L_op <| G_on rfl rfl rfl ?_
  refine xc fc38 (.cons rfl .nil) rfl (coMaps) fun _ => L_op <| G_on rfl rfl rfl <| xc fc39 (.cons rfl .nil) rfl (coSpAll (s := S2) PC (by have := F2.1; omega)) <| JR fun a99 c99 hw99 hl99 hm99 hz99 => L_op <| G_on rfl rfl rfl <| J_pur (p_len rfl Tryz.underlying86) rfl rfl rfl ?_
  refine J_slot (t := 100) (v := .int .i64 4) rfl (by rw [List.length_map, sortP_len, List.length_map, F2.1]; rfl) <| L_op <| G_on rfl rfl rfl <| J_pur (p_move rfl) rfl rfl rfl <| L_op <| G_on rfl rfl rfl <| J_pur (p_len rfl Tryz.underlying86) rfl rfl rfl <| J_slot (t := 102) (v := .int .i64 4) rfl (by rw [List.length_map, sortP_len, List.length_map, hm1]; rfl) ?_
  refine L_op <| G_on rfl rfl rfl <| J_pur (p_eql rfl rfl) rfl rfl rfl <| L_pur rfl (p_pick_t rfl rfl) <| J_slot (t := 104) (v := .bool true) rfl (by first | rfl | (congr 1; simp; done) | (simp; done)) <| mv rfl rfl <| J_bool (t := 105) (c := true) rfl (rfl) <| L_op <| G_on rfl rfl rfl ?_
  refine J_pur (p_move rfl) rfl rfl rfl <| L_op <| G_on rfl rfl rfl <| xc fc22 (.cons rfl .nil) rfl (coReqs) fun _ => L_op <| G_on rfl rfl rfl <| xc fc26 (.cons rfl (.cons rfl .nil)) rfl (coRqOf (s := S2) (g := 4) PC W2.fit.ids (by have := W2.fit.jn; have := W2.fit.mm; omega)) <| JR fun a108 c108 hw108 hl108 hm108 hz108 => ?_
  refine L_op <| G_on rfl rfl rfl <| J_pur (p_len rfl Tryz.underlying54) rfl rfl rfl <| J_slot (t := 109) (v := .int .i64 0) rfl (by rw [List.length_map, F2.2]; rfl) <| L_op <| G_on rfl rfl rfl <| J_pur (p_eql rfl rfl) rfl rfl rfl <| L_pur rfl (p_pick_t rfl rfl) ?_
  refine J_slot (t := 111) (v := .bool true) rfl (by first | rfl | (congr 1; simp; done) | (simp; done)) <| ag rfl rfl <| nq <| J_ret <| Q_then_ret ?_
  refine J_return (()) Tryz.results10 (.tmp rfl .nil) ?_ ?_
  · first | rfl | simp [one]
  · exact SU
  have hc : ¬ andR k rt ≠ ndR k := by simpa using h87
  obtain ⟨rfl, hdd⟩ := rg_yes hc hrv
  rw [if_neg hc] at F2
  refine J_skip <| Q_then <| J_seq <| sr <| mv rfl rfl <| nq <| J_block <| sr ?_
  refine L_pur rfl (p_eql rfl rfl) <| ag rfl rfl <| nq ?_
  refine C_dec rfl (fun h113 => ?_) (fun h113 => ?_)
  have hk3 := op14 h113
  obtain rfl : dd = true := by rw [hdd]; simp; omega
  refine sr <| mv rfl rfl <| mv rfl rfl <| J_bool (t := 116) (c := true) rfl (rfl) <| L_op <| G_on rfl rfl rfl <| J_pur (p_move rfl) rfl rfl rfl <| L_pur rfl (p_pick_t rfl rfl) ?_
  refine mv rfl rfl <| J_bool (t := 119) (c := true) rfl (rfl) <| L_op <| G_on rfl rfl rfl <| J_pur (p_move rfl) rfl rfl rfl <| L_op <| G_on rfl rfl rfl <| J_pur (p_eql rfl rfl) rfl rfl rfl ?_
  refine L_pur rfl (p_pick_t rfl rfl) <| J_slot (t := 122) (v := .bool true) rfl (by first | rfl | (congr 1; simp; done) | (simp; done)) <| ag rfl rfl <| nq <| J_ret <| Q_blk_ret <| Q_then_ret ?_
  refine J_return (()) Tryz.results10 (.tmp rfl .nil) ?_ ?_
  · first | rfl | simp [one]
  · exact SU
  refine sr <| L_pur rfl (p_eql rfl rfl) <| ag rfl rfl <| nq ?_
  refine C_dec rfl (fun h123 => ?_) (fun h123 => ?_)
  have hk4 := op15 h123
  obtain rfl : dd = true := by rw [hdd]; simp; omega
  refine sr <| mv rfl rfl <| mv rfl rfl <| J_bool (t := 126) (c := true) rfl (rfl) <| L_op <| G_on rfl rfl rfl <| J_pur (p_move rfl) rfl rfl rfl <| L_pur rfl (p_pick_t rfl rfl) ?_
  refine mv rfl rfl <| J_bool (t := 129) (c := true) rfl (rfl) <| L_op <| G_on rfl rfl rfl <| J_pur (p_move rfl) rfl rfl rfl <| L_op <| G_on rfl rfl rfl <| J_pur (p_eql rfl rfl) rfl rfl rfl ?_
  refine L_pur rfl (p_pick_t rfl rfl) <| J_slot (t := 132) (v := .bool true) rfl (by first | rfl | (congr 1; simp; done) | (simp; done)) <| ag rfl rfl <| nq <| J_ret <| Q_blk_ret <| Q_then_ret ?_
  refine J_return (()) Tryz.results10 (.tmp rfl .nil) ?_ ?_
  · first | rfl | simp [one]
  · exact SU
  refine sr <| L_pur rfl (p_eql rfl rfl) <| ag rfl rfl <| nq ?_
  refine C_dec rfl (fun h133 => ?_) (fun h133 => ?_)
  have hk5 := op8 h133
  obtain rfl : dd = true := by rw [hdd]; simp; omega
  rw [if_neg (show ¬ k ≤ 2 by omega), if_neg hk5] at F2
  have hlk : look S2.mp (3, 5) = some (5, 3) := of_decide_eq_true F2
  refine J_cut (α := Nat) (fun b19 : Nat => [blk b19 91 (encI (5, 3)), coA g.p S2, old W]) (fun b19 : Nat => [(5, .bool true), (16, .int .i64 0), (18, .bool true), (19, .pointer (some ⟨b19, 0, none⟩)), (20, .bool true)]) ?_ ?_
  refine J_region <| mv rfl rfl <| L_op <| xc fc38 (.cons rfl .nil) rfl (coMaps) fun _ => L_pur rfl (bld85 (.cons rfl (.cons rfl .nil)) (by repeat constructor)) <| L_op <| xc fc40 (.cons rfl (.cons rfl .nil)) rfl (coSpGet (s := S2) (a := (3, 5)) PC) fun _ => ?_
  refine mv rfl rfl <| L_pur rfl (p_extract rfl rfl) <| L_pur rfl (p_extract rfl rfl) <| L_op <| x_alloc ty91 rfl fun b19 => L_op <| x_store rfl rfl ty91 rfl SM SM RO PT ?_
  refine J_pick (A := blk b19 _ _) PC ?_
  refine J_asTo (B := blk b19 91 (encI (5, 3))) (by rw [hlk]; rfl) <| ag rfl rfl <| nq <| J_slot (t := 20) (v := .bool true) rfl (by rw [hlk]; rfl) ?_
  exact J_at (L := (fun b19 : Nat => [blk b19 91 (encI (5, 3)), coA g.p S2, old W])) (G := (fun b19 : Nat => [(5, .bool true), (16, .int .i64 0), (18, .bool true), (19, .pointer (some ⟨b19, 0, none⟩)), (20, .bool true)])) b19 SU KE
  intro b19
  refine sr <| mv rfl rfl <| mv rfl rfl <| J_bool (t := 143) (c := true) rfl (rfl) <| L_op <| G_on rfl rfl rfl <| J_pur (p_move rfl) rfl rfl rfl <| L_pur rfl (p_pick_t rfl rfl) ?_
  refine mv rfl rfl <| J_bool (t := 146) (c := true) rfl (rfl) <| L_op <| G_on rfl rfl rfl <| J_pur (p_move rfl) rfl rfl rfl <| L_op <| G_on rfl rfl rfl <| J_pur (p_eql rfl rfl) rfl rfl rfl ?_
  refine L_pur rfl (p_pick_t rfl rfl) <| J_slot (t := 149) (v := .bool true) rfl (by first | rfl | (congr 1; simp; done) | (simp; done)) <| mv rfl rfl <| J_bool (t := 150) (c := true) rfl (rfl) <| L_op <| G_on rfl rfl rfl <| J_pur (p_move rfl) rfl rfl rfl <| L_pur rfl (p_pick_t rfl rfl) ?_
  refine mv rfl rfl <| J_bool (t := 153) (c := true) rfl (rfl) <| L_op <| G_on rfl rfl rfl <| J_val (v_loadA rfl ty91 HS CT) rfl rfl rfl ?_
  refine L_op <| G_on rfl rfl rfl <| J_pur (bld91 (.cons rfl (.cons rfl .nil)) (by repeat constructor)) rfl rfl rfl <| L_op <| G_on rfl rfl rfl <| J_pur (p_eqv rfl rfl (fun w => eg91 _ _ _ _ _ w) (fun w => eqv91 _ _ _ _ w)) rfl rfl rfl <| L_pur rfl (p_pick_t rfl rfl) <| J_slot (t := 157) (v := .bool true) rfl (by first | rfl | (congr 1; simp; done) | (simp; done)) ?_
  refine ag rfl rfl <| nq <| J_ret <| Q_blk_ret <| Q_then_ret ?_
  refine J_return (()) Tryz.results10 (.tmp rfl .nil) ?_ ?_
  · first | rfl | simp [one]
  · exact SU
  have hk2 := op_not hk h113 h123 h133
  obtain rfl : dd = false := by rw [hdd]; simp; omega
  rw [if_pos hk2] at F2
  have hq1 : (ofQ S2.rt 4).length = 1 := of_decide_eq_true F2
  refine J_skip <| Q_blk_normal <| qx <| mv rfl rfl <| mv rfl rfl <| J_bool (t := 159) (c := true) rfl (rfl) <| L_op <| G_on rfl rfl rfl ?_
  refine J_pur (p_move rfl) rfl rfl rfl <| L_op <| G_on rfl rfl rfl <| J_pur (p_not rfl) rfl rfl rfl <| L_pur rfl (p_pick_t rfl rfl) <| mv rfl rfl <| J_bool (t := 163) (c := true) rfl (rfl) <| L_op <| G_on rfl rfl rfl ?_
  refine J_pur (p_move rfl) rfl rfl rfl <| L_op <| G_on rfl rfl rfl <| xc fc22 (.cons rfl .nil) rfl (coReqs) fun _ => L_op <| G_on rfl rfl rfl <| xc fc26 (.cons rfl (.cons rfl .nil)) rfl (coRqOf (s := S2) (g := 4) PC W2.fit.ids (by have := W2.fit.jn; have := W2.fit.mm; omega)) <| JR fun a166 c166 hw166 hl166 hm166 hz166 => ?_
  refine L_op <| G_on rfl rfl rfl <| J_pur (p_len rfl Tryz.underlying54) rfl rfl rfl <| J_slot (t := 167) (v := .int .i64 1) rfl (by rw [List.length_map, hq1]; rfl) <| L_op <| G_on rfl rfl rfl <| J_pur (p_eql rfl rfl) rfl rfl rfl <| L_pur rfl (p_pick_t rfl rfl) ?_
  refine J_slot (t := 169) (v := .bool true) rfl (by first | rfl | (congr 1; simp; done) | (simp; done)) <| ag rfl rfl <| nq <| J_ret ?_
  refine J_return (()) Tryz.results10 (.tmp rfl .nil) ?_ ?_
  · first | rfl | simp [one]
  · exact SU

end Go.Pse
