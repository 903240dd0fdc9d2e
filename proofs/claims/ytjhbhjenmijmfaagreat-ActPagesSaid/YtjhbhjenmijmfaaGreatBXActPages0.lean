/-
  Own texts, merged: C81a, C82.
-/
import Derived.Test.YtjhbhjenmijmfaaGreatBC5
namespace Go.Pse
open Go.RowKit Go.Proofs

abbrev eFrame : Sqe := ⟨7, 0, 0, atK 7, atK 11, 3, 0, 0⟩
abbrev eMap (pg rt : Int) : Sqe := ⟨8, 0, 0, atK 11, pg, rt, 0, 0⟩
abbrev eUn (pg : Int) : Sqe := ⟨9, 0, 0, 0, pg, 0, 0, 0⟩
abbrev eOff (pg : Int) (del : Bool) : Sqe := if del = true then ⟨5, 0, 0, atK 11, 0, 0, 0, 0⟩ else eUn pg
def pg1 (g : NewG) (b1 : Nat) : KS := kAskS (kNew 1 6 3 4 false g) 4 eFrame b1
def pg2 (g : NewG) (b1 b2 : Nat) (pg rt : Int) : KS := kAskS (pg1 g b1) 4 (eMap pg rt) b2
def pg3 (g : NewG) (b1 b2 b3 : Nat) (pg rt : Int) (del : Bool) : KS := kAskS (pg2 g b1 b2 pg rt) 4 (eOff pg del) b3
def pg4 (g : NewG) (b1 b2 b3 b4 : Nat) (pg rt : Int) (del : Bool) : KS := kAskS (pg3 g b1 b2 b3 pg rt del) 4 (eUn pg) b4
def wantP (pg rt : Int) : Int := if rt < 1 ∨ rt > 3 then -7 else if pg < 2 then -3 else 0
def pgA (g : NewG) (b1 b2 : Nat) (pg rt : Int) : Bool := chk (kNew 1 6 3 4 false g) 4 eFrame b1 0 8 true 0 && chk (pg1 g b1) 4 (eMap pg rt) b2 (wantP pg rt) 0 true 1
def pgB (g : NewG) (b1 b2 : Nat) (pg rt : Int) : Bool := decide ((pg2 g b1 b2 pg rt).mp.length = 2)
def pgC (g : NewG) (b1 b2 b3 b4 : Nat) (pg rt : Int) (del : Bool) : Bool := decide (look (pg2 g b1 b2 pg rt).mp (3, pg) = some (8, rt)) && chk (pg2 g b1 b2 pg rt) 4 (eOff pg del) b3 0 0 true 2 && decide (look (pg3 g b1 b2 b3 pg rt del).mp (3, pg) = none) && chk (pg3 g b1 b2 b3 pg rt del) 4 (eUn pg) b4 (-11) 0 true 3 && decide ((pg4 g b1 b2 b3 b4 pg rt del).mp.length = 2)
def pgOk (g : NewG) (b1 b2 b3 b4 : Nat) (pg rt : Int) (del : Bool) : Bool := pgA g b1 b2 pg rt && (if wantP pg rt ≠ 0 then pgB g b1 b2 pg rt else pgC g b1 b2 b3 b4 pg rt del)
set_option maxRecDepth 100000 in
theorem pg_all (g : NewG) (b1 b2 b3 b4 : Nat) : ((List.range 8).all fun pg => (List.range 5).all fun rt => pgOk g b1 b2 b3 b4 (pg : Int) (rt : Int) true && pgOk g b1 b2 b3 b4 (pg : Int) (rt : Int) false) = true := by kernel_rfl
theorem pg_ok (g : NewG) (b1 b2 b3 b4 : Nat) {pg rt : Nat} (hp : pg < 8) (hr : rt < 5) (del : Bool) : pgOk g b1 b2 b3 b4 (pg : Int) (rt : Int) del = true := by
  have h := all_range (all_range (pg_all g b1 b2 b3 b4) hp) hr
  rw [Bool.and_eq_true] at h
  cases del
  · exact h.2
  · exact h.1
end Go.Pse
namespace Go.Pse
open Go.RowKit Go.Proofs

set_option maxRecDepth 100000 in
set_option maxHeartbeats 4000000 in
theorem actPages {E W : World} {x y : Int} {del : Bool} :
    Con Tryz.prog 9 #[.int .i64 x, .int .i64 y, .bool del] E [old W] (fun _ : Unit => .bool true) (fun _ => [old W]) := by
  refine Con.body (vs := [.int .i64 x, .int .i64 y, .bool del]) (n := 162) Tryz.func9 rfl rfl [(0, .int .i64 x), (1, .int .i64 y), (2, .bool del)] (env_ok 3 rfl) <| sr <| ag rfl rfl <| nx <| L_op <| xc fc12 .nil rfl (firstG) fun _ => ag rfl rfl <| nxx ?_
  refine mv rfl rfl <| L_pur rfl (p_not rfl) <| nq <| J_bool (t := 30) (c := false) rfl (rfl) <| C_false rfl <| J_skip <| qx <| mv rfl rfl ?_
  refine L_op <| xc fc13 (.cons rfl (.cons rfl .nil)) rfl (number (by omega) (by omega)) fun _ => ?_
  obtain ⟨pg, hpg0⟩ : ∃ pg, pg = num x (8 : Nat) := ⟨_, rfl⟩
  have hpg : pg < 8 := by rw [hpg0]; exact num_lt' (by omega)
  refine J_slot (t := 32) (v := .int .i64 (pg : Int)) rfl (by rw [hpg0]; rfl) <| ag rfl rfl <| nx <| mv rfl rfl <| L_op <| xc fc13 (.cons rfl (.cons rfl .nil)) rfl (number (by omega) (by omega)) fun _ => ?_
  obtain ⟨rt, hrt0⟩ : ∃ rt, rt = num y (5 : Nat) := ⟨_, rfl⟩
  have hrt : rt < 5 := by rw [hrt0]; exact num_lt' (by omega)
  refine J_slot (t := 34) (v := .int .i64 (rt : Int)) rfl (by rw [hrt0]; rfl) <| ag rfl rfl <| nx <| L_op <| xc fc14 (.cons rfl .nil) rfl (alone1) fun g => ?_
  have W0 := well1 g
  have F := fun b1 b2 b3 b4 => pg_ok g b1 b2 b3 b4 hpg hrt del
  unfold pgOk at F
  simp only [Bool.and_eq_true] at F
  have FA := fun b1 b2 => (F b1 b2 0 0).1
  unfold pgA at FA
  simp only [Bool.and_eq_true] at FA
  obtain ⟨K, hK⟩ : ∃ K, K = (kNew 1 6 3 4 false g) := ⟨_, rfl⟩
  refine J_pick (A := coA g.p _) PC ?_
  refine J_asTo (B := coA g.p K) (by rw [hK]) ?_
  rw [← hK] at W0 FA
  refine ag rfl rfl <| nxx <| mv rfl rfl <| L_pur rfl (p_eqNilPtr Tryz.underlying25 rfl) <| nq <| J_bool (t := 37) (c := false) rfl (rfl) <| C_false rfl <| J_skip ?_
  refine Q_then <| J_seq <| sr <| mv rfl rfl <| L_op <| xc fc16 (.cons rfl .nil) rfl (slotC (k := 7) (by omega)) fun _ => L_op <| xc fc16 (.cons rfl .nil) rfl (slotC (k := 11) (by omega)) fun _ => ?_
  refine L_pur rfl (bld31 (.cons rfl (.cons rfl (.cons rfl (.cons rfl .nil)))) (by repeat constructor)) <| L_op <| xc fc15 (.cons rfl (.cons rfl (.cons rfl .nil))) rfl (coAskG (s := K) (g := 4) (e := eFrame) (N := 40) (M := 60) PC W0 (by omega) (by omega) sqeOk_mk (tk_is (chk_is ((fun b => (FA b 0).1) 0)).1 (by omega)) (chk_is ((fun b => (FA b 0).1) 0)).2.1 (fun q T hq hG hE => doesC7 hG hE (by rw [hq]))) fun b1 => ?_
  refine J_slot (t := 43) (v := .tuple #[.int .i64 0, .int .u32 8, .bool true]) rfl (by rw [(chk_is ((fun b => (FA b 0).1) b1)).2.2]) ?_
  obtain ⟨S1, hS1⟩ : ∃ S : KS, S = (pg1 g b1) := ⟨_, rfl⟩
  refine J_pick (A := coA g.p _) PC ?_
  refine J_asTo (B := coA g.p S1) (by rw [hS1, hK]; rfl) ?_
  have W1 : Well S1 41 61 := by
    have h := W0.ask (by omega) (by omega) 4 sqeOk_mk b1 (e := eFrame)
    rw [hK] at h
    rw [hS1]; exact h
  have F1 := fun b => (FA b1 b).2
  rw [← hS1] at F1
  refine mv rfl rfl <| L_pur rfl (p_extract rfl rfl) <| L_pur rfl (p_extract rfl rfl) <| L_pur rfl (p_extract rfl rfl) <| ag rfl rfl <| ag rfl rfl <| ag rfl rfl <| nx ?_
  refine mv rfl rfl <| L_pur rfl (p_not rfl) <| mv rfl rfl <| J_bool (t := 49) (c := false) rfl (rfl) <| L_op <| G_on rfl rfl rfl <| J_pur (p_move rfl) rfl rfl rfl <| L_op <| G_on rfl rfl rfl ?_
  refine J_pur (p_neq rfl rfl) rfl rfl rfl <| J_slot (t := 51) (v := .bool false) rfl (by first | rfl | (congr 1; simp; done) | (simp; done)) <| L_pur rfl (p_pick_f rfl rfl) <| nq <| J_bool (t := 52) (c := false) rfl (rfl) <| C_false rfl <| J_skip <| qx ?_
  refine ag rfl rfl <| nq ?_
  refine J_cut (α := Unit) (fun _ : Unit => [coA g.p S1, old W]) (fun _ : Unit => [(0, .int .i64 (pg : Int)), (1, .int .i64 (rt : Int)), (2, .bool del), (7, .bool true), (8, .pointer (some ⟨g.p, 0, none⟩)), (12, .int .i64 (if (pg : Int) < 2 then (-3 : Int) else 0))]) ?_ ?_
  refine sr <| mv rfl rfl <| L_pur rfl (p_lss rfl rfl) <| nq ?_
  refine C_dec rfl (fun h54 => ?_) (fun h54 => ?_)
  refine J_region <| ag rfl rfl <| nq <| J_slot (t := 12) (v := .int .i64 (if (pg : Int) < 2 then (-3 : Int) else 0)) rfl (by rw [if_pos h54]) ?_
  exact J_at (L := (fun _ : Unit => [coA g.p S1, old W])) (G := (fun _ : Unit => [(0, .int .i64 (pg : Int)), (1, .int .i64 (rt : Int)), (2, .bool del), (7, .bool true), (8, .pointer (some ⟨g.p, 0, none⟩)), (12, .int .i64 (if (pg : Int) < 2 then (-3 : Int) else 0))])) () SU KE
  refine J_skip <| Q_then <| J_slot (t := 12) (v := .int .i64 (if (pg : Int) < 2 then (-3 : Int) else 0)) rfl (by rw [if_neg h54]) ?_
  exact J_at (L := (fun _ : Unit => [coA g.p S1, old W])) (G := (fun _ : Unit => [(0, .int .i64 (pg : Int)), (1, .int .i64 (rt : Int)), (2, .bool del), (7, .bool true), (8, .pointer (some ⟨g.p, 0, none⟩)), (12, .int .i64 (if (pg : Int) < 2 then (-3 : Int) else 0))])) () SU KE
  intro _
  refine J_cut (α := Unit) (fun _ : Unit => [coA g.p S1, old W]) (fun _ : Unit => [(0, .int .i64 (pg : Int)), (1, .int .i64 (rt : Int)), (2, .bool del), (7, .bool true), (8, .pointer (some ⟨g.p, 0, none⟩)), (12, .int .i64 (wantP (pg : Int) (rt : Int)))]) ?_ ?_
  refine sr <| mv rfl rfl <| L_pur rfl (p_lss rfl rfl) <| mv rfl rfl ?_
  refine J_gsplit (t := 57) rfl (fun h57 => ?_) (fun h57 => ?_)
  refine L_op <| G_off rfl rfl rfl rfl rfl rfl <| L_op <| G_off rfl rfl rfl rfl rfl rfl <| L_pur rfl (p_pick_t rfl rfl) <| nq <| C_true rfl <| J_region ?_
  refine ag rfl rfl <| nq <| J_slot (t := 12) (v := .int .i64 (wantP (pg : Int) (rt : Int))) rfl (by rw [show wantP (pg : Int) (rt : Int) = -7 from if_pos (.inl (by simpa using h57))]) ?_
  exact J_at (L := (fun _ : Unit => [coA g.p S1, old W])) (G := (fun _ : Unit => [(0, .int .i64 (pg : Int)), (1, .int .i64 (rt : Int)), (2, .bool del), (7, .bool true), (8, .pointer (some ⟨g.p, 0, none⟩)), (12, .int .i64 (wantP (pg : Int) (rt : Int)))])) () SU KE
  refine L_op <| G_on rfl rfl rfl <| J_pur (p_move rfl) rfl rfl rfl <| L_op <| G_on rfl rfl rfl <| J_pur (p_gtr rfl rfl) rfl rfl rfl <| L_pur rfl (p_pick_f rfl rfl) <| nq ?_
  refine C_dec rfl (fun h60 => ?_) (fun h60 => ?_)
  refine J_region <| ag rfl rfl <| nq <| J_slot (t := 12) (v := .int .i64 (wantP (pg : Int) (rt : Int))) rfl (by rw [show wantP (pg : Int) (rt : Int) = -7 from if_pos (.inr (by simpa using h60))]) ?_
  exact J_at (L := (fun _ : Unit => [coA g.p S1, old W])) (G := (fun _ : Unit => [(0, .int .i64 (pg : Int)), (1, .int .i64 (rt : Int)), (2, .bool del), (7, .bool true), (8, .pointer (some ⟨g.p, 0, none⟩)), (12, .int .i64 (wantP (pg : Int) (rt : Int)))])) () SU KE
  have h57' : ¬ (rt : Int) < 1 := by simpa using h57
  have h60' : ¬ (rt : Int) > 3 := by simpa using h60
  refine J_skip <| Q_then <| J_slot (t := 12) (v := .int .i64 (wantP (pg : Int) (rt : Int))) rfl (by rw [show wantP (pg : Int) (rt : Int) = (if (pg : Int) < 2 then -3 else 0) from if_neg (by omega)]) ?_
  exact J_at (L := (fun _ : Unit => [coA g.p S1, old W])) (G := (fun _ : Unit => [(0, .int .i64 (pg : Int)), (1, .int .i64 (rt : Int)), (2, .bool del), (7, .bool true), (8, .pointer (some ⟨g.p, 0, none⟩)), (12, .int .i64 (wantP (pg : Int) (rt : Int)))])) () SU KE
  intro _
  refine sr <| mv rfl rfl <| L_op <| xc fc16 (.cons rfl .nil) rfl (slotC (k := 11) (by omega)) fun _ => mv rfl rfl <| L_pur rfl (p_conv rfl Tryz.underlying3 Tryz.underlying22) <| J_slot (t := 65) (v := .int .u32 ((pg : Int))) rfl (by rw [wrap32u_of (by omega)]) <| mv rfl rfl ?_
  refine L_pur rfl (p_conv rfl Tryz.underlying3 Tryz.underlying22) <| J_slot (t := 67) (v := .int .u32 ((rt : Int))) rfl (by rw [wrap32u_of (by omega)]) <| L_pur rfl (bld31 (.cons rfl (.cons rfl (.cons rfl (.cons rfl .nil)))) (by repeat constructor)) <| L_op <| xc fc15 (.cons rfl (.cons rfl (.cons rfl .nil))) rfl (coAskG (s := S1) (g := 4) (e := (eMap pg rt)) (N := 41) (M := 61) PC W1 (by omega) (by omega) sqeOk_mk (tk_is (chk_is (F1 0)).1 (by omega)) (chk_is (F1 0)).2.1 (fun q T hq hG hE => doesC8 hG hE (by rw [hq]))) fun b2 => ?_
  refine J_slot (t := 69) (v := .tuple #[.int .i64 (wantP (pg : Int) (rt : Int)), .int .u32 0, .bool true]) rfl (by rw [(chk_is (F1 b2)).2.2]) ?_
  obtain ⟨S2, hS2⟩ : ∃ S : KS, S = (pg2 g b1 b2 pg rt) := ⟨_, rfl⟩
  refine J_pick (A := coA g.p _) PC ?_
  refine J_asTo (B := coA g.p S2) (by rw [hS2, hS1]; rfl) ?_
  have W2 : Well S2 42 62 := by
    have h := W1.ask (by omega) (by omega) 4 sqeOk_mk b2 (e := (eMap pg rt))
    rw [hS1] at h
    rw [hS2]; exact h
  have F2 := fun b3 b4 => (F b1 b2 b3 b4).2
  clear F FA
  refine mv rfl rfl <| L_pur rfl (p_extract rfl rfl) <| L_pur rfl (p_extract rfl rfl) <| L_pur rfl (p_extract rfl rfl) <| ag rfl rfl <| ag rfl rfl <| ag rfl rfl <| nxx ?_
  refine mv rfl rfl <| L_pur rfl (p_not rfl) <| mv rfl rfl <| J_bool (t := 75) (c := false) rfl (rfl) <| L_op <| G_on rfl rfl rfl <| J_pur (p_move rfl) rfl rfl rfl <| L_op <| G_on rfl rfl rfl ?_
  refine J_pur (p_move rfl) rfl rfl rfl <| L_op <| G_on rfl rfl rfl <| J_pur (p_neq rfl rfl) rfl rfl rfl <| J_slot (t := 78) (v := .bool false) rfl (by first | rfl | (congr 1; simp; done) | (simp; done)) <| L_pur rfl (p_pick_f rfl rfl) <| nq <| J_bool (t := 79) (c := false) rfl (rfl) ?_
  refine C_false rfl <| J_skip <| qx <| mv rfl rfl <| L_pur rfl (bld85 (.cons rfl (.cons rfl .nil)) (by repeat constructor)) <| L_op <| x_alloc ty85 rfl fun b16 => L_op <| x_store rfl rfl ty85 rfl SM SM RO PT ?_
  refine J_pick (A := blk b16 _ _) PC ?_
  refine J_asTo (B := blk b16 85 (encI (3, (pg : Int)))) (by rfl) <| nxx <| mv rfl rfl <| L_pur rfl (p_neq rfl rfl) <| nq ?_
  refine C_split rfl (fun h83 => ?_) (fun h83 => ?_)
  have hw : wantP (pg : Int) (rt : Int) ≠ 0 := by simpa using h83
  have FB := F2 0 0
  rw [if_pos hw] at FB
  have FB2 : (KS.mp S2).length = 2 := by rw [hS2]; exact of_decide_eq_true FB
  clear F2 FB
  refine sr <| mv rfl rfl <| mv rfl rfl <| J_bool (t := 85) (c := true) rfl (rfl) <| L_op <| G_on rfl rfl rfl <| J_pur (p_move rfl) rfl rfl rfl <| L_op <| G_on rfl rfl rfl ?_
  refine xc fc38 (.cons rfl .nil) rfl (coMaps) fun _ => L_op <| G_on rfl rfl rfl <| xc fc39 (.cons rfl .nil) rfl (coSpAll (s := S2) PC (by omega)) <| JR fun a88 c88 hw88 hl88 hm88 hz88 => L_op <| G_on rfl rfl rfl <| J_pur (p_len rfl Tryz.underlying86) rfl rfl rfl ?_
  refine J_slot (t := 89) (v := .int .i64 2) rfl (by rw [List.length_map, sortP_len, List.length_map, FB2]; rfl) <| L_op <| G_on rfl rfl rfl <| J_pur (p_eql rfl rfl) rfl rfl rfl <| L_pur rfl (p_pick_t rfl rfl) <| ag rfl rfl <| nq <| J_ret ?_
  refine Q_then_ret ?_
  refine J_return (()) Tryz.results9 (.tmp rfl .nil) ?_ ?_
  · first | rfl | simp [one]
  · exact SU
  have hw : ¬ wantP (pg : Int) (rt : Int) ≠ 0 := by simpa using h83
  have FC := fun b3 b4 => F2 b3 b4
  simp only [if_neg hw] at FC
  unfold pgC at FC
  simp only [Bool.and_eq_true, decide_eq_true_eq] at FC
  rw [← hS2] at FC
  clear F2
  have hk1 : look (KS.mp S2) (3, (pg : Int)) = some (8, (rt : Int)) := (FC 0 0).1.1.1.1
  refine J_skip <| Q_then ?_
  refine J_cut (α := Nat) (fun b17 : Nat => [blk b17 91 (encI (8, (rt : Int))), blk b16 85 (encI (3, (pg : Int))), coA g.p S2, old W]) (fun b17 : Nat => [(0, .int .i64 (pg : Int)), (1, .int .i64 (rt : Int)), (2, .bool del), (7, .bool true), (8, .pointer (some ⟨g.p, 0, none⟩)), (16, .pointer (some ⟨b16, 0, none⟩)), (17, .pointer (some ⟨b17, 0, none⟩)), (18, .bool true)]) ?_ ?_
  refine J_drawL none mixed <| ip 0 rfl rfl rfl rfl (p_move rfl) <| iv 2 rfl rfl rfl rfl (fun _ => v_loadA rfl ty85 HS CT) ?_
  refine I_ready (rs := [1, 7]) SI (by kernel_rfl) (by simp) ?_
  refine (I_cons rfl ?_ (I_cons rfl ?_ I_nil))
  refine xc fc38 (.cons rfl .nil) rfl (coMaps) fun _ => I_ready (rs := [3, 7]) SI (by kernel_rfl) (by simp) ?_
  refine (I_cons rfl ?_ (I_cons rfl ?_ I_nil))
  refine xc fc40 (.cons rfl (.cons rfl .nil)) rfl (coSpGet (s := S2) (a := (3, (pg : Int))) PC) fun _ => ?_
  refine ip 4 rfl rfl rfl rfl (p_move rfl) <| ip 5 rfl rfl rfl rfl (p_extract rfl rfl) <| ip 6 rfl rfl rfl rfl (p_extract rfl rfl) <| i1 7 rfl <| x_alloc ty91 rfl fun b17 => i1 8 rfl <| x_store rfl rfl ty91 rfl SM SM RO PT ?_
  refine J_pick (A := blk b17 _ _) PC ?_
  refine J_asTo (B := blk b17 91 (encI (8, (rt : Int)))) (by rw [hk1]; rfl) <| ip 9 rfl rfl rfl rfl (p_assign rfl) <| i0 <| Q_then <| J_slot (t := 18) (v := .bool true) rfl (by rw [hk1]; rfl) ?_
  exact J_at (L := (fun b17 : Nat => [blk b17 91 (encI (8, (rt : Int))), blk b16 85 (encI (3, (pg : Int))), coA g.p S2, old W])) (G := (fun b17 : Nat => [(0, .int .i64 (pg : Int)), (1, .int .i64 (rt : Int)), (2, .bool del), (7, .bool true), (8, .pointer (some ⟨g.p, 0, none⟩)), (16, .pointer (some ⟨b16, 0, none⟩)), (17, .pointer (some ⟨b17, 0, none⟩)), (18, .bool true)])) b17 SU KE
  refine x_alloc ty91 rfl fun b17 => i1 3 rfl <| xc fc40 (.cons rfl (.cons rfl .nil)) rfl (coSpGet (s := S2) (a := (3, (pg : Int))) PC) fun _ => ?_
  refine ip 4 rfl rfl rfl rfl (p_move rfl) <| ip 5 rfl rfl rfl rfl (p_extract rfl rfl) <| ip 6 rfl rfl rfl rfl (p_extract rfl rfl) <| i1 8 rfl <| x_store rfl rfl ty91 rfl SM SM RO PT ?_
  refine J_pick (A := blk b17 _ _) PC ?_
  refine J_asTo (B := blk b17 91 (encI (8, (rt : Int)))) (by rw [hk1]; rfl) <| ip 9 rfl rfl rfl rfl (p_assign rfl) <| i0 <| Q_then <| J_slot (t := 18) (v := .bool true) rfl (by rw [hk1]; rfl) ?_
  exact J_at (L := (fun b17 : Nat => [blk b17 91 (encI (8, (rt : Int))), blk b16 85 (encI (3, (pg : Int))), coA g.p S2, old W])) (G := (fun b17 : Nat => [(0, .int .i64 (pg : Int)), (1, .int .i64 (rt : Int)), (2, .bool del), (7, .bool true), (8, .pointer (some ⟨g.p, 0, none⟩)), (16, .pointer (some ⟨b16, 0, none⟩)), (17, .pointer (some ⟨b17, 0, none⟩)), (18, .bool true)])) b17 SU KE
  refine x_alloc ty91 rfl fun b17 => i1 1 rfl <| xc fc38 (.cons rfl .nil) rfl (coMaps) fun _ => i1 3 rfl <| xc fc40 (.cons rfl (.cons rfl .nil)) rfl (coSpGet (s := S2) (a := (3, (pg : Int))) PC) fun _ => ?_
  refine ip 4 rfl rfl rfl rfl (p_move rfl) <| ip 5 rfl rfl rfl rfl (p_extract rfl rfl) <| ip 6 rfl rfl rfl rfl (p_extract rfl rfl) <| i1 8 rfl <| x_store rfl rfl ty91 rfl SM SM RO PT ?_
  refine J_pick (A := blk b17 _ _) PC ?_
  refine J_asTo (B := blk b17 91 (encI (8, (rt : Int)))) (by rw [hk1]; rfl) <| ip 9 rfl rfl rfl rfl (p_assign rfl) <| i0 <| Q_then <| J_slot (t := 18) (v := .bool true) rfl (by rw [hk1]; rfl) ?_
  exact J_at (L := (fun b17 : Nat => [blk b17 91 (encI (8, (rt : Int))), blk b16 85 (encI (3, (pg : Int))), coA g.p S2, old W])) (G := (fun b17 : Nat => [(0, .int .i64 (pg : Int)), (1, .int .i64 (rt : Int)), (2, .bool del), (7, .bool true), (8, .pointer (some ⟨g.p, 0, none⟩)), (16, .pointer (some ⟨b16, 0, none⟩)), (17, .pointer (some ⟨b17, 0, none⟩)), (18, .bool true)])) b17 SU KE
  intro b17
  refine J_seq <| sr <| mv rfl rfl <| L_pur rfl (p_not rfl) <| mv rfl rfl <| J_bool (t := 101) (c := false) rfl (rfl) <| L_op <| G_on rfl rfl rfl ?_
  refine J_val (v_loadA rfl ty91 HS CT) rfl rfl rfl ?_
  refine L_op <| G_on rfl rfl rfl <| J_pur (p_move rfl) rfl rfl rfl <| L_op <| G_on rfl rfl rfl <| J_pur (bld91 (.cons rfl (.cons rfl .nil)) (by repeat constructor)) rfl rfl rfl <| L_op <| G_on rfl rfl rfl ?_
  refine J_pur (p_nev rfl rfl (fun w => eg91 _ _ _ _ _ w) (fun w => nev91 _ _ _ _ w)) rfl rfl rfl <| J_slot (t := 105) (v := .bool false) rfl (by first | rfl | (congr 1; simp; done) | (simp; done)) <| L_pur rfl (p_pick_f rfl rfl) <| nq <| J_bool (t := 106) (c := false) rfl (rfl) <| C_false rfl <| J_skip <| qx ?_
  refine mv rfl rfl <| L_pur rfl (p_conv rfl Tryz.underlying3 Tryz.underlying22) <| J_slot (t := 108) (v := .int .u32 ((pg : Int))) rfl (by rw [wrap32u_of (by omega)]) <| L_pur rfl (bld31 (.cons rfl (.cons rfl .nil)) (by repeat constructor)) <| L_op <| x_alloc ty31 rfl fun b19 => L_op <| x_store rfl rfl ty31 rfl SM SM RO PT ?_
  refine nq ?_
  refine J_cut (α := Unit) (fun _ : Unit => [blk b19 31 [.int .i64 (eOff pg del).op, .int .i64 (eOff pg del).flags, .int .u32 (eOff pg del).tag, .int .u32 (eOff pg del).cap, .int .u32 (eOff pg del).a, .int .u32 (eOff pg del).b, .int .u32 (eOff pg del).c, .int .u32 (eOff pg del).time], blk b16 85 (encI (3, (pg : Int))), coA g.p S2, old W]) (fun _ : Unit => [(0, .int .i64 (pg : Int)), (1, .int .i64 (rt : Int)), (7, .bool true), (8, .pointer (some ⟨g.p, 0, none⟩)), (16, .pointer (some ⟨b16, 0, none⟩)), (19, .pointer (some ⟨b19, 0, none⟩))]) ?_ ?_
  refine sr <| mv rfl rfl <| nq ?_
  refine C_split rfl (fun h110 => ?_) (fun h110 => ?_)
  refine J_region <| L_op <| xc fc16 (.cons rfl .nil) rfl (slotC (k := 11) (by omega)) fun _ => L_pur rfl (bld31 (.cons rfl (.cons rfl .nil)) (by repeat constructor)) <| L_op <| x_store rfl rfl ty31 rfl SM SM RO PT ?_
  refine nq <| J_pick (A := blk b19 _ _) PC ?_
  refine J_asTo (B := blk b19 31 [.int .i64 (eOff pg del).op, .int .i64 (eOff pg del).flags, .int .u32 (eOff pg del).tag, .int .u32 (eOff pg del).cap, .int .u32 (eOff pg del).a, .int .u32 (eOff pg del).b, .int .u32 (eOff pg del).c, .int .u32 (eOff pg del).time]) (by rw [h110]; rfl) ?_
  exact J_at (L := (fun _ : Unit => [blk b19 31 [.int .i64 (eOff pg del).op, .int .i64 (eOff pg del).flags, .int .u32 (eOff pg del).tag, .int .u32 (eOff pg del).cap, .int .u32 (eOff pg del).a, .int .u32 (eOff pg del).b, .int .u32 (eOff pg del).c, .int .u32 (eOff pg del).time], blk b16 85 (encI (3, (pg : Int))), coA g.p S2, old W])) (G := (fun _ : Unit => [(0, .int .i64 (pg : Int)), (1, .int .i64 (rt : Int)), (7, .bool true), (8, .pointer (some ⟨g.p, 0, none⟩)), (16, .pointer (some ⟨b16, 0, none⟩)), (19, .pointer (some ⟨b19, 0, none⟩))])) () SU KE
  refine J_skip <| Q_then <| J_pick (A := blk b19 _ _) PC ?_
  refine J_asTo (B := blk b19 31 [.int .i64 (eOff pg del).op, .int .i64 (eOff pg del).flags, .int .u32 (eOff pg del).tag, .int .u32 (eOff pg del).cap, .int .u32 (eOff pg del).a, .int .u32 (eOff pg del).b, .int .u32 (eOff pg del).c, .int .u32 (eOff pg del).time]) (by rw [h110]; rfl) ?_
  exact J_at (L := (fun _ : Unit => [blk b19 31 [.int .i64 (eOff pg del).op, .int .i64 (eOff pg del).flags, .int .u32 (eOff pg del).tag, .int .u32 (eOff pg del).cap, .int .u32 (eOff pg del).a, .int .u32 (eOff pg del).b, .int .u32 (eOff pg del).c, .int .u32 (eOff pg del).time], blk b16 85 (encI (3, (pg : Int))), coA g.p S2, old W])) (G := (fun _ : Unit => [(0, .int .i64 (pg : Int)), (1, .int .i64 (rt : Int)), (7, .bool true), (8, .pointer (some ⟨g.p, 0, none⟩)), (16, .pointer (some ⟨b16, 0, none⟩)), (19, .pointer (some ⟨b19, 0, none⟩))])) () SU KE
  intro _
  have hEo : SqeOk (eOff pg del) := by cases del <;> exact sqeOk_mk
  refine sr <| mv rfl rfl <| L_val rfl (v_loadA rfl ty31 HS CT) ?_
  refine L_op (xc fc15 (.cons rfl (.cons rfl (.cons rfl .nil))) rfl (coAskG (s := S2) (g := 4) (e := (eOff pg del)) (N := 42) (M := 62) PC W2 (by omega) (by omega) hEo (tk_is (chk_is ((fun b => (FC b 0).1.1.1.2) 0)).1 (by omega)) (chk_is ((fun b => (FC b 0).1.1.1.2) 0)).2.1 (fun q T hq hG hE => by
      cases del
      · exact doesC9 hG hE (by rw [hq]; rfl)
      · exact doesC5 hG hE (by rw [hq]; rfl))) fun b3 => ?_)
  refine J_slot (t := 116) (v := .tuple #[.int .i64 0, .int .u32 0, .bool true]) rfl (by rw [(chk_is ((fun b => (FC b 0).1.1.1.2) b3)).2.2]) ?_
  obtain ⟨S3, hS3⟩ : ∃ S : KS, S = (pg3 g b1 b2 b3 pg rt del) := ⟨_, rfl⟩
  refine J_pick (A := coA g.p _) PC ?_
  refine J_asTo (B := coA g.p S3) (by rw [hS3, hS2]; rfl) ?_
  have W3 : Well S3 43 63 := by
    have h := W2.ask (by omega) (by omega) 4 hEo b3 (e := (eOff pg del))
    rw [hS2] at h
    rw [hS3]; exact h
  have FD := fun b => FC b3 b
  rw [← hS3] at FD
  clear FC
  have hk3 : look (KS.mp S3) (3, (pg : Int)) = none := (FD 0).1.1.2
  refine mv rfl rfl <| L_pur rfl (p_extract rfl rfl) <| L_pur rfl (p_extract rfl rfl) <| L_pur rfl (p_extract rfl rfl) <| ag rfl rfl <| ag rfl rfl <| ag rfl rfl <| nq ?_
  refine J_cut (α := Unit) (fun _ : Unit => [blk b16 85 (encI (3, (pg : Int))), coA g.p S3, old W]) (fun _ : Unit => [(0, .int .i64 (pg : Int)), (7, .bool true), (8, .pointer (some ⟨g.p, 0, none⟩)), (16, .pointer (some ⟨b16, 0, none⟩)), (20, .int .i64 0), (22, .bool true), (24, .bool false)]) ?_ ?_
  refine J_drawL none mixed <| ip 0 rfl rfl rfl rfl (p_move rfl) <| iv 2 rfl rfl rfl rfl (fun _ => v_loadA rfl ty85 HS CT) ?_
  refine I_ready (rs := [1, 7]) SI (by kernel_rfl) (by simp) ?_
  refine (I_cons rfl ?_ (I_cons rfl ?_ I_nil))
  refine xc fc38 (.cons rfl .nil) rfl (coMaps) fun _ => I_ready (rs := [3, 7]) SI (by kernel_rfl) (by simp) ?_
  refine (I_cons rfl ?_ (I_cons rfl ?_ I_nil))
  refine xc fc40 (.cons rfl (.cons rfl .nil)) rfl (coSpGet (s := S3) (a := (3, (pg : Int))) PC) fun _ => ?_
  refine ip 4 rfl rfl rfl rfl (p_move rfl) <| ip 5 rfl rfl rfl rfl (p_extract rfl rfl) <| ip 6 rfl rfl rfl rfl (p_extract rfl rfl) <| J_slot (t := 126) (v := .bool false) rfl (by rw [hk3]; rfl) <| i1 7 rfl <| x_alloc ty91 rfl fun b23 => i1 8 rfl <| x_store rfl rfl ty91 rfl SM SM RO PT ?_
  refine ip 9 rfl rfl rfl rfl (p_assign rfl) <| i0 <| Q_then ?_
  exact J_at (L := (fun _ : Unit => [blk b16 85 (encI (3, (pg : Int))), coA g.p S3, old W])) (G := (fun _ : Unit => [(0, .int .i64 (pg : Int)), (7, .bool true), (8, .pointer (some ⟨g.p, 0, none⟩)), (16, .pointer (some ⟨b16, 0, none⟩)), (20, .int .i64 0), (22, .bool true), (24, .bool false)])) () SU KE
  refine x_alloc ty91 rfl fun b23 => i1 3 rfl <| xc fc40 (.cons rfl (.cons rfl .nil)) rfl (coSpGet (s := S3) (a := (3, (pg : Int))) PC) fun _ => ?_
  refine ip 4 rfl rfl rfl rfl (p_move rfl) <| ip 5 rfl rfl rfl rfl (p_extract rfl rfl) <| ip 6 rfl rfl rfl rfl (p_extract rfl rfl) <| J_slot (t := 126) (v := .bool false) rfl (by rw [hk3]; rfl) <| i1 8 rfl <| x_store rfl rfl ty91 rfl SM SM RO PT ?_
  refine ip 9 rfl rfl rfl rfl (p_assign rfl) <| i0 <| Q_then ?_
  exact J_at (L := (fun _ : Unit => [blk b16 85 (encI (3, (pg : Int))), coA g.p S3, old W])) (G := (fun _ : Unit => [(0, .int .i64 (pg : Int)), (7, .bool true), (8, .pointer (some ⟨g.p, 0, none⟩)), (16, .pointer (some ⟨b16, 0, none⟩)), (20, .int .i64 0), (22, .bool true), (24, .bool false)])) () SU KE
  refine x_alloc ty91 rfl fun b23 => i1 1 rfl <| xc fc38 (.cons rfl .nil) rfl (coMaps) fun _ => i1 3 rfl <| xc fc40 (.cons rfl (.cons rfl .nil)) rfl (coSpGet (s := S3) (a := (3, (pg : Int))) PC) fun _ => ?_
  refine ip 4 rfl rfl rfl rfl (p_move rfl) <| ip 5 rfl rfl rfl rfl (p_extract rfl rfl) <| ip 6 rfl rfl rfl rfl (p_extract rfl rfl) <| J_slot (t := 126) (v := .bool false) rfl (by rw [hk3]; rfl) <| i1 8 rfl <| x_store rfl rfl ty91 rfl SM SM RO PT ?_
  refine ip 9 rfl rfl rfl rfl (p_assign rfl) <| i0 <| Q_then ?_
  exact J_at (L := (fun _ : Unit => [blk b16 85 (encI (3, (pg : Int))), coA g.p S3, old W])) (G := (fun _ : Unit => [(0, .int .i64 (pg : Int)), (7, .bool true), (8, .pointer (some ⟨g.p, 0, none⟩)), (16, .pointer (some ⟨b16, 0, none⟩)), (20, .int .i64 0), (22, .bool true), (24, .bool false)])) () SU KE
  intro _
  refine sr <| mv rfl rfl <| mv rfl rfl <| L_pur rfl (p_conv rfl Tryz.underlying3 Tryz.underlying22) <| J_slot (t := 130) (v := .int .u32 ((pg : Int))) rfl (by rw [wrap32u_of (by omega)]) <| L_pur rfl (bld31 (.cons rfl (.cons rfl .nil)) (by repeat constructor)) <| L_op <| xc fc15 (.cons rfl (.cons rfl (.cons rfl .nil))) rfl (coAskG (s := S3) (g := 4) (e := (eUn pg)) (N := 43) (M := 63) PC W3 (by omega) (by omega) sqeOk_mk (tk_is (chk_is ((fun b => (FD b).1.2) 0)).1 (by omega)) (chk_is ((fun b => (FD b).1.2) 0)).2.1 (fun q T hq hG hE => doesC9 hG hE (by rw [hq]))) fun b4 => ?_
  refine J_slot (t := 132) (v := .tuple #[.int .i64 (-11), .int .u32 0, .bool true]) rfl (by rw [(chk_is ((fun b => (FD b).1.2) b4)).2.2]) ?_
  obtain ⟨S4, hS4⟩ : ∃ S : KS, S = (pg4 g b1 b2 b3 b4 pg rt del) := ⟨_, rfl⟩
  refine J_pick (A := coA g.p _) PC ?_
  refine J_asTo (B := coA g.p S4) (by rw [hS4, hS3]; rfl) ?_
  have W4 : Well S4 44 64 := by
    have h := W3.ask (by omega) (by omega) 4 sqeOk_mk b4 (e := (eUn pg))
    rw [hS3] at h
    rw [hS4]; exact h
  have hk4 : (KS.mp S4).length = 2 := by rw [hS4]; exact (FD b4).2
  clear FD
  refine mv rfl rfl <| L_pur rfl (p_extract rfl rfl) <| L_pur rfl (p_extract rfl rfl) <| L_pur rfl (p_extract rfl rfl) <| ag rfl rfl <| ag rfl rfl <| ag rfl rfl <| nx ?_
  refine mv rfl rfl <| mv rfl rfl <| J_bool (t := 137) (c := true) rfl (rfl) <| L_op <| G_on rfl rfl rfl <| J_pur (p_move rfl) rfl rfl rfl <| L_pur rfl (p_pick_t rfl rfl) <| mv rfl rfl ?_
  refine J_bool (t := 140) (c := true) rfl (rfl) <| L_op <| G_on rfl rfl rfl <| J_pur (p_move rfl) rfl rfl rfl <| L_op <| G_on rfl rfl rfl <| J_pur (p_eql rfl rfl) rfl rfl rfl <| J_slot (t := 142) (v := .bool true) rfl (by first | rfl | (congr 1; simp; done) | (simp; done)) ?_
  refine L_pur rfl (p_pick_t rfl rfl) <| mv rfl rfl <| J_bool (t := 144) (c := true) rfl (rfl) <| L_op <| G_on rfl rfl rfl <| J_pur (p_move rfl) rfl rfl rfl <| L_op <| G_on rfl rfl rfl ?_
  refine J_pur (p_not rfl) rfl rfl rfl <| L_pur rfl (p_pick_t rfl rfl) <| mv rfl rfl <| J_bool (t := 148) (c := true) rfl (rfl) <| L_op <| G_on rfl rfl rfl <| J_pur (p_move rfl) rfl rfl rfl <| L_pur rfl (p_pick_t rfl rfl) ?_
  refine mv rfl rfl <| J_bool (t := 151) (c := true) rfl (rfl) <| L_op <| G_on rfl rfl rfl <| J_pur (p_move rfl) rfl rfl rfl <| L_op <| G_on rfl rfl rfl <| J_pur (p_eql rfl rfl) rfl rfl rfl ?_
  refine J_slot (t := 153) (v := .bool true) rfl (by first | rfl | (congr 1; simp; done) | (simp; done)) <| L_pur rfl (p_pick_t rfl rfl) <| mv rfl rfl <| J_bool (t := 155) (c := true) rfl (rfl) <| L_op <| G_on rfl rfl rfl <| J_pur (p_move rfl) rfl rfl rfl <| L_op <| G_on rfl rfl rfl ?_
  refine xc fc38 (.cons rfl .nil) rfl (coMaps) fun _ => L_op <| G_on rfl rfl rfl <| xc fc39 (.cons rfl .nil) rfl (coSpAll (s := S4) PC (by omega)) <| JR fun a158 c158 hw158 hl158 hm158 hz158 => L_op <| G_on rfl rfl rfl <| J_pur (p_len rfl Tryz.underlying86) rfl rfl rfl ?_
  refine J_slot (t := 159) (v := .int .i64 2) rfl (by rw [List.length_map, sortP_len, List.length_map, hk4]; rfl) <| L_op <| G_on rfl rfl rfl <| J_pur (p_eql rfl rfl) rfl rfl rfl <| L_pur rfl (p_pick_t rfl rfl) <| ag rfl rfl <| nq <| J_ret ?_
  refine J_return (()) Tryz.results9 (.tmp rfl .nil) ?_ ?_
  · first | rfl | simp [one]
  · exact SU

end Go.Pse
