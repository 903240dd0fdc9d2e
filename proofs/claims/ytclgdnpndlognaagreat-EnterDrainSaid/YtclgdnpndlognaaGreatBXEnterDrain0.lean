/-
  Own texts, merged: C100a, C100.
-/
import Derived.Test.YtclgdnpndlognaaGreatBC4
set_option linter.unusedVariables false
set_option linter.unusedSimpArgs false
namespace Go.Pse
open Go.RowKit Go.Proofs

/-! ### plain: a drain, reckoned -/
abbrev nopE (i : Nat) : Sqe := ⟨1, 0, (i : Int), 0, 0, 0, 0, 0⟩
abbrev slE : Sqe := ⟨19, 0, 0, 0, 0, 0, 0, 5⟩
def drE (n c : Nat) : List Sqe := (((List.range n).map nopE).set 0 slE).set c { nopE c with flags := 4 }
def pD : Sqe → Bool := fun e => decide (e.op = 1) || decide (e.op = 19)
def dr1 (g : NewG) (n c : Nat) (β : Nat → Nat) : KS := (kEnter (laidS g (drE n c)) 2 20 β).1
def dr2 (g : NewG) (n c : Nat) (β γ : Nat → Nat) : KS := (kEnter (dr1 g n c β) 2 20 γ).1
def dr3 (g : NewG) (n c : Nat) (β γ : Nat → Nat) : KS := (kExpire (kPass (dr2 g n c β γ) 4)).1
def dr4 (g : NewG) (n c : Nat) (β γ : Nat → Nat) : KS := (kExpire (kPass (dr3 g n c β γ) 1)).1
def dr5 (g : NewG) (n c : Nat) (β γ δ : Nat → Nat) : KS := (kRunN 4 δ 1 0 (dr4 g n c β γ)).1
def jnA (s : KS) (k : Nat) : Option (Int × Int) := (s.jn[k]?).map fun d => (d.2.1, d.2.2.2.1)
def drOk (g : NewG) (n c : Nat) (β γ δ : Nat → Nat) : Bool := entOk pD (laidS g (drE n c)) 2 20 && (decide ((kEnter (laidS g (drE n c)) 2 20 β).2 = n) && (decide ((dr1 g n c β).jn.length = n - 2) && (decide ((ofQ (dr1 g n c β).rt 4).length = 2) && (entOk pD (dr1 g n c β) 2 20 && (decide ((kEnter (dr1 g n c β) 2 20 γ).2 = 0) && (decide ((ofQ (dr2 g n c β γ).rt 4).length = 2) && (decide ((kExpire (kPass (dr2 g n c β γ) 4)).2 = 0) && (decide ((kExpire (kPass (dr3 g n c β γ) 1)).2 = 1) && (decide ((ofQ (dr4 g n c β γ).rt 4).length = 1) && (decide ((kRunN 4 δ 1 0 (dr4 g n c β γ)).2 = 1) && (decide ((dr5 g n c β γ δ).jn.length = n) && (decide (jnA (dr5 g n c β γ δ) (n - 2) = some (0, 0)) && (decide (jnA (dr5 g n c β γ δ) (n - 1) = some ((c : Int), 0)))))))))))))))
set_option maxRecDepth 100000 in
theorem dr_all (g : NewG) (β γ δ : Nat → Nat) : ((List.range 6).all fun a => (List.range (a + 1)).all fun b => drOk g (a + 2) (b + 1) β γ δ) = true := by kernel_rfl
theorem dr_ok (g : NewG) (β γ δ : Nat → Nat) {n c : Nat} (h1 : 2 ≤ n ∧ n ≤ 7) (h2 : 1 ≤ c ∧ c < n) : drOk g n c β γ δ = true := by
  have h := all_range (all_range (dr_all g β γ δ) (k := n - 2) (by omega)) (k := c - 1) (by omega)
  rw [show n - 2 + 2 = n by omega, show c - 1 + 1 = c by omega] at h
  exact h
end Go.Pse
namespace Go.Pse
open Go.RowKit Go.Proofs

theorem drE_len (n c : Nat) : (drE n c).length = n := by unfold drE; simp
theorem jnA_is {s : KS} {k : Nat} {x : Int × Int} (h : jnA s k = some x) : ∃ d, s.jn[k]? = some d ∧ d.2.1 = x.1 ∧ d.2.2.2.1 = x.2 := by
  unfold jnA at h
  obtain ⟨d, h1, h2⟩ := Option.map_eq_some_iff.1 h
  exact ⟨d, h1, by rw [← h2], by rw [← h2]⟩
theorem dOps : ∀ (s : KS) (N M : Nat) (q : Rq) (T : Th) (i : ID), Good s N M → SqeOk q.e → pD q.e = true → DoesC s T q i := fun s N M q T i hG hE h => by
  unfold pD at h
  rw [Bool.or_eq_true, decide_eq_true_eq, decide_eq_true_eq] at h
  rcases h with h | h
  · exact doesC1 hG hE h
  · exact doesC19 hG hE h
theorem dr_row {n c : Nat} (h : 1 ≤ c ∧ c < n) : ((((List.range n).map nopE).map encSq).set 0 (encSq slE))[c]? = some (encSq (nopE c)) := by
  rw [List.getElem?_set_ne (by omega), List.getElem?_map, List.getElem?_map, List.getElem?_range h.2]; rfl
set_option maxRecDepth 100000 in
set_option maxHeartbeats 4000000 in
theorem enterDrain {E W : World} {x y : Int} :
    Con Tryz.prog 12 #[.int .i64 x, .int .i64 y] E [old W] (fun _ : Unit => .bool true) (fun _ => [old W]) := by
  refine Con.body (vs := [.int .i64 x, .int .i64 y]) (n := 145) Tryz.func12 rfl rfl [(0, .int .i64 x), (1, .int .i64 y)] (env_ok 2 rfl) <| sr <| ag rfl rfl <| nx <| L_op <| xc fc36 .nil rfl (first26) fun _ => ag rfl rfl <| nxx ?_
  refine mv rfl rfl <| L_pur rfl (p_not rfl) <| nq <| J_bool (t := 12) (c := false) rfl (rfl) <| C_false rfl <| J_skip <| qx <| mv rfl rfl ?_
  refine L_op <| xc fc27 (.cons rfl (.cons rfl .nil)) rfl (number (by omega) (by omega)) fun _ => L_pur rfl (p_add64 rfl rfl (by have := num_lt (x := x) (b := 6) (by omega); omega)) ?_
  obtain ⟨n, hn0⟩ : ∃ n, n = 2 + num x 6 := ⟨_, rfl⟩
  have hn : 2 ≤ n ∧ n ≤ 7 := by have := num_lt (x := x) (b := 6) (by omega); omega
  refine J_slot (t := 15) (v := .int .i64 (n : Int)) rfl (by congr 1; omega) <| ag rfl rfl <| nx <| mv rfl rfl <| mv rfl rfl <| L_pur rfl (p_sub64 rfl rfl (by omega)) <| L_op <| xc fc27 (.cons rfl (.cons rfl .nil)) rfl (number (by omega) (by omega)) fun _ => ?_
  refine L_pur rfl (p_add64 rfl rfl (by have := num_lt (x := y) (b := (n : Int) - 1) (by omega); omega)) ?_
  obtain ⟨c, hc0⟩ : ∃ c, c = 1 + num y ((n : Int) - 1) := ⟨_, rfl⟩
  have hc : 1 ≤ c ∧ c < n := by have := num_lt (x := y) (b := (n : Int) - 1) (by omega); omega
  refine J_slot (t := 20) (v := .int .i64 (c : Int)) rfl (by congr 1; omega) ?_
  have F := fun g β γ δ => dr_ok g β γ δ hn hc
  unfold drOk at F
  simp only [Bool.and_eq_true, decide_eq_true_eq] at F
  refine ag rfl rfl <| nx <| ag rfl rfl <| nxx <| ag rfl rfl <| nq <| J_block <| J_nil (el := 34) (sz := 8) ?_
  refine J_rowEq (ys := (((List.range 0).map nopE).map encSq)) (by rfl) <| J_loop2 (fun k v => k ≤ n) (fun k v => [row 34 8 v (((List.range k).map nopE).map encSq), old W]) (fun k v => [(7, .int .i64 (k : Int)), (6, v), (0, .int .i64 (n : Int)), (1, .int .i64 (c : Int)), (5, .bool true)]) (fun k v => n - k) 0 _ (by omega) SU KE ?_
  intro k v hk
  refine J_seq <| sr <| mv rfl rfl <| mv rfl rfl <| L_pur rfl (p_lss rfl rfl) <| nq ?_
  refine C_dec rfl (fun h23 => ?_) (fun h23 => ?_)
  have hlt : k < n := by simpa using h23
  refine J_skip <| Q_then <| J_seq <| J_block <| J_region <| mv rfl rfl <| mv rfl rfl <| L_pur rfl (p_conv rfl Tryz.underlying3 Tryz.underlying22) ?_
  refine J_slot (t := 28) (v := .int .u32 (k : Int)) rfl (by rw [wrap32u_of (by omega)]) <| L_pur rfl (bld34 (.cons rfl (.cons rfl .nil)) (by repeat constructor)) <| L_op <| x_lit (vals := [_]) Tryz.underlying54 ty34 rfl (.cons rfl .nil) (.agg .nil) (Wf.cons rfl rfl Wf.nil) rfl (by decide) rfl rfl <| JE ([encSq (nopE k)]) (by rfl) fun a30 c30 hw30 hl30 hm30 hz30 => L_op <| x_app rfl rfl Tryz.underlying54 ty34 rfl rfl PC (fun w H => sep_reads HS H) (by simp; omega) (by simp; omega) rfl <| JE ((((List.range (k + 1)).map nopE).map encSq)) (by rw [List.range_succ]; simp) fun a31 c31 hw31 hl31 hm31 hz31 => ?_
  refine ag rfl rfl <| L_nil <| Q_blk_normal <| qr <| mv rfl rfl <| L_pur rfl (p_add64 rfl rfl (by omega)) <| ag rfl rfl <| nq ?_
  exact J_again2 (k + 1) _ (by omega) (by omega) SU KE
  have hkn : k = n := by simp at h23; omega
  refine J_pick (A := row 34 8 v _) PC ?_
  refine J_rowEq (ys := (((List.range n).map nopE).map encSq)) (by rw [hkn]) <| J_row .here fun hwv av cv hvv hlv hmv hzv => ?_
  subst hvv
  obtain ⟨bv, ov, rfl⟩ := hzv (by intro h; have := congrArg List.length h; simp at this; omega)
  refine J_exit <| Q_then_exit <| Q_then_exit <| Q_blk_this <| qx <| mv rfl rfl <| L_pur rfl (bld34 (.cons rfl (.cons rfl (.cons rfl .nil))) (by repeat constructor)) <| L_pur rfl (p_indexAddr rfl rfl Tryz.underlying54 ty34 (by omega) (by simp; omega)) ?_
  refine L_op <| x_storeE rfl rfl ty34 rfl SM SM PC (by simp; omega) ?_
  refine J_rowEq (ys := (((List.range n).map nopE).map encSq).set 0 (encSq slE)) (by rfl) <| nx <| mv rfl rfl <| mv rfl rfl <| L_pur rfl (p_indexAddr rfl rfl Tryz.underlying54 ty34 (by omega) (by simp; omega)) <| fa rfl rfl fa34_1 <| L_op <| x_storeF rfl rfl ty3 rfl rfl PC (dr_row hc) rfl ?_
  refine J_rowEq (ys := (drE n c).map encSq) (by unfold drE; rw [List.map_set, List.map_set]; rfl) <| nx <| mv rfl rfl <| L_op <| xc fc37 (.cons rfl (.cons rfl (.cons rfl .nil))) rfl (laidC (es := drE n c) (by have e : ((((List.range n).map nopE).map encSq)).length = ((drE n c).map encSq).length := by { simp [drE_len] }; rw [e]; exact .here) (by rw [drE_len]; omega)) fun g => ?_
  have IL := laid_inv pD g (drE n c)
  have F0 := F g
  clear F
  unfold dr5 dr4 dr3 dr2 dr1 at F0
  obtain ⟨L, hL⟩ : ∃ L, L = laidS g (drE n c) := ⟨_, rfl⟩
  rw [← hL] at IL F0
  refine J_pick (A := coA g.p _) PC ?_
  refine J_asTo (B := coA g.p L) (by rw [hL]) <| ag rfl rfl <| nxx <| mv rfl rfl <| L_pur rfl (p_eqNilPtr Tryz.underlying24 rfl) <| mv rfl rfl <| J_bool (t := 43) (c := false) rfl (rfl) <| L_op <| G_on rfl rfl rfl ?_
  refine J_pur (p_move rfl) rfl rfl rfl <| L_op <| G_on rfl rfl rfl <| xc fc42 (.cons rfl (.cons rfl (.cons rfl .nil))) rfl (coEnterP (s := L) (p := pD) (t := 2) (n := 20) (N := 40) (M := 60) PC IL (F0 (fun _ => 0) (fun _ => 0) (fun _ => 0)).1 (by omega) (by omega) dOps) fun b1 => ?_
  refine J_slot (t := 45) (v := .int .i64 (n : Int)) rfl (by rw [(F0 b1 (fun _ => 0) (fun _ => 0)).2.1]) ?_
  obtain ⟨S1, hS1⟩ : ∃ S, S = (kEnter L 2 20 b1).1 := ⟨_, rfl⟩
  refine J_pick (A := coA g.p _) PC ?_
  refine J_asTo (B := coA g.p S1) (by rw [hS1]) ?_
  have I1 : EInv pD S1 140 69 := by rw [hS1]; exact IL.enter (F0 (fun _ => 0) (fun _ => 0) (fun _ => 0)).1 (by omega) (by omega) b1
  have F1 := fun γ δ => (F0 b1 γ δ).2.2
  rw [← hS1] at F1
  clear F0
  refine L_op <| G_on rfl rfl rfl <| J_pur (p_move rfl) rfl rfl rfl <| L_op <| G_on rfl rfl rfl <| J_pur (p_neq rfl rfl) rfl rfl rfl <| L_pur rfl (p_pick_f rfl rfl) <| nq ?_
  refine J_bool (t := 48) (c := false) rfl (by simp) <| C_false rfl <| J_skip <| Q_then <| J_seq <| sr <| mv rfl rfl <| L_op <| xc fc17 (.cons rfl .nil) rfl (coJournal) fun _ => ?_
  refine L_op <| xc fc21 (.cons rfl .nil) rfl (coJAll (s := S1) PC (by have := I1.w.fit.jn; have := I1.w.fit.mm; omega)) <| JR fun a51 c51 hw51 hl51 hm51 hz51 => L_pur rfl (p_len rfl Tryz.underlying40) <| J_slot (t := 52) (v := .int .i64 ((n - 2 : Nat) : Int)) rfl (by rw [List.length_map, (F1 (fun _ => 0) (fun _ => 0)).1]) <| mv rfl rfl <| L_pur rfl (p_sub64 rfl rfl (by omega)) <| L_pur rfl (p_neq rfl rfl) ?_
  refine mv rfl rfl <| J_bool (t := 56) (c := false) rfl (by simp; omega) <| L_op <| G_on rfl rfl rfl <| J_pur (p_move rfl) rfl rfl rfl <| L_op <| G_on rfl rfl rfl <| xc fc16 (.cons rfl .nil) rfl (coReqs) fun _ => ?_
  refine L_op <| G_on rfl rfl rfl <| xc fc23 (.cons rfl (.cons rfl .nil)) rfl (coRqOf (s := S1) (g := 4) PC I1.w.fit.ids (by have := I1.w.fit.jn; have := I1.w.fit.mm; omega)) <| JR fun a59 c59 hw59 hl59 hm59 hz59 => L_op <| G_on rfl rfl rfl <| J_pur (p_len rfl Tryz.underlying46) rfl rfl rfl <| J_slot (t := 60) (v := .int .i64 2) rfl (by rw [List.length_map, (F1 (fun _ => 0) (fun _ => 0)).2.1]; rfl) ?_
  refine L_op <| G_on rfl rfl rfl <| J_pur (p_neq rfl rfl) rfl rfl rfl <| L_pur rfl (p_pick_f rfl rfl) <| mv rfl rfl <| J_bool (t := 63) (c := false) rfl (rfl) <| L_op <| G_on rfl rfl rfl ?_
  refine J_pur (p_move rfl) rfl rfl rfl <| L_op <| G_on rfl rfl rfl <| xc fc42 (.cons rfl (.cons rfl (.cons rfl .nil))) rfl (coEnterP (s := S1) (p := pD) (t := 2) (n := 20) (N := 140) (M := 69) PC I1 (F1 (fun _ => 0) (fun _ => 0)).2.2.1 (by omega) (by omega) dOps) fun b2 => ?_
  refine J_slot (t := 65) (v := .int .i64 0) rfl (by rw [(F1 b2 (fun _ => 0)).2.2.2.1]) ?_
  obtain ⟨S2, hS2⟩ : ∃ S, S = (kEnter S1 2 20 b2).1 := ⟨_, rfl⟩
  refine J_pick (A := coA g.p _) PC ?_
  refine J_asTo (B := coA g.p S2) (by rw [hS2]) ?_
  have I2 : EInv pD S2 240 78 := by rw [hS2]; exact I1.enter (F1 (fun _ => 0) (fun _ => 0)).2.2.1 (by omega) (by omega) b2
  have F2 := fun δ => (F1 b2 δ).2.2.2.2
  rw [← hS2] at F2
  clear F1
  refine L_op <| G_on rfl rfl rfl <| J_pur (p_neq rfl rfl) rfl rfl rfl <| L_pur rfl (p_pick_f rfl rfl) <| mv rfl rfl <| J_bool (t := 68) (c := false) rfl (rfl) <| L_op <| G_on rfl rfl rfl ?_
  refine J_pur (p_move rfl) rfl rfl rfl <| L_op <| G_on rfl rfl rfl <| xc fc16 (.cons rfl .nil) rfl (coReqs) fun _ => L_op <| G_on rfl rfl rfl <| xc fc23 (.cons rfl (.cons rfl .nil)) rfl (coRqOf (s := S2) (g := 4) PC I2.w.fit.ids (by have := I2.w.fit.jn; have := I2.w.fit.mm; omega)) <| JR fun a71 c71 hw71 hl71 hm71 hz71 => ?_
  refine L_op <| G_on rfl rfl rfl <| J_pur (p_len rfl Tryz.underlying46) rfl rfl rfl <| J_slot (t := 72) (v := .int .i64 2) rfl (by rw [List.length_map, (F2 (fun _ => 0)).1]; rfl) <| L_op <| G_on rfl rfl rfl <| J_pur (p_neq rfl rfl) rfl rfl rfl <| L_pur rfl (p_pick_f rfl rfl) ?_
  refine nq <| J_bool (t := 74) (c := false) rfl (rfl) <| C_false rfl <| J_skip <| qx <| mv rfl rfl <| L_op <| xc fc55 (.cons rfl (.cons rfl .nil)) rfl (coPass (s := S2) (n := 4) PC) fun _ => ?_
  obtain ⟨S3, hS3⟩ : ∃ S, S = kPass S2 4 := ⟨_, rfl⟩
  refine J_pick (A := coA g.p _) PC ?_
  refine J_asTo (B := coA g.p S3) (by rw [hS3]) ?_
  have I3 : EInv pD S3 240 78 := by rw [hS3]; exact I2.pass 4
  rw [← hS3] at F2
  refine nxx <| mv rfl rfl <| L_op <| xc fc56 (.cons rfl .nil) rfl (coExpireG (s := S3) PC I3.w) fun _ => ?_
  refine J_slot (t := 78) (v := .int .i64 0) rfl (by rw [(F2 (fun _ => 0)).2.1]; rfl) ?_
  obtain ⟨S4, hS4⟩ : ∃ S, S = (kExpire S3).1 := ⟨_, rfl⟩
  refine J_pick (A := coA g.p _) PC ?_
  refine J_asTo (B := coA g.p S4) (by rw [hS4]) ?_
  have I4 : EInv pD S4 240 78 := by rw [hS4]; exact I3.expire
  rw [← hS4] at F2
  refine L_pur rfl (p_neq rfl rfl) <| nq <| J_bool (t := 79) (c := false) rfl (rfl) <| C_false rfl <| J_skip <| qx <| mv rfl rfl <| L_op <| xc fc55 (.cons rfl (.cons rfl .nil)) rfl (coPass (s := S4) (n := 1) PC) fun _ => ?_
  obtain ⟨S5, hS5⟩ : ∃ S, S = kPass S4 1 := ⟨_, rfl⟩
  refine J_pick (A := coA g.p _) PC ?_
  refine J_asTo (B := coA g.p S5) (by rw [hS5]) ?_
  have I5 : EInv pD S5 240 78 := by rw [hS5]; exact I4.pass 1
  rw [← hS5] at F2
  refine nxx <| mv rfl rfl <| L_op <| xc fc56 (.cons rfl .nil) rfl (coExpireG (s := S5) PC I5.w) fun _ => ?_
  refine J_slot (t := 83) (v := .int .i64 1) rfl (by rw [(F2 (fun _ => 0)).2.2.1]; rfl) ?_
  obtain ⟨S6, hS6⟩ : ∃ S, S = (kExpire S5).1 := ⟨_, rfl⟩
  refine J_pick (A := coA g.p _) PC ?_
  refine J_asTo (B := coA g.p S6) (by rw [hS6]) ?_
  have I6 : EInv pD S6 240 78 := by rw [hS6]; exact I5.expire
  rw [← hS6] at F2
  refine L_pur rfl (p_neq rfl rfl) <| mv rfl rfl <| J_bool (t := 85) (c := false) rfl (rfl) <| L_op <| G_on rfl rfl rfl <| J_pur (p_move rfl) rfl rfl rfl <| L_op <| G_on rfl rfl rfl ?_
  refine xc fc16 (.cons rfl .nil) rfl (coReqs) fun _ => L_op <| G_on rfl rfl rfl <| xc fc23 (.cons rfl (.cons rfl .nil)) rfl (coRqOf (s := S6) (g := 4) PC I6.w.fit.ids (by have := I6.w.fit.jn; have := I6.w.fit.mm; omega)) <| JR fun a88 c88 hw88 hl88 hm88 hz88 => L_op <| G_on rfl rfl rfl <| J_pur (p_len rfl Tryz.underlying46) rfl rfl rfl ?_
  refine J_slot (t := 89) (v := .int .i64 1) rfl (by rw [List.length_map, (F2 (fun _ => 0)).2.2.2.1]; rfl) <| L_op <| G_on rfl rfl rfl <| J_pur (p_neq rfl rfl) rfl rfl rfl <| L_pur rfl (p_pick_f rfl rfl) <| mv rfl rfl <| J_bool (t := 92) (c := false) rfl (rfl) <| L_op <| G_on rfl rfl rfl ?_
  refine J_pur (p_move rfl) rfl rfl rfl <| L_op <| G_on rfl rfl rfl <| xc fc57 (.cons rfl (.cons rfl (.cons rfl .nil))) rfl (coRunP (s := S6) (p := pD) (g := 4) (bud := 1) PC I6 (by omega) (by omega) (by omega) dOps) fun b3 => ?_
  refine J_slot (t := 94) (v := .int .i64 1) rfl (by rw [show (1 : Int).toNat = 1 from rfl, (F2 b3).2.2.2.2.1]; rfl) ?_
  obtain ⟨S7, hS7⟩ : ∃ S, S = (kRunN 4 b3 1 0 S6).1 := ⟨_, rfl⟩
  refine J_pick (A := coA g.p _) PC ?_
  refine J_asTo (B := coA g.p S7) (by rw [hS7]; rfl) ?_
  have I7 : EInv pD S7 241 78 := by rw [hS7]; exact EInv.runN 1 0 I6 (by omega)
  have F3 := (F2 b3).2.2.2.2.2
  rw [← hS7] at F3
  clear F2
  obtain ⟨hj1, hj2, hj3⟩ := F3
  obtain ⟨d1, hd1, hd2, hd3⟩ := jnA_is hj2
  obtain ⟨d2, he1, he2, he3⟩ := jnA_is hj3
  refine L_op <| G_on rfl rfl rfl <| J_pur (p_neq rfl rfl) rfl rfl rfl <| L_pur rfl (p_pick_f rfl rfl) <| nq <| J_bool (t := 96) (c := false) rfl (rfl) <| C_false rfl <| J_skip ?_
  refine qx <| mv rfl rfl <| L_op <| xc fc17 (.cons rfl .nil) rfl (coJournal) fun _ => L_op <| xc fc21 (.cons rfl .nil) rfl (coJAll (s := S7) PC (by have := I7.w.fit.jn; have := I7.w.fit.mm; omega)) <| JR fun a99 c99 hw99 hl99 hm99 hz99 => ?_
  have hml : (S7.jn.map encD).length = S7.jn.length := List.length_map _
  obtain ⟨b9, o9, rfl⟩ := hz99 (by intro h; have := congrArg List.length h; simp at this; rw [this] at hj1; simp at hj1; omega)
  refine ag rfl rfl <| nx <| mv rfl rfl <| mv rfl rfl <| J_bool (t := 101) (c := true) rfl (rfl) <| L_op <| G_on rfl rfl rfl <| J_pur (p_move rfl) rfl rfl rfl ?_
  refine L_op <| G_on rfl rfl rfl <| J_pur (p_len rfl Tryz.underlying40) rfl rfl rfl <| J_slot (t := 103) (v := .int .i64 (n : Int)) rfl (by rw [hml, hj1]) <| L_op <| G_on rfl rfl rfl <| J_pur (p_move rfl) rfl rfl rfl <| L_op <| G_on rfl rfl rfl ?_
  refine J_pur (p_eql rfl rfl) rfl rfl rfl <| J_slot (t := 105) (v := .bool true) rfl (by first | rfl | (congr 1; simp; done) | (simp; done)) <| L_pur rfl (p_pick_t rfl rfl) <| mv rfl rfl <| J_bool (t := 107) (c := true) rfl (rfl) <| L_op <| G_on rfl rfl rfl <| J_pur (p_move rfl) rfl rfl rfl ?_
  refine L_op <| G_on rfl rfl rfl <| J_pur (p_move rfl) rfl rfl rfl <| L_op <| G_on rfl rfl rfl <| J_pur (p_sub64 rfl rfl (by omega)) rfl rfl rfl <| L_op <| G_on rfl rfl rfl ?_
  refine J_pur (p_indexAddr rfl rfl Tryz.underlying40 ty45 (by omega) (by omega)) rfl rfl rfl <| L_op <| G_on rfl rfl rfl <| J_pur (p_fieldAddr rfl fa45_1) rfl rfl rfl <| L_op <| G_on rfl rfl rfl ?_
  refine J_val (v_loadF rfl ty22 HS (by rw [List.getElem?_map, show ((n : Int) - 2).toNat = n - 2 by omega, hd1]; rfl) (by exact rfl)) rfl rfl rfl ?_
  refine J_slot (t := 113) (v := .int .u32 0) rfl (by rw [hd2]) <| L_op <| G_on rfl rfl rfl <| J_pur (p_eql rfl rfl) rfl rfl rfl <| L_pur rfl (p_pick_t rfl rfl) <| mv rfl rfl <| J_bool (t := 116) (c := true) rfl (rfl) <| L_op <| G_on rfl rfl rfl ?_
  refine J_pur (p_move rfl) rfl rfl rfl <| L_op <| G_on rfl rfl rfl <| J_pur (p_move rfl) rfl rfl rfl <| L_op <| G_on rfl rfl rfl <| J_pur (p_sub64 rfl rfl (by omega)) rfl rfl rfl <| L_op <| G_on rfl rfl rfl ?_
  refine J_pur (p_indexAddr rfl rfl Tryz.underlying40 ty45 (by omega) (by omega)) rfl rfl rfl <| L_op <| G_on rfl rfl rfl <| J_pur (p_fieldAddr rfl fa45_3) rfl rfl rfl <| L_op <| G_on rfl rfl rfl ?_
  refine J_val (v_loadF rfl ty3 HS (by rw [List.getElem?_map, show ((n : Int) - 2).toNat = n - 2 by omega, hd1]; rfl) (by exact rfl)) rfl rfl rfl ?_
  refine J_slot (t := 122) (v := .int .i64 0) rfl (by rw [hd3]) <| L_op <| G_on rfl rfl rfl <| J_pur (p_eql rfl rfl) rfl rfl rfl <| L_pur rfl (p_pick_t rfl rfl) <| mv rfl rfl <| J_bool (t := 125) (c := true) rfl (rfl) <| L_op <| G_on rfl rfl rfl ?_
  refine J_pur (p_move rfl) rfl rfl rfl <| L_op <| G_on rfl rfl rfl <| J_pur (p_move rfl) rfl rfl rfl <| L_op <| G_on rfl rfl rfl <| J_pur (p_sub64 rfl rfl (by omega)) rfl rfl rfl <| L_op <| G_on rfl rfl rfl ?_
  refine J_pur (p_indexAddr rfl rfl Tryz.underlying40 ty45 (by omega) (by omega)) rfl rfl rfl <| L_op <| G_on rfl rfl rfl <| J_pur (p_fieldAddr rfl fa45_1) rfl rfl rfl <| L_op <| G_on rfl rfl rfl ?_
  refine J_val (v_loadF rfl ty22 HS (by rw [List.getElem?_map, show ((n : Int) - 1).toNat = n - 1 by omega, he1]; rfl) (by exact rfl)) rfl rfl rfl ?_
  refine J_slot (t := 131) (v := .int .u32 (c : Int)) rfl (by rw [he2]) <| L_op <| G_on rfl rfl rfl <| J_pur (p_move rfl) rfl rfl rfl <| L_op <| G_on rfl rfl rfl <| J_pur (p_conv rfl Tryz.underlying3 Tryz.underlying22) rfl rfl rfl <| J_slot (t := 133) (v := .int .u32 (c : Int)) rfl (by rw [wrap32u_of (by omega)]) ?_
  refine L_op <| G_on rfl rfl rfl <| J_pur (p_eql rfl rfl) rfl rfl rfl <| J_slot (t := 134) (v := .bool true) rfl (by first | rfl | (congr 1; simp; done) | (simp; done)) <| L_pur rfl (p_pick_t rfl rfl) <| mv rfl rfl <| J_bool (t := 136) (c := true) rfl (rfl) <| L_op <| G_on rfl rfl rfl ?_
  refine J_pur (p_move rfl) rfl rfl rfl <| L_op <| G_on rfl rfl rfl <| J_pur (p_move rfl) rfl rfl rfl <| L_op <| G_on rfl rfl rfl <| J_pur (p_sub64 rfl rfl (by omega)) rfl rfl rfl <| L_op <| G_on rfl rfl rfl ?_
  refine J_pur (p_indexAddr rfl rfl Tryz.underlying40 ty45 (by omega) (by omega)) rfl rfl rfl <| L_op <| G_on rfl rfl rfl <| J_pur (p_fieldAddr rfl fa45_3) rfl rfl rfl <| L_op <| G_on rfl rfl rfl ?_
  refine J_val (v_loadF rfl ty3 HS (by rw [List.getElem?_map, show ((n : Int) - 1).toNat = n - 1 by omega, he1]; rfl) (by exact rfl)) rfl rfl rfl ?_
  refine J_slot (t := 142) (v := .int .i64 0) rfl (by rw [he3]) <| L_op <| G_on rfl rfl rfl <| J_pur (p_eql rfl rfl) rfl rfl rfl <| L_pur rfl (p_pick_t rfl rfl) <| ag rfl rfl <| nq <| J_ret ?_
  refine J_return (()) Tryz.results12 (.tmp rfl .nil) ?_ ?_
  · first | rfl | simp [one]
  · exact SU

end Go.Pse
