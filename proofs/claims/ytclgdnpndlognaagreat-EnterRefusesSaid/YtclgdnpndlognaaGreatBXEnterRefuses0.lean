/-
  Own texts, merged: C100a, C100, C101, C102, C103, C104, C105, C106a, C107a, C108a, C109, C110a, C110b, C110.
-/
import Derived.Test.YtclgdnpndlognaaGreatBC4
import Derived.Test.YtclgdnpndlognaaGreatBC3
set_option linter.unusedVariables false
set_option linter.unusedSimpArgs false
namespace Go.Pse
open Go.RowKit Go.Proofs

/-! ### plain: a drain, reckoned -/
abbrev nopE (i : Nat) : Sqe := ⟨1, 0, (i : Int), 0, 0, 0, 0, 0⟩
abbrev slE : Sqe := ⟨19, 0, 0, 0, 0, 0, 0, 5⟩
def drE (n c : Nat) : List Sqe := (((List.range n).map nopE).set 0 slE).set c { nopE c with flags := 4 }
def pD : Sqe → Bool := fun e => decide (e.op = 1) || decide (e.op = 19)
def dr1 (g : NewG) (n c : Nat) (β : Nat → Nat) : KS := (kEnter (laidS g (drE n c)) 2 20 β).1
def dr2 (g : NewG) (n c : Nat) (β γ : Nat → Nat) : KS := (kEnter (dr1 g n c β) 2 20 γ).1
def dr3 (g : NewG) (n c : Nat) (β γ : Nat → Nat) : KS := (kExpire (kPass (dr2 g n c β γ) 4)).1
def dr4 (g : NewG) (n c : Nat) (β γ : Nat → Nat) : KS := (kExpire (kPass (dr3 g n c β γ) 1)).1
def dr5 (g : NewG) (n c : Nat) (β γ δ : Nat → Nat) : KS := (kRunN 4 δ 1 0 (dr4 g n c β γ)).1
def jnA (s : KS) (k : Nat) : Option (Int × Int) := (s.jn[k]?).map fun d => (d.2.1, d.2.2.2.1)
def drOk (g : NewG) (n c : Nat) (β γ δ : Nat → Nat) : Bool := entOk pD (laidS g (drE n c)) 2 20 && (decide ((kEnter (laidS g (drE n c)) 2 20 β).2 = n) && (decide ((dr1 g n c β).jn.length = n - 2) && (decide ((ofQ (dr1 g n c β).rt 4).length = 2) && (entOk pD (dr1 g n c β) 2 20 && (decide ((kEnter (dr1 g n c β) 2 20 γ).2 = 0) && (decide ((ofQ (dr2 g n c β γ).rt 4).length = 2) && (decide ((kExpire (kPass (dr2 g n c β γ) 4)).2 = 0) && (decide ((kExpire (kPass (dr3 g n c β γ) 1)).2 = 1) && (decide ((ofQ (dr4 g n c β γ).rt 4).length = 1) && (decide ((kRunN 4 δ 1 0 (dr4 g n c β γ)).2 = 1) && (decide ((dr5 g n c β γ δ).jn.length = n) && (decide (jnA (dr5 g n c β γ δ) (n - 2) = some (0, 0)) && (decide (jnA (dr5 g n c β γ δ) (n - 1) = some ((c : Int), 0)))))))))))))))
set_option maxRecDepth 100000 in
theorem dr_all (g : NewG) (β γ δ : Nat → Nat) : ((List.range 6).all fun a => (List.range (a + 1)).all fun b => drOk g (a + 2) (b + 1) β γ δ) = true := by kernel_rfl
theorem dr_ok (g : NewG) (β γ δ : Nat → Nat) {n c : Nat} (h1 : 2 ≤ n ∧ n ≤ 7) (h2 : 1 ≤ c ∧ c < n) : drOk g n c β γ δ = true := by
  have h := all_range (all_range (dr_all g β γ δ) (k := n - 2) (by omega)) (k := c - 1) (by omega)
  rw [show n - 2 + 2 = n by omega, show c - 1 + 1 = c by omega] at h
  exact h
end Go.Pse
namespace Go.Pse
open Go.RowKit Go.Proofs

theorem drE_len (n c : Nat) : (drE n c).length = n := by unfold drE; simp
theorem jnA_is {s : KS} {k : Nat} {x : Int × Int} (h : jnA s k = some x) : ∃ d, s.jn[k]? = some d ∧ d.2.1 = x.1 ∧ d.2.2.2.1 = x.2 := by
  unfold jnA at h
  obtain ⟨d, h1, h2⟩ := Option.map_eq_some_iff.1 h
  exact ⟨d, h1, by rw [← h2], by rw [← h2]⟩
theorem dOps : ∀ (s : KS) (N M : Nat) (q : Rq) (T : Th) (i : ID), Good s N M → SqeOk q.e → pD q.e = true → DoesC s T q i := fun s N M q T i hG hE h => by
  unfold pD at h
  rw [Bool.or_eq_true, decide_eq_true_eq, decide_eq_true_eq] at h
  rcases h with h | h
  · exact doesC1 hG hE h
  · exact doesC19 hG hE h
theorem dr_row {n c : Nat} (h : 1 ≤ c ∧ c < n) : ((((List.range n).map nopE).map encSq).set 0 (encSq slE))[c]? = some (encSq (nopE c)) := by
  rw [List.getElem?_set_ne (by omega), List.getElem?_map, List.getElem?_map, List.getElem?_range h.2]; rfl
set_option maxRecDepth 100000 in
set_option maxHeartbeats 4000000 in
theorem enterDrain {E W : World} {x y : Int} :
    Con Tryz.prog 12 #[.int .i64 x, .int .i64 y] E [old W] (fun _ : Unit => .bool true) (fun _ => [old W]) := by
  refine Con.body (vs := [.int .i64 x, .int .i64 y]) (n := 145) Tryz.func12 rfl rfl [(0, .int .i64 x), (1, .int .i64 y)] (env_ok 2 rfl) <| sr <| ag rfl rfl <| nx <| L_op <| xc fc36 .nil rfl (first26) fun _ => ag rfl rfl <| nxx ?_
  refine mv rfl rfl <| L_pur rfl (p_not rfl) <| nq <| J_bool (t := 12) (c := false) rfl (rfl) <| C_false rfl <| J_skip <| qx <| mv rfl rfl ?_
  refine L_op <| xc fc27 (.cons rfl (.cons rfl .nil)) rfl (number (by omega) (by omega)) fun _ => L_pur rfl (p_add64 rfl rfl (by have := num_lt (x := x) (b := 6) (by omega); omega)) ?_
  obtain ⟨n, hn0⟩ : ∃ n, n = 2 + num x 6 := ⟨_, rfl⟩
  have hn : 2 ≤ n ∧ n ≤ 7 := by have := num_lt (x := x) (b := 6) (by omega); omega
  refine J_slot (t := 15) (v := .int .i64 (n : Int)) rfl (by congr 1; omega) <| ag rfl rfl <| nx <| mv rfl rfl <| mv rfl rfl <| L_pur rfl (p_sub64 rfl rfl (by omega)) <| L_op <| xc fc27 (.cons rfl (.cons rfl .nil)) rfl (number (by omega) (by omega)) fun _ => ?_
  refine L_pur rfl (p_add64 rfl rfl (by have := num_lt (x := y) (b := (n : Int) - 1) (by omega); omega)) ?_
  obtain ⟨c, hc0⟩ : ∃ c, c = 1 + num y ((n : Int) - 1) := ⟨_, rfl⟩
  have hc : 1 ≤ c ∧ c < n := by have := num_lt (x := y) (b := (n : Int) - 1) (by omega); omega
  refine J_slot (t := 20) (v := .int .i64 (c : Int)) rfl (by congr 1; omega) ?_
  have F := fun g β γ δ => dr_ok g β γ δ hn hc
  unfold drOk at F
  simp only [Bool.and_eq_true, decide_eq_true_eq] at F
  refine ag rfl rfl <| nx <| ag rfl rfl <| nxx <| ag rfl rfl <| nq <| J_block <| J_nil (el := 34) (sz := 8) ?_
  refine J_rowEq (ys := (((List.range 0).map nopE).map encSq)) (by rfl) <| J_loop2 (fun k v => k ≤ n) (fun k v => [row 34 8 v (((List.range k).map nopE).map encSq), old W]) (fun k v => [(7, .int .i64 (k : Int)), (6, v), (0, .int .i64 (n : Int)), (1, .int .i64 (c : Int)), (5, .bool true)]) (fun k v => n - k) 0 _ (by omega) SU KE ?_
  intro k v hk
  refine J_seq <| sr <| mv rfl rfl <| mv rfl rfl <| L_pur rfl (p_lss rfl rfl) <| nq ?_
  refine C_dec rfl (fun h23 => ?_) (fun h23 => ?_)
  have hlt : k < n := by simpa using h23
  refine J_skip <| Q_then <| J_seq <| J_block <| J_region <| mv rfl rfl <| mv rfl rfl <| L_pur rfl (p_conv rfl Tryz.underlying3 Tryz.underlying22) ?_
  refine J_slot (t := 28) (v := .int .u32 (k : Int)) rfl (by rw [wrap32u_of (by omega)]) <| L_pur rfl (bld34 (.cons rfl (.cons rfl .nil)) (by repeat constructor)) <| L_op <| x_lit (vals := [_]) Tryz.underlying54 ty34 rfl (.cons rfl .nil) (.agg .nil) (Wf.cons rfl rfl Wf.nil) rfl (by decide) rfl rfl <| JE ([encSq (nopE k)]) (by rfl) fun a30 c30 hw30 hl30 hm30 hz30 => L_op <| x_app rfl rfl Tryz.underlying54 ty34 rfl rfl PC (fun w H => sep_reads HS H) (by simp; omega) (by simp; omega) rfl <| JE ((((List.range (k + 1)).map nopE).map encSq)) (by rw [List.range_succ]; simp) fun a31 c31 hw31 hl31 hm31 hz31 => ?_
  refine ag rfl rfl <| L_nil <| Q_blk_normal <| qr <| mv rfl rfl <| L_pur rfl (p_add64 rfl rfl (by omega)) <| ag rfl rfl <| nq ?_
  exact J_again2 (k + 1) _ (by omega) (by omega) SU KE
  have hkn : k = n := by simp at h23; omega
  refine J_pick (A := row 34 8 v _) PC ?_
  refine J_rowEq (ys := (((List.range n).map nopE).map encSq)) (by rw [hkn]) <| J_row .here fun hwv av cv hvv hlv hmv hzv => ?_
  subst hvv
  obtain ⟨bv, ov, rfl⟩ := hzv (by intro h; have := congrArg List.length h; simp at this; omega)
  refine J_exit <| Q_then_exit <| Q_then_exit <| Q_blk_this <| qx <| mv rfl rfl <| L_pur rfl (bld34 (.cons rfl (.cons rfl (.cons rfl .nil))) (by repeat constructor)) <| L_pur rfl (p_indexAddr rfl rfl Tryz.underlying54 ty34 (by omega) (by simp; omega)) ?_
  refine L_op <| x_storeE rfl rfl ty34 rfl SM SM PC (by simp; omega) ?_
  refine J_rowEq (ys := (((List.range n).map nopE).map encSq).set 0 (encSq slE)) (by rfl) <| nx <| mv rfl rfl <| mv rfl rfl <| L_pur rfl (p_indexAddr rfl rfl Tryz.underlying54 ty34 (by omega) (by simp; omega)) <| fa rfl rfl fa34_1 <| L_op <| x_storeF rfl rfl ty3 rfl rfl PC (dr_row hc) rfl ?_
  refine J_rowEq (ys := (drE n c).map encSq) (by unfold drE; rw [List.map_set, List.map_set]; rfl) <| nx <| mv rfl rfl <| L_op <| xc fc37 (.cons rfl (.cons rfl (.cons rfl .nil))) rfl (laidC (es := drE n c) (by have e : ((((List.range n).map nopE).map encSq)).length = ((drE n c).map encSq).length := by { simp [drE_len] }; rw [e]; exact .here) (by rw [drE_len]; omega)) fun g => ?_
  have IL := laid_inv pD g (drE n c)
  have F0 := F g
  clear F
  unfold dr5 dr4 dr3 dr2 dr1 at F0
  obtain ⟨L, hL⟩ : ∃ L, L = laidS g (drE n c) := ⟨_, rfl⟩
  rw [← hL] at IL F0
  refine J_pick (A := coA g.p _) PC ?_
  refine J_asTo (B := coA g.p L) (by rw [hL]) <| ag rfl rfl <| nxx <| mv rfl rfl <| L_pur rfl (p_eqNilPtr Tryz.underlying24 rfl) <| mv rfl rfl <| J_bool (t := 43) (c := false) rfl (rfl) <| L_op <| G_on rfl rfl rfl ?_
  refine J_pur (p_move rfl) rfl rfl rfl <| L_op <| G_on rfl rfl rfl <| xc fc42 (.cons rfl (.cons rfl (.cons rfl .nil))) rfl (coEnterP (s := L) (p := pD) (t := 2) (n := 20) (N := 40) (M := 60) PC IL (F0 (fun _ => 0) (fun _ => 0) (fun _ => 0)).1 (by omega) (by omega) dOps) fun b1 => ?_
  refine J_slot (t := 45) (v := .int .i64 (n : Int)) rfl (by rw [(F0 b1 (fun _ => 0) (fun _ => 0)).2.1]) ?_
  obtain ⟨S1, hS1⟩ : ∃ S, S = (kEnter L 2 20 b1).1 := ⟨_, rfl⟩
  refine J_pick (A := coA g.p _) PC ?_
  refine J_asTo (B := coA g.p S1) (by rw [hS1]) ?_
  have I1 : EInv pD S1 140 69 := by rw [hS1]; exact IL.enter (F0 (fun _ => 0) (fun _ => 0) (fun _ => 0)).1 (by omega) (by omega) b1
  have F1 := fun γ δ => (F0 b1 γ δ).2.2
  rw [← hS1] at F1
  clear F0
  refine L_op <| G_on rfl rfl rfl <| J_pur (p_move rfl) rfl rfl rfl <| L_op <| G_on rfl rfl rfl <| J_pur (p_neq rfl rfl) rfl rfl rfl <| L_pur rfl (p_pick_f rfl rfl) <| nq ?_
  refine J_bool (t := 48) (c := false) rfl (by simp) <| C_false rfl <| J_skip <| Q_then <| J_seq <| sr <| mv rfl rfl <| L_op <| xc fc17 (.cons rfl .nil) rfl (coJournal) fun _ => ?_
  refine L_op <| xc fc21 (.cons rfl .nil) rfl (coJAll (s := S1) PC (by have := I1.w.fit.jn; have := I1.w.fit.mm; omega)) <| JR fun a51 c51 hw51 hl51 hm51 hz51 => L_pur rfl (p_len rfl Tryz.underlying40) <| J_slot (t := 52) (v := .int .i64 ((n - 2 : Nat) : Int)) rfl (by rw [List.length_map, (F1 (fun _ => 0) (fun _ => 0)).1]) <| mv rfl rfl <| L_pur rfl (p_sub64 rfl rfl (by omega)) <| L_pur rfl (p_neq rfl rfl) ?_
  refine mv rfl rfl <| J_bool (t := 56) (c := false) rfl (by simp; omega) <| L_op <| G_on rfl rfl rfl <| J_pur (p_move rfl) rfl rfl rfl <| L_op <| G_on rfl rfl rfl <| xc fc16 (.cons rfl .nil) rfl (coReqs) fun _ => ?_
  refine L_op <| G_on rfl rfl rfl <| xc fc23 (.cons rfl (.cons rfl .nil)) rfl (coRqOf (s := S1) (g := 4) PC I1.w.fit.ids (by have := I1.w.fit.jn; have := I1.w.fit.mm; omega)) <| JR fun a59 c59 hw59 hl59 hm59 hz59 => L_op <| G_on rfl rfl rfl <| J_pur (p_len rfl Tryz.underlying46) rfl rfl rfl <| J_slot (t := 60) (v := .int .i64 2) rfl (by rw [List.length_map, (F1 (fun _ => 0) (fun _ => 0)).2.1]; rfl) ?_
  refine L_op <| G_on rfl rfl rfl <| J_pur (p_neq rfl rfl) rfl rfl rfl <| L_pur rfl (p_pick_f rfl rfl) <| mv rfl rfl <| J_bool (t := 63) (c := false) rfl (rfl) <| L_op <| G_on rfl rfl rfl ?_
  refine J_pur (p_move rfl) rfl rfl rfl <| L_op <| G_on rfl rfl rfl <| xc fc42 (.cons rfl (.cons rfl (.cons rfl .nil))) rfl (coEnterP (s := S1) (p := pD) (t := 2) (n := 20) (N := 140) (M := 69) PC I1 (F1 (fun _ => 0) (fun _ => 0)).2.2.1 (by omega) (by omega) dOps) fun b2 => ?_
  refine J_slot (t := 65) (v := .int .i64 0) rfl (by rw [(F1 b2 (fun _ => 0)).2.2.2.1]) ?_
  obtain ⟨S2, hS2⟩ : ∃ S, S = (kEnter S1 2 20 b2).1 := ⟨_, rfl⟩
  refine J_pick (A := coA g.p _) PC ?_
  refine J_asTo (B := coA g.p S2) (by rw [hS2]) ?_
  have I2 : EInv pD S2 240 78 := by rw [hS2]; exact I1.enter (F1 (fun _ => 0) (fun _ => 0)).2.2.1 (by omega) (by omega) b2
  have F2 := fun δ => (F1 b2 δ).2.2.2.2
  rw [← hS2] at F2
  clear F1
  refine L_op <| G_on rfl rfl rfl <| J_pur (p_neq rfl rfl) rfl rfl rfl <| L_pur rfl (p_pick_f rfl rfl) <| mv rfl rfl <| J_bool (t := 68) (c := false) rfl (rfl) <| L_op <| G_on rfl rfl rfl ?_
  refine J_pur (p_move rfl) rfl rfl rfl <| L_op <| G_on rfl rfl rfl <| xc fc16 (.cons rfl .nil) rfl (coReqs) fun _ => L_op <| G_on rfl rfl rfl <| xc fc23 (.cons rfl (.cons rfl .nil)) rfl (coRqOf (s := S2) (g := 4) PC I2.w.fit.ids (by have := I2.w.fit.jn; have := I2.w.fit.mm; omega)) <| JR fun a71 c71 hw71 hl71 hm71 hz71 => ?_
  refine L_op <| G_on rfl rfl rfl <| J_pur (p_len rfl Tryz.underlying46) rfl rfl rfl <| J_slot (t := 72) (v := .int .i64 2) rfl (by rw [List.length_map, (F2 (fun _ => 0)).1]; rfl) <| L_op <| G_on rfl rfl rfl <| J_pur (p_neq rfl rfl) rfl rfl rfl <| L_pur rfl (p_pick_f rfl rfl) ?_
  refine nq <| J_bool (t := 74) (c := false) rfl (rfl) <| C_false rfl <| J_skip <| qx <| mv rfl rfl <| L_op <| xc fc55 (.cons rfl (.cons rfl .nil)) rfl (coPass (s := S2) (n := 4) PC) fun _ => ?_
  obtain ⟨S3, hS3⟩ : ∃ S, S = kPass S2 4 := ⟨_, rfl⟩
  refine J_pick (A := coA g.p _) PC ?_
  refine J_asTo (B := coA g.p S3) (by rw [hS3]) ?_
  have I3 : EInv pD S3 240 78 := by rw [hS3]; exact I2.pass 4
  rw [← hS3] at F2
  refine nxx <| mv rfl rfl <| L_op <| xc fc56 (.cons rfl .nil) rfl (coExpireG (s := S3) PC I3.w) fun _ => ?_
  refine J_slot (t := 78) (v := .int .i64 0) rfl (by rw [(F2 (fun _ => 0)).2.1]; rfl) ?_
  obtain ⟨S4, hS4⟩ : ∃ S, S = (kExpire S3).1 := ⟨_, rfl⟩
  refine J_pick (A := coA g.p _) PC ?_
  refine J_asTo (B := coA g.p S4) (by rw [hS4]) ?_
  have I4 : EInv pD S4 240 78 := by rw [hS4]; exact I3.expire
  rw [← hS4] at F2
  refine L_pur rfl (p_neq rfl rfl) <| nq <| J_bool (t := 79) (c := false) rfl (rfl) <| C_false rfl <| J_skip <| qx <| mv rfl rfl <| L_op <| xc fc55 (.cons rfl (.cons rfl .nil)) rfl (coPass (s := S4) (n := 1) PC) fun _ => ?_
  obtain ⟨S5, hS5⟩ : ∃ S, S = kPass S4 1 := ⟨_, rfl⟩
  refine J_pick (A := coA g.p _) PC ?_
  refine J_asTo (B := coA g.p S5) (by rw [hS5]) ?_
  have I5 : EInv pD S5 240 78 := by rw [hS5]; exact I4.pass 1
  rw [← hS5] at F2
  refine nxx <| mv rfl rfl <| L_op <| xc fc56 (.cons rfl .nil) rfl (coExpireG (s := S5) PC I5.w) fun _ => ?_
  refine J_slot (t := 83) (v := .int .i64 1) rfl (by rw [(F2 (fun _ => 0)).2.2.1]; rfl) ?_
  obtain ⟨S6, hS6⟩ : ∃ S, S = (kExpire S5).1 := ⟨_, rfl⟩
  refine J_pick (A := coA g.p _) PC ?_
  refine J_asTo (B := coA g.p S6) (by rw [hS6]) ?_
  have I6 : EInv pD S6 240 78 := by rw [hS6]; exact I5.expire
  rw [← hS6] at F2
  refine L_pur rfl (p_neq rfl rfl) <| mv rfl rfl <| J_bool (t := 85) (c := false) rfl (rfl) <| L_op <| G_on rfl rfl rfl <| J_pur (p_move rfl) rfl rfl rfl <| L_op <| G_on rfl rfl rfl ?_
  refine xc fc16 (.cons rfl .nil) rfl (coReqs) fun _ => L_op <| G_on rfl rfl rfl <| xc fc23 (.cons rfl (.cons rfl .nil)) rfl (coRqOf (s := S6) (g := 4) PC I6.w.fit.ids (by have := I6.w.fit.jn; have := I6.w.fit.mm; omega)) <| JR fun a88 c88 hw88 hl88 hm88 hz88 => L_op <| G_on rfl rfl rfl <| J_pur (p_len rfl Tryz.underlying46) rfl rfl rfl ?_
  refine J_slot (t := 89) (v := .int .i64 1) rfl (by rw [List.length_map, (F2 (fun _ => 0)).2.2.2.1]; rfl) <| L_op <| G_on rfl rfl rfl <| J_pur (p_neq rfl rfl) rfl rfl rfl <| L_pur rfl (p_pick_f rfl rfl) <| mv rfl rfl <| J_bool (t := 92) (c := false) rfl (rfl) <| L_op <| G_on rfl rfl rfl ?_
  refine J_pur (p_move rfl) rfl rfl rfl <| L_op <| G_on rfl rfl rfl <| xc fc57 (.cons rfl (.cons rfl (.cons rfl .nil))) rfl (coRunP (s := S6) (p := pD) (g := 4) (bud := 1) PC I6 (by omega) (by omega) (by omega) dOps) fun b3 => ?_
  refine J_slot (t := 94) (v := .int .i64 1) rfl (by rw [show (1 : Int).toNat = 1 from rfl, (F2 b3).2.2.2.2.1]; rfl) ?_
  obtain ⟨S7, hS7⟩ : ∃ S, S = (kRunN 4 b3 1 0 S6).1 := ⟨_, rfl⟩
  refine J_pick (A := coA g.p _) PC ?_
  refine J_asTo (B := coA g.p S7) (by rw [hS7]; rfl) ?_
  have I7 : EInv pD S7 241 78 := by rw [hS7]; exact EInv.runN 1 0 I6 (by omega)
  have F3 := (F2 b3).2.2.2.2.2
  rw [← hS7] at F3
  clear F2
  obtain ⟨hj1, hj2, hj3⟩ := F3
  obtain ⟨d1, hd1, hd2, hd3⟩ := jnA_is hj2
  obtain ⟨d2, he1, he2, he3⟩ := jnA_is hj3
  refine L_op <| G_on rfl rfl rfl <| J_pur (p_neq rfl rfl) rfl rfl rfl <| L_pur rfl (p_pick_f rfl rfl) <| nq <| J_bool (t := 96) (c := false) rfl (rfl) <| C_false rfl <| J_skip ?_
  refine qx <| mv rfl rfl <| L_op <| xc fc17 (.cons rfl .nil) rfl (coJournal) fun _ => L_op <| xc fc21 (.cons rfl .nil) rfl (coJAll (s := S7) PC (by have := I7.w.fit.jn; have := I7.w.fit.mm; omega)) <| JR fun a99 c99 hw99 hl99 hm99 hz99 => ?_
  have hml : (S7.jn.map encD).length = S7.jn.length := List.length_map _
  obtain ⟨b9, o9, rfl⟩ := hz99 (by intro h; have := congrArg List.length h; simp at this; rw [this] at hj1; simp at hj1; omega)
  refine ag rfl rfl <| nx <| mv rfl rfl <| mv rfl rfl <| J_bool (t := 101) (c := true) rfl (rfl) <| L_op <| G_on rfl rfl rfl <| J_pur (p_move rfl) rfl rfl rfl ?_
  refine L_op <| G_on rfl rfl rfl <| J_pur (p_len rfl Tryz.underlying40) rfl rfl rfl <| J_slot (t := 103) (v := .int .i64 (n : Int)) rfl (by rw [hml, hj1]) <| L_op <| G_on rfl rfl rfl <| J_pur (p_move rfl) rfl rfl rfl <| L_op <| G_on rfl rfl rfl ?_
  refine J_pur (p_eql rfl rfl) rfl rfl rfl <| J_slot (t := 105) (v := .bool true) rfl (by first | rfl | (congr 1; simp; done) | (simp; done)) <| L_pur rfl (p_pick_t rfl rfl) <| mv rfl rfl <| J_bool (t := 107) (c := true) rfl (rfl) <| L_op <| G_on rfl rfl rfl <| J_pur (p_move rfl) rfl rfl rfl ?_
  refine L_op <| G_on rfl rfl rfl <| J_pur (p_move rfl) rfl rfl rfl <| L_op <| G_on rfl rfl rfl <| J_pur (p_sub64 rfl rfl (by omega)) rfl rfl rfl <| L_op <| G_on rfl rfl rfl ?_
  refine J_pur (p_indexAddr rfl rfl Tryz.underlying40 ty45 (by omega) (by omega)) rfl rfl rfl <| L_op <| G_on rfl rfl rfl <| J_pur (p_fieldAddr rfl fa45_1) rfl rfl rfl <| L_op <| G_on rfl rfl rfl ?_
  refine J_val (v_loadF rfl ty22 HS (by rw [List.getElem?_map, show ((n : Int) - 2).toNat = n - 2 by omega, hd1]; rfl) (by exact rfl)) rfl rfl rfl ?_
  refine J_slot (t := 113) (v := .int .u32 0) rfl (by rw [hd2]) <| L_op <| G_on rfl rfl rfl <| J_pur (p_eql rfl rfl) rfl rfl rfl <| L_pur rfl (p_pick_t rfl rfl) <| mv rfl rfl <| J_bool (t := 116) (c := true) rfl (rfl) <| L_op <| G_on rfl rfl rfl ?_
  refine J_pur (p_move rfl) rfl rfl rfl <| L_op <| G_on rfl rfl rfl <| J_pur (p_move rfl) rfl rfl rfl <| L_op <| G_on rfl rfl rfl <| J_pur (p_sub64 rfl rfl (by omega)) rfl rfl rfl <| L_op <| G_on rfl rfl rfl ?_
  refine J_pur (p_indexAddr rfl rfl Tryz.underlying40 ty45 (by omega) (by omega)) rfl rfl rfl <| L_op <| G_on rfl rfl rfl <| J_pur (p_fieldAddr rfl fa45_3) rfl rfl rfl <| L_op <| G_on rfl rfl rfl ?_
  refine J_val (v_loadF rfl ty3 HS (by rw [List.getElem?_map, show ((n : Int) - 2).toNat = n - 2 by omega, hd1]; rfl) (by exact rfl)) rfl rfl rfl ?_
  refine J_slot (t := 122) (v := .int .i64 0) rfl (by rw [hd3]) <| L_op <| G_on rfl rfl rfl <| J_pur (p_eql rfl rfl) rfl rfl rfl <| L_pur rfl (p_pick_t rfl rfl) <| mv rfl rfl <| J_bool (t := 125) (c := true) rfl (rfl) <| L_op <| G_on rfl rfl rfl ?_
  refine J_pur (p_move rfl) rfl rfl rfl <| L_op <| G_on rfl rfl rfl <| J_pur (p_move rfl) rfl rfl rfl <| L_op <| G_on rfl rfl rfl <| J_pur (p_sub64 rfl rfl (by omega)) rfl rfl rfl <| L_op <| G_on rfl rfl rfl ?_
  refine J_pur (p_indexAddr rfl rfl Tryz.underlying40 ty45 (by omega) (by omega)) rfl rfl rfl <| L_op <| G_on rfl rfl rfl <| J_pur (p_fieldAddr rfl fa45_1) rfl rfl rfl <| L_op <| G_on rfl rfl rfl ?_
  refine J_val (v_loadF rfl ty22 HS (by rw [List.getElem?_map, show ((n : Int) - 1).toNat = n - 1 by omega, he1]; rfl) (by exact rfl)) rfl rfl rfl ?_
  refine J_slot (t := 131) (v := .int .u32 (c : Int)) rfl (by rw [he2]) <| L_op <| G_on rfl rfl rfl <| J_pur (p_move rfl) rfl rfl rfl <| L_op <| G_on rfl rfl rfl <| J_pur (p_conv rfl Tryz.underlying3 Tryz.underlying22) rfl rfl rfl <| J_slot (t := 133) (v := .int .u32 (c : Int)) rfl (by rw [wrap32u_of (by omega)]) ?_
  refine L_op <| G_on rfl rfl rfl <| J_pur (p_eql rfl rfl) rfl rfl rfl <| J_slot (t := 134) (v := .bool true) rfl (by first | rfl | (congr 1; simp; done) | (simp; done)) <| L_pur rfl (p_pick_t rfl rfl) <| mv rfl rfl <| J_bool (t := 136) (c := true) rfl (rfl) <| L_op <| G_on rfl rfl rfl ?_
  refine J_pur (p_move rfl) rfl rfl rfl <| L_op <| G_on rfl rfl rfl <| J_pur (p_move rfl) rfl rfl rfl <| L_op <| G_on rfl rfl rfl <| J_pur (p_sub64 rfl rfl (by omega)) rfl rfl rfl <| L_op <| G_on rfl rfl rfl ?_
  refine J_pur (p_indexAddr rfl rfl Tryz.underlying40 ty45 (by omega) (by omega)) rfl rfl rfl <| L_op <| G_on rfl rfl rfl <| J_pur (p_fieldAddr rfl fa45_3) rfl rfl rfl <| L_op <| G_on rfl rfl rfl ?_
  refine J_val (v_loadF rfl ty3 HS (by rw [List.getElem?_map, show ((n : Int) - 1).toNat = n - 1 by omega, he1]; rfl) (by exact rfl)) rfl rfl rfl ?_
  refine J_slot (t := 142) (v := .int .i64 0) rfl (by rw [he3]) <| L_op <| G_on rfl rfl rfl <| J_pur (p_eql rfl rfl) rfl rfl rfl <| L_pur rfl (p_pick_t rfl rfl) <| ag rfl rfl <| nq <| J_ret ?_
  refine J_return (()) Tryz.results12 (.tmp rfl .nil) ?_ ?_
  · first | rfl | simp [one]
  · exact SU

end Go.Pse
namespace Go.Pse
open Go.RowKit Go.Proofs

theorem and31 {x : Int} (h : bits .and .i64 x 3 = 0) : bits .and .i64 x 1 = 0 := by
  have h3 : (BitVec.ofInt 64 x &&& 3#64).toNat ≤ 3 := by rw [BitVec.toNat_and]; exact Nat.and_le_right
  have e3 : bits .and .i64 x 3 = ((BitVec.ofInt 64 x &&& 3#64).toNat : Int) := by
    show IntKind.i64.wrap ((BitVec.ofInt 64 x &&& 3#64).toNat : Int) = _
    exact wrap64_of (by omega)
  rw [e3] at h
  have h0 : BitVec.ofInt 64 x &&& 3#64 = 0#64 := BitVec.eq_of_toNat_eq (by simpa using h)
  have h1 : BitVec.ofInt 64 x &&& 1#64 = 0#64 := by
    have : BitVec.ofInt 64 x &&& 1#64 = (BitVec.ofInt 64 x &&& 3#64) &&& 1#64 := by rw [BitVec.and_assoc]; rfl
    rw [this, h0]; simp
  show IntKind.i64.wrap ((BitVec.ofInt 64 x &&& 1#64).toNat : Int) = 0
  rw [h1]; rfl

/-! ### plain: requests of one ring, in a row -/
def pairsQ (l : List Rq) : List (ID × Rq) := l.map fun q => (q.id, q)
/-- Nobody waits anywhere; the ring 4 is somebody's. -/
structure Quiet (s : KS) (T : Th) : Prop where
  tm : s.tm = []
  ep : s.ep = []
  nt : s.nt = []
  rp : ∀ x ∈ s.rp, x.2.2.2 = false
  ow : kOwner s 4 = some T
/-- A ring with room for completions, t of them there. -/
def RM (X : List Int) (hd : Int) (RG : List (Int × Nat × Rg)) (MS : List (List Int)) (t : Nat) : Prop := ∃ b r, RG = [(4, b, r)] ∧ r.over = [] ∧ r.tail = (t : Int) ∧ r.cb = 4 ∧ r.cq = 6 ∧ RgOk r ∧ MemOk MS ∧ getN (rowAt MS 6) 0 4 = 0 ∧ r.head = hd ∧ r.sq = 5 ∧ r.sb = 3 ∧ rowAt MS 5 = X
variable {X5 : List Int} {hd5 : Int}
def At (s : KS) (rs : List Rq) (js : List Deed) (RG : List (Int × Nat × Rg)) (MS : List (List Int)) : KS := { s with rt := pairsQ rs, jn := js, rg := RG, mem := MS }
theorem RM.post {RG : List (Int × Nat × Rg)} {MS : List (List Int)} {t : Nat} (h : RM X5 hd5 RG MS t) (ht : t < 16) {d : Deed} (hd : d.1.1 = 4) (s : KS) : ∃ RG' MS', RM X5 hd5 RG' MS' (t + 1) ∧ kPost { s with rg := RG, mem := MS } d = { s with rg := RG', mem := MS' } := by
  obtain ⟨b, r, rfl, h2, h3, h4, h5, h6, h7, h8, h9, h10, h11, h12⟩ := h
  have hok := rdy_ok (ms := MS) h2 h3 h4 (by rw [h5]; exact h8) ⟨by omega, by omega⟩
  have hl : look (KS.rg { s with rg := [(4, b, r)], mem := MS }) d.1.1 = some (b, r) := by rw [hd]; rfl
  refine ⟨[(4, b, postR r MS (ofD d))], postM r MS (ofD d), ⟨b, _, rfl, ?_⟩, ?_⟩
  · refine ⟨by unfold postR; rw [hok]; exact h2, ?_, by unfold postR; rw [hok]; exact h4, by unfold postR; rw [hok]; exact h5, postR_ok h6 _, postM_ok h6 h7 _, ?_, by unfold postR; rw [hok]; exact h9, by unfold postR; rw [hok]; exact h10, by unfold postR; rw [hok]; exact h11, ?_⟩
    · unfold postR; rw [hok]
      show IntKind.u32.wrap (r.tail + 1) = _
      rw [h3, wrap32u_of (by omega)]; omega
    · unfold postM; rw [hok, if_pos rfl, h5, rowAt_set (by omega) (by omega) h7.len, if_pos rfl, getN_row h6 h7, h5]; exact h8
    · unfold postM; rw [hok, if_pos rfl, h5, rowAt_set (by omega) (by omega) h7.len, if_neg (by decide)]; exact h12
  · rw [kPost_some hl, hd]
    unfold updO
    simp
theorem At.forget {s : KS} {T : Th} (h : Quiet s T) {rs : List Rq} {js : List Deed} {RG : List (Int × Nat × Rg)} {MS : List (List Int)} (i : ID) : kForget (At s rs js RG MS) i = At s rs js RG MS := by
 have e : allO (rpD i) s.rp = s.rp := by
  unfold allO
  conv => rhs; rw [← List.map_id s.rp]
  refine List.map_congr_left fun x hx => ?_
  obtain ⟨u, b, c⟩ := x
  have := h.rp _ hx
  show (u, b, cDrop c i) = (u, b, c)
  unfold cDrop
  rw [if_neg (fun e => by simp only at this; rw [this] at e; cases e.1)]
 show ({ At s rs js RG MS with tm := tdrop s.tm i, ep := allO (epD i) s.ep, nt := allO (ntD i) s.nt, rp := allO (rpD i) s.rp } : KS) = _
 rw [h.tm, h.ep, h.nt, e]
 unfold At
 cases s
 simp only at *
 obtain ⟨h1, h2, h3, _, _⟩ := h
 simp only at h1 h2 h3
 subst h1; subst h2; subst h3
 rfl
theorem At.tell {s : KS} {T : Th} (h : Quiet s T) {D : KS → ID → Int → Int → KS} {rs : List Rq} {js : List Deed} {RG : List (Int × Nat × Rg)} {MS : List (List Int)} {t : Nat} (hm : RM X5 hd5 RG MS t) (ht : t < 16) {d : Deed} (hd : d.1.1 = 4) : ∃ RG' MS', RM X5 hd5 RG' MS' (t + 1) ∧ kTell D (At s rs js RG MS) d = At s rs (js ++ [d]) RG' MS' := by
  obtain ⟨RG', MS', h1, h2⟩ := hm.post ht hd { s with rt := pairsQ rs, jn := js ++ [d] }
  refine ⟨RG', MS', h1, ?_⟩
  have hs : kSaid (At s rs js RG MS) d = At s rs (js ++ [d]) RG' MS' := h2
  unfold kTell
  rw [hs, show look (KS.nt (At s rs (js ++ [d]) RG' MS')) (kBell (At s rs (js ++ [d]) RG' MS') d.1.1).1 = none from by rw [show KS.nt (At s rs (js ++ [d]) RG' MS') = s.nt from rfl, h.nt]; rfl]
/-- The requests of entries, from number k on. -/
abbrev RQ := planP 4 1
theorem planP_ids : ∀ (zs : List (Bool × Sqe)) (p : Option Sqe) (k : Nat), ∀ q ∈ RQ p k zs, q.id.1 = 4 ∧ 1 + (k : Int) ≤ q.id.2 ∧ q.started = false ∧ (q.prev = 0 ∨ q.prev = q.id.2 - 1)
  | [], _, _, q, hq => by cases hq
  | z :: zs, p, k, q, hq => by
    unfold RQ planP at hq
    have up : ∀ p', q ∈ RQ p' (k + 1) zs → q.id.1 = 4 ∧ 1 + (k : Int) ≤ q.id.2 ∧ q.started = false ∧ (q.prev = 0 ∨ q.prev = q.id.2 - 1) := fun p' h => by
      have := planP_ids zs p' (k + 1) q h
      exact ⟨this.1, by omega, this.2.2⟩
    split at hq
    · rcases List.mem_cons.1 hq with rfl | hq
      · refine ⟨rfl, Int.le_refl _, rfl, ?_⟩
        show prevP 1 p k = 0 ∨ prevP 1 p k = 1 + (k : Int) - 1
        unfold prevP
        split
        · exact .inl rfl
        · split
          · exact .inr rfl
          · exact .inl rfl
      · exact up _ hq
    · exact up _ hq
theorem planP_sorted : ∀ (zs : List (Bool × Sqe)) (p : Option Sqe) (k : Nat), (RQ p k zs).Pairwise fun a b => a.id.2 < b.id.2
  | [], _, _ => List.Pairwise.nil
  | z :: zs, p, k => by
    unfold RQ planP
    split
    · refine List.pairwise_cons.2 ⟨fun q hq => ?_, planP_sorted zs _ _⟩
      have := (planP_ids zs _ _ q hq).2.1
      show 1 + (k : Int) < _
      omega
    · exact planP_sorted zs _ _
theorem sortF_id : ∀ {xs : List Rq}, (xs.Pairwise fun a b => a.id.2 < b.id.2) → sortF cmpQ xs = xs
  | [], _ => rfl
  | x :: xs, h => by
    obtain ⟨h1, h2⟩ := List.pairwise_cons.1 h
    show insF cmpQ x (sortF cmpQ xs) = _
    rw [sortF_id h2]
    cases xs with
    | nil => rfl
    | cons y ys =>
      unfold insF
      have := h1 y (List.mem_cons_self)
      rw [if_neg (by rw [cmpQ_lt]; simp; omega)]
/-- A row of requests of ring 4, by rising numbers. -/
structure Row (l : List Rq) : Prop where
  ring : ∀ q ∈ l, q.id.1 = 4
  up : l.Pairwise fun a b => a.id.2 < b.id.2
theorem Row.plan (zs : List (Bool × Sqe)) (p : Option Sqe) (k : Nat) : Row (RQ p k zs) := ⟨fun q hq => (planP_ids zs p k q hq).1, planP_sorted zs p k⟩
theorem Row.tail {q : Rq} {l : List Rq} (h : Row (q :: l)) : Row l := ⟨fun x hx => h.ring x (List.mem_cons_of_mem _ hx), (List.pairwise_cons.1 h.up).2⟩
theorem Row.head {q q' : Rq} {l : List Rq} (h : Row (q :: l)) (hi : q'.id = q.id) : Row (q' :: l) := ⟨fun x hx => by
  rcases List.mem_cons.1 hx with rfl | hx
  · rw [hi]; exact h.ring q (List.mem_cons_self)
  · exact h.ring x (List.mem_cons_of_mem _ hx), List.pairwise_cons.2 ⟨fun x hx => by rw [hi]; exact (List.pairwise_cons.1 h.up).1 x hx, (List.pairwise_cons.1 h.up).2⟩⟩
theorem Row.of {l : List Rq} (h : Row l) : ofQ (pairsQ l) 4 = l := by
  have e : ofRing (pairsQ l) 4 = l := by
    unfold ofRing pairsQ
    rw [List.filter_eq_self.2 fun e he => by
      obtain ⟨q, hq, rfl⟩ := List.mem_map.1 he
      simpa using h.ring q hq, List.map_map]
    conv => rhs; rw [← List.map_id l]
    rfl
  unfold ofQ
  rw [e, sortF_id h.up]
theorem pairs_look {q : Rq} {l : List Rq} : look (pairsQ (q :: l)) q.id = some q := by
  show look ((q.id, q) :: pairsQ l) q.id = _
  rw [look_cons, if_pos rfl]
theorem pairs_none {l : List Rq} {i : ID} (h : ∀ q ∈ l, q.id ≠ i) : look (pairsQ l) i = none := by
  rw [look_none_iff]
  intro hm
  obtain ⟨e, he, h2⟩ := List.mem_map.1 hm
  obtain ⟨q, hq, rfl⟩ := List.mem_map.1 he
  exact h q hq h2
theorem Row.ne {q : Rq} {l : List Rq} (h : Row (q :: l)) : ∀ x ∈ l, x.id ≠ q.id := fun x hx e => by
  have := (List.pairwise_cons.1 h.up).1 x hx
  rw [e] at this; omega
theorem Row.del {q : Rq} {l : List Rq} (h : Row (q :: l)) : del (pairsQ (q :: l)) q.id = pairsQ l := by
  show List.filter (fun e => !decide (e.1 = q.id)) ((q.id, q) :: pairsQ l) = _
  rw [List.filter_cons, if_neg (by simp)]
  exact List.filter_eq_self.2 fun e he => by
    obtain ⟨x, hx, rfl⟩ := List.mem_map.1 he
    simpa using h.ne x hx
theorem Row.start {q : Rq} {l : List Rq} (h : Row (q :: l)) : rtS (pairsQ (q :: l)) q.id = pairsQ ({ q with started := true } :: l) := by
  unfold rtS
  rw [pairs_look]
  show Go.Pse.ins (pairsQ (q :: l)) q.id { q with started := true } = _
  unfold Go.Pse.ins
  rw [if_pos (by rw [pairs_look]; rfl)]
  show List.map _ ((q.id, q) :: pairsQ l) = (q.id, { q with started := true }) :: pairsQ l
  rw [List.map_cons, if_pos rfl]
  congr 1
  conv => rhs; rw [← List.map_id (pairsQ l)]
  refine List.map_congr_left fun e he => ?_
  obtain ⟨x, hx, rfl⟩ := List.mem_map.1 he
  rw [if_neg (h.ne x hx)]; rfl
end Go.Pse
namespace Go.Pse
open Go.RowKit Go.Proofs

/-! ### plain: a row of requests that do nothing, or fail, runs -/
variable {X5 : List Int} {hd5 : Int}
/-- What an entry of the row is told; c: it was cut. -/
def resE (c : Bool) (e : Sqe) : Int := if c = true then -9 else if e.op = 20 then -11 else 0
/-- Is the one behind it cut. -/
def cutE (r : Int) (e : Sqe) : Bool := decide (r < 0) && decide (bits .and .i64 e.flags 1 ≠ 0)
def deedE (k : Nat) (e : Sqe) (r : Int) : Deed := ((4, 1 + (k : Int)), e.tag, e.op, r, 0, false)
def resZ : Bool → Nat → List (Bool × Sqe) → List Deed
  | _, _, [] => []
  | c, k, z :: zs => if z.1 = true then deedE k z.2 (resE c z.2) :: resZ (cutE (resE c z.2) z.2) (k + 1) zs else resZ false (k + 1) zs
/-- Entries that do nothing, or cancel what is not there. -/
def dullE (e : Sqe) : Prop := (e.op = 1 ∨ (e.op = 20 ∧ e.a = 999)) ∧ e.tag ≠ 999
theorem RQ_true {p : Option Sqe} {k : Nat} {e : Sqe} {zs : List (Bool × Sqe)} : RQ p k ((true, e) :: zs) = reqP 4 1 p k e :: RQ (some e) (k + 1) zs := by
  show (if true = true then _ else _) = _
  rw [if_pos rfl]
theorem RQ_false {p : Option Sqe} {k : Nat} {e : Sqe} {zs : List (Bool × Sqe)} : RQ p k ((false, e) :: zs) = RQ none (k + 1) zs := by
  show (if false = true then _ else _) = _
  rw [if_neg (by decide)]
theorem prev_none {zs : List (Bool × Sqe)} {p : Option Sqe} {k : Nat} {n : Int} (h : n < (k : Int)) : ∀ q ∈ RQ p k zs, n = 0 ∨ q.prev ≠ n := fun q hq => by
  obtain ⟨_, h2, _, h4⟩ := planP_ids zs p k q hq
  rcases h4 with h4 | h4 <;> omega
theorem after_row {zs : List (Bool × Sqe)} {e : Sqe} {k : Nat} : afterQ (pairsQ (RQ (some e) (k + 1) zs)) (4, 1 + (k : Int)) = match zs with
    | (true, e') :: _ => if bits .and .i64 e.flags 3 ≠ 0 then some (reqP 4 1 (some e) (k + 1) e') else none
    | _ => none := by
  unfold afterQ
  rw [(Row.plan zs _ _).of]
  have far : ∀ (zs : List (Bool × Sqe)) (p : Option Sqe), ∀ q ∈ RQ p (k + 1 + 1) zs, ¬ q.prev = 1 + (k : Int) := fun zs p q hq => by
    have := prev_none (n := 1 + (k : Int)) (by omega) q hq
    omega
  match zs with
  | [] => rfl
  | (false, e') :: zs => rw [RQ_false]; exact List.find?_eq_none.2 fun q hq => by simpa using far zs _ q hq
  | (true, e') :: zs =>
    rw [RQ_true, List.find?_cons]
    have hp : (reqP 4 1 (some e) (k + 1) e').prev = if bits .and .i64 e.flags 3 ≠ 0 then 1 + ((k + 1 : Nat) : Int) - 1 else 0 := rfl
    by_cases h : bits .and .i64 e.flags 3 ≠ 0
    · rw [if_pos h] at hp
      rw [show decide ((reqP 4 1 (some e) (k + 1) e').prev = (1 + (k : Int))) = true by rw [hp]; simp; omega]
      exact (if_pos h).symm
    · rw [if_neg h] at hp
      rw [show decide ((reqP 4 1 (some e) (k + 1) e').prev = (1 + (k : Int))) = false by rw [hp]; simp; omega]
      dsimp only
      rw [if_neg h]
      exact List.find?_eq_none.2 fun q hq => by simpa using far zs _ q hq
theorem soft_row {e e' : Sqe} {k : Nat} {r : Int} : ((bits .and .i64 e.flags 3 ≠ 0) ∧ (reqP 4 1 (some e) (k + 1) e').soft = true ∧ r < 0) ↔ cutE r e = true := by
  show _ ∧ decide (bits .and .i64 e.flags 1 ≠ 0) = true ∧ _ ↔ _
  unfold cutE
  simp only [Bool.and_eq_true, decide_eq_true_eq]
  constructor
  · rintro ⟨_, h2, h3⟩; exact ⟨h3, h2⟩
  · rintro ⟨h3, h2⟩; exact ⟨fun h => h2 (and31 h), h2, h3⟩
section
variable {s : KS} {T : Th} (hQ : Quiet s T)
include hQ
theorem dec_step {zs : List (Bool × Sqe)} {e : Sqe} {q : Rq} {k : Nat} {js : List Deed} {r : Int} {n : Nat} {RG : List (Int × Nat × Rg)} {MS : List (List Int)} {t : Nat} (he : q.e = e) (hi : q.id = (4, 1 + (k : Int))) (hm : RM X5 hd5 RG MS t) (ht : t < 16) :
    ∃ RG1 MS1, RM X5 hd5 RG1 MS1 (t + 1) ∧ kDec (n + 1) (At s (q :: RQ (some e) (k + 1) zs) js RG MS) (4, 1 + (k : Int)) r 0 = kNext (kDec n) (At s (RQ (some e) (k + 1) zs) (js ++ [deedE k e r]) RG1 MS1) (4, 1 + (k : Int)) r := by
  have hrow : Row (q :: RQ (some e) (k + 1) zs) := by
    have h1 := Row.plan ((true, e) :: zs) none k
    rw [RQ_true] at h1
    exact h1.head hi
  have hl : look (KS.rt (At s (q :: RQ (some e) (k + 1) zs) js RG MS)) (4, 1 + (k : Int)) = some q := by rw [← hi]; exact pairs_look
  have hdel : { At s (q :: RQ (some e) (k + 1) zs) js RG MS with rt := del (KS.rt (At s (q :: RQ (some e) (k + 1) zs) js RG MS)) (4, 1 + (k : Int)) } = At s (RQ (some e) (k + 1) zs) js RG MS := by
    have : del (KS.rt (At s (q :: RQ (some e) (k + 1) zs) js RG MS)) (4, 1 + (k : Int)) = pairsQ (RQ (some e) (k + 1) zs) := by rw [← hi]; exact hrow.del
    rw [this]; rfl
  obtain ⟨RG1, MS1, hm1, htell⟩ := At.tell hQ (D := kDec n) (rs := RQ (some e) (k + 1) zs) (js := js) hm ht (d := deedE k e r) rfl
  exact ⟨RG1, MS1, hm1, by rw [kDec_some hl, hdel, At.forget hQ, he, show ((4, 1 + (k : Int)), e.tag, e.op, r, 0, false) = deedE k e r from rfl, htell]⟩
omit hQ in
theorem next_quit {zs : List (Bool × Sqe)} {e : Sqe} {k : Nat} {js : List Deed} {r : Int} {n : Nat} {RG : List (Int × Nat × Rg)} {MS : List (List Int)} (h : ∀ x, afterQ (pairsQ (RQ (some e) (k + 1) zs)) (4, 1 + (k : Int)) = some x → ¬ (x.soft = true ∧ r < 0)) : kNext (kDec n) (At s (RQ (some e) (k + 1) zs) js RG MS) (4, 1 + (k : Int)) r = At s (RQ (some e) (k + 1) zs) js RG MS := by
  unfold kNext
  rw [show afterQ (KS.rt (At s (RQ (some e) (k + 1) zs) js RG MS)) (4, 1 + (k : Int)) = afterQ (pairsQ (RQ (some e) (k + 1) zs)) (4, 1 + (k : Int)) from rfl]
  cases hx : afterQ (pairsQ (RQ (some e) (k + 1) zs)) (4, 1 + (k : Int)) with
  | none => rfl
  | some x => dsimp only; rw [if_neg (h x hx)]
/-- The first of a row is decided, with whom that cuts. -/
theorem dec_row : ∀ (zs : List (Bool × Sqe)) (e : Sqe) (q : Rq) (k : Nat) (js : List Deed) (r : Int) (n : Nat) (RG : List (Int × Nat × Rg)) (MS : List (List Int)) (t : Nat), q.e = e → q.id = (4, 1 + (k : Int)) → RM X5 hd5 RG MS t → t + zs.length < 16 → (RQ (some e) (k + 1) zs).length ≤ n →
    ∃ m p' pre RG' MS', m ≤ zs.length ∧ RM X5 hd5 RG' MS' (t + 1 + pre.length) ∧ pre.length ≤ m ∧ kDec (n + 1) (At s (q :: RQ (some e) (k + 1) zs) js RG MS) (4, 1 + (k : Int)) r 0 = At s (RQ p' (k + 1 + m) (zs.drop m)) (js ++ deedE k e r :: pre) RG' MS' ∧ resZ (cutE r e) (k + 1) zs = pre ++ resZ false (k + 1 + m) (zs.drop m) := by
  intro zs
  induction zs with
  | nil =>
    intro e q k js r n RG MS t he hi hm ht hn
    obtain ⟨RG1, MS1, hm1, hs⟩ := dec_step hQ (zs := []) (js := js) (r := r) (n := n) he hi hm (by omega)
    exact ⟨0, some e, [], RG1, MS1, by omega, hm1, by simp, by rw [hs, next_quit (fun x hx => by rw [after_row] at hx; cases hx)]; rfl, rfl⟩
  | cons z zs' ih =>
    intro e q k js r n RG MS t he hi hm ht hn
    rw [List.length_cons] at ht
    obtain ⟨RG1, MS1, hm1, hs⟩ := dec_step hQ (zs := z :: zs') (js := js) (r := r) (n := n) he hi hm (by omega)
    have haf := after_row (zs := z :: zs') (e := e) (k := k)
    obtain ⟨b, e'⟩ := z
    cases b with
    | false => exact ⟨0, some e, [], RG1, MS1, by omega, hm1, by simp, by rw [hs, next_quit (fun x hx => by rw [haf] at hx; cases hx)]; rfl, by
        show resZ (cutE r e) (k + 1) ((false, e') :: zs') = resZ false (k + 1) ((false, e') :: zs')
        unfold resZ; rfl⟩
    | true =>
      dsimp only at haf
      by_cases hc : cutE r e = true
      · obtain ⟨c1, c2, c3⟩ := soft_row (e' := e') (k := k).2 hc
        rw [if_pos c1] at haf
        rw [RQ_true, List.length_cons] at hn
        obtain ⟨n', rfl⟩ : ∃ n', n = n' + 1 := ⟨n - 1, by omega⟩
        obtain ⟨m, p', pre, RG', MS', g1, g2, g3, g4, g5⟩ := ih e' (reqP 4 1 (some e) (k + 1) e') (k + 1) (js ++ [deedE k e r]) (-9) n' RG1 MS1 (t + 1) rfl rfl hm1 (by omega) (by omega)
        refine ⟨m + 1, p', deedE (k + 1) e' (-9) :: pre, RG', MS', by rw [List.length_cons]; omega, ?_, by rw [List.length_cons]; omega, ?_, ?_⟩
        · rw [List.length_cons, show t + 1 + (pre.length + 1) = t + 1 + 1 + pre.length by omega]; exact g2
        · rw [hs]
          unfold kNext
          rw [show afterQ (KS.rt (At s (RQ (some e) (k + 1) ((true, e') :: zs')) (js ++ [deedE k e r]) RG1 MS1)) (4, 1 + (k : Int)) = _ from haf]
          dsimp only
          rw [if_pos ⟨c2, c3⟩, RQ_true]
          refine g4.trans ?_
          rw [List.append_assoc, List.drop_succ_cons, show k + 1 + 1 + m = k + 1 + (m + 1) by omega]; rfl
        · rw [hc]
          show deedE (k + 1) e' (-9) :: resZ (cutE (-9) e') (k + 1 + 1) zs' = _
          rw [g5, List.drop_succ_cons, show k + 1 + 1 + m = k + 1 + (m + 1) by omega]; rfl
      · refine ⟨0, some e, [], RG1, MS1, by omega, hm1, by simp, ?_, by rw [Bool.not_eq_true] at hc; rw [hc]; rfl⟩
        rw [hs, next_quit (fun x hx h => hc ?_)]
        · rfl
        · rw [haf] at hx
          split at hx
          · rename_i h3
            cases hx
            exact soft_row.1 ⟨h3, h.1, h.2⟩
          · cases hx
end
end Go.Pse
namespace Go.Pse
open Go.RowKit Go.Proofs

variable {X5 : List Int} {hd5 : Int}
theorem next_row {p : Option Sqe} {k : Nat} {e : Sqe} {zs : List (Bool × Sqe)} : nextQ (pairsQ (RQ p k ((true, e) :: zs))) 4 = some (4, 1 + (k : Int)) := by
  have hr := Row.plan ((true, e) :: zs) p k
  unfold nextQ
  rw [hr.of, RQ_true]
  have hg : goQ (pairsQ (reqP 4 1 p k e :: RQ (some e) (k + 1) zs)) 4 0 (reqP 4 1 p k e) = true := by
    unfold goQ freeQ
    have hn : (reqP 4 1 p k e).prev = 0 ∨ look (pairsQ (reqP 4 1 p k e :: RQ (some e) (k + 1) zs)) (4, (reqP 4 1 p k e).prev) = none := by
      have h1 := planP_ids ((true, e) :: zs) p k
      rw [RQ_true] at h1
      rcases (h1 _ (List.mem_cons_self)).2.2.2 with h | h
      · exact .inl h
      · refine .inr (pairs_none fun q hq hi => ?_)
        have h2 := (h1 q hq).2.1
        have h3 := congrArg Prod.snd hi
        have h4 : (reqP 4 1 p k e).id.2 = 1 + (k : Int) := rfl
        simp only at h3
        omega
    rcases hn with h | h
    · simp [h, reqP] at *
      simp [h]
    · simp [h]; simp [reqP]
  unfold nextF
  rw [if_pos hg]; rfl
section
variable {s : KS} {T : Th} (hQ : Quiet s T)
include hQ
theorem act_row {q : Rq} {l : List Rq} {js : List Deed} {RG : List (Int × Nat × Rg)} {MS : List (List Int)} {k : Nat} (hi : q.id = (4, 1 + (k : Int))) (hd : dullE q.e) (hr : Row (q :: l)) (hl : ∀ x ∈ l, x.e.tag ≠ 999) (b : Nat) : kAct (At s (q :: l) js RG MS) (4, 1 + (k : Int)) b = (At s (q :: l) js RG MS, some (resE false q.e, 0)) := by
  have h1 : look (KS.rt (At s (q :: l) js RG MS)) (4, 1 + (k : Int)) = some q := by rw [← hi]; exact pairs_look
  have h2 : kOwner (At s (q :: l) js RG MS) (4 : Int) = some T := hQ.ow
  unfold kAct
  rw [h1]
  dsimp only
  rw [h2]
  dsimp only
  rcases hd with ⟨ho | ⟨ho, ha⟩, ht⟩
  · unfold kDoes resE
    rw [if_pos ho, ho]; rfl
  · unfold kDoes resE
    rw [ho]
    simp only [show ((20 : Int) = 1) = False by decide, show ((20 : Int) = 2) = False by decide, show ((20 : Int) = 3) = False by decide, show ((20 : Int) = 4) = False by decide, show ((20 : Int) = 5) = False by decide, show ((20 : Int) = 6) = False by decide, show ((20 : Int) = 7) = False by decide, show ((20 : Int) = 8) = False by decide, show ((20 : Int) = 9) = False by decide, show ((20 : Int) = 10) = False by decide, show ((20 : Int) = 11) = False by decide, show ((20 : Int) = 12) = False by decide, show ((20 : Int) = 13) = False by decide, show ((20 : Int) = 14) = False by decide, show ((20 : Int) = 15) = False by decide, show ((20 : Int) = 16) = False by decide, show ((20 : Int) = 17) = False by decide, show ((20 : Int) = 18) = False by decide, show ((20 : Int) = 19) = False by decide, or_false, if_false, if_true, Bool.false_eq_true]
    have hn : tagQ (KS.rt (At s (q :: l) js RG MS)) 4 q.e.a (1 + (k : Int)) = none := by
      unfold tagQ
      rw [show ofQ (KS.rt (At s (q :: l) js RG MS)) 4 = q :: l from hr.of, List.find?_eq_none.2 (fun x hx => by
        rcases List.mem_cons.1 hx with rfl | hx
        · rw [ha]; simp [ht]
        · rw [ha]; simp [hl x hx])]
      rfl
    unfold kCancels
    dsimp only
    rw [hn]; rfl
theorem start_row {e : Sqe} {p : Option Sqe} {k : Nat} {zs : List (Bool × Sqe)} {js : List Deed} {RG : List (Int × Nat × Rg)} {MS : List (List Int)} {t : Nat} (hd : dullE e) (hz : ∀ z ∈ zs, z.2.tag ≠ 999) (hm : RM X5 hd5 RG MS t) (ht : t + zs.length < 16) (b : Nat) :
    ∃ m p' pre RG' MS', m ≤ zs.length ∧ RM X5 hd5 RG' MS' (t + 1 + pre.length) ∧ pre.length ≤ m ∧ (kStart (At s (RQ p k ((true, e) :: zs)) js RG MS) (4, 1 + (k : Int)) b).1 = At s (RQ p' (k + 1 + m) (zs.drop m)) (js ++ deedE k e (resE false e) :: pre) RG' MS' ∧ resZ (cutE (resE false e) e) (k + 1) zs = pre ++ resZ false (k + 1 + m) (zs.drop m) := by
  have hr := Row.plan ((true, e) :: zs) p k
  rw [RQ_true] at hr ⊢
  have h1 : look (KS.rt (At s (reqP 4 1 p k e :: RQ (some e) (k + 1) zs) js RG MS)) (4, 1 + (k : Int)) = some (reqP 4 1 p k e) := pairs_look
  have hl : ∀ x ∈ RQ (some e) (k + 1) zs, x.e.tag ≠ 999 := by
    have : ∀ (zs : List (Bool × Sqe)) (p : Option Sqe) (k : Nat), (∀ z ∈ zs, z.2.tag ≠ 999) → ∀ x ∈ RQ p k zs, x.e.tag ≠ 999 := by
      intro zs
      induction zs with
      | nil => intro p k _ x hx; cases hx
      | cons z zs ih =>
        intro p k h x hx
        obtain ⟨b, e⟩ := z
        cases b with
        | false => rw [RQ_false] at hx; exact ih _ _ (fun z hz => h z (List.mem_cons_of_mem _ hz)) x hx
        | true =>
          rw [RQ_true] at hx
          rcases List.mem_cons.1 hx with rfl | hx
          · exact h (true, e) (List.mem_cons_self)
          · exact ih _ _ (fun z hz => h z (List.mem_cons_of_mem _ hz)) x hx
    exact this zs _ _ hz
  have hst : { At s (reqP 4 1 p k e :: RQ (some e) (k + 1) zs) js RG MS with rt := rtS (KS.rt (At s (reqP 4 1 p k e :: RQ (some e) (k + 1) zs) js RG MS)) (4, 1 + (k : Int)) } = At s ({ reqP 4 1 p k e with started := true } :: RQ (some e) (k + 1) zs) js RG MS := by
    have : rtS (KS.rt (At s (reqP 4 1 p k e :: RQ (some e) (k + 1) zs) js RG MS)) (4, 1 + (k : Int)) = pairsQ ({ reqP 4 1 p k e with started := true } :: RQ (some e) (k + 1) zs) := hr.start
    rw [this]; rfl
  have ha := act_row hQ (q := { reqP 4 1 p k e with started := true }) (l := RQ (some e) (k + 1) zs) (js := js) (RG := RG) (MS := MS) (k := k) rfl hd (hr.head rfl) hl b
  obtain ⟨m, p', pre, RG', MS', g1, g2, g3, g4, g5⟩ := dec_row hQ zs e { reqP 4 1 p k e with started := true } k js (resE false e) (RQ (some e) (k + 1) zs).length RG MS t rfl rfl hm ht (Nat.le_refl _)
  refine ⟨m, p', pre, RG', MS', g1, g2, g3, ?_, g5⟩
  rw [kStart_is h1 rfl, hst, ha]
  show kDec (pairsQ _).length _ _ _ _ = _
  rw [show (pairsQ ({ reqP 4 1 p k e with started := true } :: RQ (some e) (k + 1) zs)).length = (RQ (some e) (k + 1) zs).length + 1 by unfold pairsQ; rw [List.length_map, List.length_cons]]
  exact g4
/-- A row of requests that do nothing, or fail, runs. -/
theorem run_row {β : Nat → Nat} : ∀ (L : Nat) (zs : List (Bool × Sqe)) (p : Option Sqe) (k : Nat) (js : List Deed) (RG : List (Int × Nat × Rg)) (MS : List (List Int)) (t fuel j : Nat), zs.length ≤ L → (∀ z ∈ zs, z.2.tag ≠ 999 ∧ (z.1 = true → dullE z.2)) → RM X5 hd5 RG MS t → t + zs.length ≤ 16 → zs.length ≤ fuel →
    ∃ RG' MS' c, RM X5 hd5 RG' MS' (t + (resZ false k zs).length) ∧ kRunN 4 β fuel j (At s (RQ p k zs) js RG MS) = (At s [] (js ++ resZ false k zs) RG' MS', c) := by
  intro L
  induction L with
  | zero =>
    intro zs p k js RG MS t fuel j hL hz hm ht hf
    obtain rfl : zs = [] := List.length_eq_zero_iff.1 (by omega)
    exact ⟨RG, MS, 0, hm, by rw [run_nil rfl]; show (At s [] js RG MS, 0) = (At s [] (js ++ []) RG MS, 0); rw [List.append_nil]⟩
  | succ L ih =>
    intro zs p k js RG MS t fuel j hL hz hm ht hf
    match zs, hL, hz, ht, hf with
    | [], _, _, _, _ => exact ⟨RG, MS, 0, hm, by rw [run_nil rfl]; show (At s [] js RG MS, 0) = (At s [] (js ++ []) RG MS, 0); rw [List.append_nil]⟩
    | (false, e) :: zs, hL, hz, ht, hf =>
      rw [List.length_cons] at hL ht hf
      obtain ⟨RG', MS', c, g1, g2⟩ := ih zs none (k + 1) js RG MS t fuel j (by omega) (fun z h => hz z (List.mem_cons_of_mem _ h)) hm (by omega) (by omega)
      rw [RQ_false]
      exact ⟨RG', MS', c, g1, g2⟩
    | (true, e) :: zs, hL, hz, ht, hf =>
      rw [List.length_cons] at hL ht hf
      obtain ⟨f, rfl⟩ : ∃ f, fuel = f + 1 := ⟨fuel - 1, by omega⟩
      have hz' := fun z h => hz z (List.mem_cons_of_mem _ h)
      obtain ⟨m, p', pre, RG1, MS1, g1, g2, g3, g4, g5⟩ := start_row hQ (p := p) (k := k) (js := js) ((hz (true, e) (List.mem_cons_self)).2 rfl) (fun z h => (hz' z h).1) hm (by omega) (β j)
      obtain ⟨RG', MS', c, k1, k2⟩ := ih (zs.drop m) p' (k + 1 + m) (js ++ deedE k e (resE false e) :: pre) RG1 MS1 (t + 1 + pre.length) f (j + 1) (by rw [List.length_drop]; omega) (fun z h => hz' z (List.mem_of_mem_drop h)) g2 (by rw [List.length_drop]; omega) (by rw [List.length_drop]; omega)
      have hres : resZ false k ((true, e) :: zs) = deedE k e (resE false e) :: (pre ++ resZ false (k + 1 + m) (zs.drop m)) := by
        show deedE k e (resE false e) :: resZ (cutE (resE false e) e) (k + 1) zs = _
        rw [g5]
      refine ⟨RG', MS', c + 1, ?_, ?_⟩
      · rw [hres, List.length_cons, List.length_append, show t + (pre.length + (resZ false (k + 1 + m) (zs.drop m)).length + 1) = t + 1 + pre.length + (resZ false (k + 1 + m) (zs.drop m)).length by omega]
        exact k1
      · unfold kRunN
        rw [show nextQ (KS.rt (At s (RQ p k ((true, e) :: zs)) js RG MS)) 4 = some (4, 1 + (k : Int)) from next_row]
        dsimp only
        rw [g4, k2, hres, List.append_assoc]; rfl
end
end Go.Pse
namespace Go.Pse
open Go.RowKit Go.Proofs

variable {X5 : List Int} {hd5 : Int}
/-- What is told of those that are not right. -/
def badZ : Nat → List (List Int) → List Deed
  | _, [] => []
  | k, bs :: r => if goodE bs = true then badZ (k + 1) r else badD 4 1 k bs :: badZ (k + 1) r
theorem pairs_app {a b : List Rq} : pairsQ (a ++ b) = pairsQ a ++ pairsQ b := by unfold pairsQ; rw [List.map_append]
section
variable {s : KS} {T : Th} (hQ : Quiet s T)
include hQ
/-- Entries of one ring are taken, one behind the other. -/
theorem take_row : ∀ (raw : List (List Int)) (p : Option Sqe) (k : Nat) (dn : List Rq) (js : List Deed) (RG : List (Int × Nat × Rg)) (MS : List (List Int)) (t : Nat), (∀ q ∈ dn, q.id.2 < 1 + (k : Int)) → dn.length + raw.length ≤ 16 → (∀ bs ∈ raw, goodE bs = true → (entE bs).time = 0 ∧ bits .and .i64 (entE bs).flags 8 = 0) → RM X5 hd5 RG MS t → t + raw.length ≤ 16 →
    ∃ RG' MS', RM X5 hd5 RG' MS' (t + (badZ k raw).length) ∧ takeF 4 1 p k raw (At s dn js RG MS) = At s (dn ++ RQ p k (raw.map zOf)) (js ++ badZ k raw) RG' MS' := by
  intro raw
  induction raw with
  | nil => intro p k dn js RG MS t _ _ _ hm _; exact ⟨RG, MS, hm, by show At s dn js RG MS = At s (dn ++ []) (js ++ []) RG MS; rw [List.append_nil, List.append_nil]⟩
  | cons bs raw ih =>
    intro p k dn js RG MS t hdn hl hb hm ht
    rw [List.length_cons] at hl ht
    have hb' := fun b h => hb b (List.mem_cons_of_mem _ h)
    rw [takeF]
    by_cases hg : goodE bs = true
    · rw [if_pos hg]
      obtain ⟨h1, h2⟩ := hb bs (List.mem_cons_self) hg
      have hdd : ∀ now, deadE (reqP 4 1 p k (entE bs)).e now = none := fun now => by
        show deadE (entE bs) now = none
        unfold deadE
        rw [if_neg (by rw [h2]; decide), if_neg (by rw [h1]; decide)]
      have hno : look (pairsQ dn) (4, 1 + (k : Int)) = none := pairs_none fun q hq e => by
        have := hdn q hq
        rw [e] at this
        simp only at this
        omega
      have hadd : addT (At s dn js RG MS) (reqP 4 1 p k (entE bs)) = At s (dn ++ [reqP 4 1 p k (entE bs)]) js RG MS := by
        have ho : addOk (pairsQ dn) (reqP 4 1 p k (entE bs)) = true := by
          unfold addOk
          rw [show look (pairsQ dn) (reqP 4 1 p k (entE bs)).id = none from hno]
          have := ofQ_len (pairsQ dn) 4
          unfold pairsQ at this
          rw [List.length_map] at this
          show (!Option.isSome none && decide ((ofQ (pairsQ dn) 4).length < 16)) = true
          simp
          unfold pairsQ
          omega
        have hq : addQ (pairsQ dn) (reqP 4 1 p k (entE bs)) = pairsQ (dn ++ [reqP 4 1 p k (entE bs)]) := by
          unfold addQ
          rw [if_pos ho, pairs_app]
          unfold Go.Pse.ins
          rw [show look (pairsQ dn) (reqP 4 1 p k (entE bs)).id = none from hno]; rfl
        unfold addT
        rw [hdd]
        show ({ At s dn js RG MS with rt := addQ (pairsQ dn) (reqP 4 1 p k (entE bs)) } : KS) = _
        rw [hq]; rfl
      obtain ⟨RG', MS', g1, g2⟩ := ih (some (entE bs)) (k + 1) (dn ++ [reqP 4 1 p k (entE bs)]) js RG MS t (fun q hq => by
        rcases List.mem_append.1 hq with hq | hq
        · have := hdn q hq; omega
        · rw [List.mem_singleton.1 hq]; show 1 + (k : Int) < _; omega) (by rw [List.length_append, List.length_singleton]; omega) hb' hm (by omega)
      refine ⟨RG', MS', ?_, ?_⟩
      · show RM X5 hd5 RG' MS' (t + (if goodE bs = true then badZ (k + 1) raw else _).length)
        rw [if_pos hg]; exact g1
      · rw [hadd, g2]
        show _ = At s (dn ++ RQ p k ((goodE bs, entE bs) :: raw.map zOf)) (js ++ (if goodE bs = true then badZ (k + 1) raw else _)) RG' MS'
        rw [if_pos hg, hg, RQ_true, List.append_assoc]; rfl
    · rw [if_neg hg]
      obtain ⟨RG1, MS1, hm1, htl⟩ := At.tell hQ (D := kDec (At s dn js RG MS).rt.length) (rs := dn) (js := js) hm (by omega) (d := badD 4 1 k bs) rfl
      obtain ⟨RG', MS', g1, g2⟩ := ih none (k + 1) dn (js ++ [badD 4 1 k bs]) RG1 MS1 (t + 1) (fun q hq => by have := hdn q hq; omega) (by omega) hb' hm1 (by omega)
      refine ⟨RG', MS', ?_, ?_⟩
      · show RM X5 hd5 RG' MS' (t + (if goodE bs = true then _ else badD 4 1 k bs :: badZ (k + 1) raw).length)
        rw [if_neg hg, List.length_cons, show t + ((badZ (k + 1) raw).length + 1) = t + 1 + (badZ (k + 1) raw).length by omega]; exact g1
      · rw [htl, g2]
        show _ = At s (dn ++ RQ p k ((goodE bs, entE bs) :: raw.map zOf)) (js ++ (if goodE bs = true then _ else badD 4 1 k bs :: badZ (k + 1) raw)) RG' MS'
        rw [if_neg hg, show goodE bs = false by simpa using hg, RQ_false, List.append_assoc]; rfl
end
/-- All that is asked of a state in which the thread 2 enters, with t entries behind it. -/
structure Mid (S : KS) (b : Nat) (r : Rg) (t : Nat) : Prop where
  th : ∃ T, look S.th 2 = some T ∧ T.ring = 4 ∧ Quiet S T
  rg : S.rg = [(4, b, r)]
  rt : S.rt = []
  tk : S.tk = [(4, (t : Int))]
  rm : RM (rowAt S.mem 5) r.head S.rg S.mem t
  wt : rgWaitOk r S.mem = true
/-- .. for the first time. -/
structure Fresh (S : KS) (b : Nat) (r : Rg) : Prop where
  mid : Mid S b r 0
  jn : S.jn = []
theorem takeF_shift {t : Nat} : ∀ (raw : List (List Int)) (p : Option Sqe) (k : Nat) (s : KS), takeF 4 (1 + (t : Int)) p k raw s = takeF 4 1 p (t + k) raw s
  | [], _, _, _ => rfl
  | bs :: raw, p, k, s => by
    have e1 : (1 : Int) + (t : Int) + (k : Int) = 1 + ((t + k : Nat) : Int) := by omega
    have e2 : reqP 4 (1 + (t : Int)) p k (entE bs) = reqP 4 1 p (t + k) (entE bs) := by
      unfold reqP
      rw [e1, show prevP (1 + (t : Int)) p k = prevP 1 p (t + k) by unfold prevP; cases p <;> simp only [e1]]
    have e3 : badD 4 (1 + (t : Int)) k bs = badD 4 1 (t + k) bs := by unfold badD; rw [e1]
    rw [takeF, takeF, e2, e3, takeF_shift raw, takeF_shift raw, show t + (k + 1) = t + k + 1 by omega]
theorem both_le : ∀ (raw : List (List Int)) (p : Option Sqe) (k : Nat), (badZ k raw).length + (RQ p k (raw.map zOf)).length ≤ raw.length := by
  intro raw
  induction raw with
  | nil => intro p k; exact Nat.le_refl _
  | cons bs raw ih =>
    intro p k
    show (if goodE bs = true then badZ (k + 1) raw else badD 4 1 k bs :: badZ (k + 1) raw).length + (RQ p k ((goodE bs, entE bs) :: raw.map zOf)).length ≤ raw.length + 1
    by_cases hg : goodE bs = true
    · rw [if_pos hg, hg, RQ_true, List.length_cons]; have := ih (some (entE bs)) (k + 1); omega
    · rw [if_neg hg, show goodE bs = false by simpa using hg, RQ_false, List.length_cons]; have := ih none (k + 1); omega
/-- The ring as it stands, and how many are taken. -/
theorem Mid.look {S : KS} {b : Nat} {r : Rg} {t : Nat} (hF : Mid S b r t) {n : Int} {m : Nat} (hm : minI (rgWait r S.mem) (clampB n) = (m : Int)) : flushR r S.mem = (r, S.mem) ∧ flushS S 4 r = S ∧ takeN S 4 (clampB n) r = (m : Int) ∧ m ≤ (clampB n).toNat ∧ m ≤ 8 := by
  obtain ⟨b', r', hrg, h2, h3, h4, h5, h6, h7, h8, _⟩ := hF.rm
  have e := hrg.symm.trans hF.rg
  cases e
  have hov : flushR r S.mem = (r, S.mem) := by
    unfold flushR
    rw [h2]
    show ({ r with over := [] }, S.mem) = _
    cases r; simp only at h2; subst h2; rfl
  have hmw := rgWait_in (ms := S.mem) h6
  have hm8 : m ≤ 8 ∧ m ≤ (clampB n).toNat := by
    unfold minI at hm
    split at hm <;> omega
  refine ⟨hov, ?_, ?_, hm8.2, hm8.1⟩
  · unfold flushS
    rw [hF.rg, hov]
    have : updO [((4 : Int), b, r)] 4 (fun r => (flushR r S.mem).1) = [(4, b, (flushR r S.mem).1)] := rfl
    rw [this, hov]
    have h := hF.rg
    cases S; simp only at h; subst h; rfl
  · unfold takeN
    rw [hm, hF.rt, show (ofQ [] 4).length = 0 from rfl]
    unfold minI maxI
    (repeat' split) <;> omega
/-- A ring's next entries, of which none waits for anything. -/
theorem enter_mid {S : KS} {b : Nat} {r : Rg} {t : Nat} (hF : Mid S b r t) {n : Int} {m : Nat} (hm : minI (rgWait r S.mem) (clampB n) = (m : Int)) (h16 : t + m + m ≤ 16) (hb : ∀ bs ∈ takeRaw S r m, goodE bs = true → ((entE bs).time = 0 ∧ bits .and .i64 (entE bs).flags 8 = 0) ∧ dullE (entE bs)) (ht : ∀ bs ∈ takeRaw S r m, (entE bs).tag ≠ 999) (β : Nat → Nat) :
  ∃ RG MS, RM (rowAt (advM r S.mem (m : Int)) 5) (advR r (m : Int)).head RG MS (t + (badZ t (takeRaw S r m)).length + (resZ false t ((takeRaw S r m).map zOf)).length) ∧ kEnter S 2 n β = (At { S with tk := [(4, ((t + m : Nat) : Int))] } [] (S.jn ++ badZ t (takeRaw S r m) ++ resZ false t ((takeRaw S r m).map zOf)) RG MS, (m : Int)) := by
 obtain ⟨T, hT, hTr, hQ⟩ := hF.th
 obtain ⟨hov, hfl, htk, hcb, hm8⟩ := hF.look hm
 obtain ⟨b', r', hrg, h2, h3, h4, h5, h6, h7, h8, h9, h10, h11, h12⟩ := hF.rm
 have e := hrg.symm.trans hF.rg
 cases e
 have hl : Go.Pse.look S.rg 4 = some (b, r) := by rw [hF.rg]; rfl
 have hva : rgValid r S.mem = true := by
  unfold rgValid
  rw [hF.wt, Bool.true_and]
  unfold rgRoomOk rgFar
  rw [h3, h5, h8, h4, Int.sub_zero, wrap32u_of (by omega), show (2 : Int) ^ (Int.toNat 4) = 16 from rfl, decide_eq_false (by omega)]
  rfl
 obtain ⟨raw, hraw⟩ : ∃ raw, raw = takeRaw S r m := ⟨_, rfl⟩
 rw [← hraw] at hb ht ⊢
 have hrl : raw.length = m := by rw [hraw]; exact takeRaw_len S r m
 obtain ⟨S2, hS2⟩ : ∃ S2 : KS, S2 = { S with tk := [(4, ((t + m : Nat) : Int))] } := ⟨_, rfl⟩
 have hQ2 : Quiet S2 T := by rw [hS2]; exact ⟨hQ.tm, hQ.ep, hQ.nt, hQ.rp, hQ.ow⟩
 have hm0 : RM (rowAt (advM r S.mem (m : Int)) 5) (advR r (m : Int)).head [(4, b, advR r (m : Int))] (advM r S.mem (m : Int)) t := by
  refine ⟨b, advR r (m : Int), rfl, h2, h3, h4, h5, advR_ok h6 _, advM_ok h6 h7 _, ?_, rfl, h10, h11, rfl⟩
  unfold advM
  rw [h10, rowAt_set (u := 5) (by omega) (by omega) h7.len, if_neg (by decide)]
  exact h8
 have hkt : kTake (kAdv S 4 r (m : Int)) 4 (m : Int) = At S2 [] S.jn [(4, b, advR r (m : Int))] (advM r S.mem (m : Int)) := by
  rw [hS2]
  unfold kAdv
  rw [hF.rg, show updO [((4 : Int), b, r)] 4 (fun r => advR r (m : Int)) = [(4, b, advR r (m : Int))] from rfl]
  unfold kTake At
  have g1 := hF.tk
  have g2 := hF.rt
  cases S
  simp only at g1 g2
  subst g1; subst g2
  show ({ .. } : KS) = _
  simp [Go.Pse.look, Go.Pse.ins, pairsQ]
 have hkv : kTakeV (kAdv S 4 r (m : Int)) 4 (m : Int) = 1 + (t : Int) := by
  unfold kTakeV kAdv
  show (if (Go.Pse.look S.tk 4).isSome = true then (Go.Pse.look S.tk 4).getD 0 + 1 else 0) = _
  rw [hF.tk]
  show (t : Int) + 1 = _
  omega
 obtain ⟨RG1, MS1, q1, q2⟩ := take_row hQ2 raw none t [] S.jn _ _ t (fun q hq => by cases hq) (by rw [hrl]; simp; omega) (fun bs h1 h2 => (hb bs h1 h2).1) hm0 (by omega)
 have hzl : (raw.map zOf).length = m := by rw [List.length_map, hrl]
 have hbl := both_le raw none t
 obtain ⟨RG2, MS2, c, k1, k2⟩ := run_row hQ2 (β := β) m (raw.map zOf) none t (S.jn ++ badZ t raw) RG1 MS1 (t + (badZ t raw).length) (clampB n).toNat 0 (by omega) (fun z hz => by
  obtain ⟨bs, hbs, rfl⟩ := List.mem_map.1 hz
  exact ⟨ht bs hbs, fun h => (hb bs hbs h).2⟩) q1 (by omega) (by omega)
 refine ⟨RG2, MS2, k1, ?_⟩
 unfold kEnter
 rw [hT]
 dsimp only
 rw [hTr, hl]
 dsimp only
 rw [if_neg (by rw [hva]; decide), hov, if_neg (by rw [h2]; simp), hfl]
 unfold kGoOn kTakeIn
 rw [hl]
 dsimp only
 rw [if_pos hva, htk]
 dsimp only
 unfold kTaken
 rw [Int.toNat_natCast, hkv, hkt, ← hraw, takeF_shift, Nat.add_zero, q2, List.nil_append]
 rw [k2, hS2]
/-- A ring's first entries, of which none waits for anything: all that there is behind. -/
theorem enter_row {S : KS} {b : Nat} {r : Rg} (hF : Fresh S b r) {n : Int} {m : Nat} (hm : rgWait r S.mem = (m : Int)) (hn : (m : Int) ≤ n) (hb : ∀ bs ∈ takeRaw S r m, goodE bs = true → ((entE bs).time = 0 ∧ bits .and .i64 (entE bs).flags 8 = 0) ∧ dullE (entE bs)) (ht : ∀ bs ∈ takeRaw S r m, (entE bs).tag ≠ 999) (β : Nat → Nat) :
    ∃ X hd RG MS, RM X hd RG MS ((badZ 0 (takeRaw S r m)).length + (resZ false 0 ((takeRaw S r m).map zOf)).length) ∧ kEnter S 2 n β = (At { S with tk := [(4, (m : Int))] } [] (badZ 0 (takeRaw S r m) ++ resZ false 0 ((takeRaw S r m).map zOf)) RG MS, (m : Int)) := by
  obtain ⟨b', r', hrg, _, _, _, _, h6, _⟩ := hF.mid.rm
  have e := hrg.symm.trans hF.mid.rg
  cases e
  have hmw := rgWait_in (ms := S.mem) h6
  have hm2 : minI (rgWait r S.mem) (clampB n) = (m : Int) := by
    unfold clampB minI maxI
    (repeat' split) <;> omega
  obtain ⟨RG, MS, g1, g2⟩ := enter_mid hF.mid hm2 (by omega) hb ht β
  rw [Nat.zero_add] at g1 g2
  exact ⟨_, _, RG, MS, g1, by rw [g2, hF.jn, List.nil_append]⟩
end Go.Pse
namespace Go.Pse
open Go.RowKit Go.Proofs

/-! ### plain: what stands in a ring's memory -/
theorem get_same {bs ys : List Int} {a : Nat} (h : a + ys.length ≤ bs.length) : ((putB bs a ys).drop a).take ys.length = ys := by
  unfold putB
  rw [List.append_assoc, List.drop_left' (by rw [List.length_take]; omega)]
  exact List.take_left' rfl
theorem get_far {bs ys : List Int} {a o n : Nat} (h : a + ys.length ≤ bs.length) (hf : o + n ≤ a ∨ a + ys.length ≤ o) : ((putB bs a ys).drop o).take n = (bs.drop o).take n := by
  refine List.ext_getElem? fun i => ?_
  by_cases hi : i < n
  · rw [List.getElem?_take_of_lt hi, List.getElem?_take_of_lt hi, List.getElem?_drop, List.getElem?_drop]
    unfold putB
    rcases hf with hf | hf
    · rw [List.append_assoc, List.getElem?_append_left (by rw [List.length_take]; omega), List.getElem?_take_of_lt (by omega)]
    · rw [List.getElem?_append_right (by simp; omega), List.getElem?_drop]
      congr 1
      simp
      omega
  · rw [List.getElem?_eq_none (by simp; omega), List.getElem?_eq_none (by simp; omega)]
theorem getN_of {bs cs : List Int} {a b : Nat} (h : (bs.drop a).take 4 = (cs.drop b).take 4) : getN bs a 4 = getN cs b 4 := by
  rw [← getN_part (bs := bs), ← getN_part (bs := cs), h]
theorem getN_le4 {n : Int} (h : 0 ≤ n ∧ n < 4294967296) : getN (le4 n) 0 4 = n := by
  simp only [getN, byteAt, le4]
  simp
  omega
theorem getN_put {bs : List Int} {a : Nat} {n : Int} (hl : a + 4 ≤ bs.length) (h : 0 ≤ n ∧ n < 4294967296) : getN (putB bs a (le4 n)) a 4 = n := by
  rw [getN_of (cs := le4 n) (b := 0) (by
    have := get_same (bs := bs) (ys := le4 n) (a := a) (by show a + 4 ≤ _; exact hl)
    rw [show (le4 n).length = 4 from rfl] at this
    rw [this]; rfl), getN_le4 h]
/-- Bytes laid where entries lie. -/
def layB : Nat → List (List Int) → KS → KS
  | _, [], s => s
  | i, ys :: yss, s => layB (i + 1) yss (memS s 4 (16 + 32 * i) ys)
theorem layB_snoc {ys : List Int} : ∀ (yss : List (List Int)) (i : Nat) (s : KS), layB i (yss ++ [ys]) s = memS (layB i yss s) 4 (16 + 32 * (i + yss.length)) ys
  | [], i, s => rfl
  | y :: yss, i, s => by
    rw [List.cons_append, layB, layB, layB_snoc yss, List.length_cons, show i + 1 + yss.length = i + (yss.length + 1) by omega]
theorem layE_B : ∀ (es : List Sqe) (i : Nat) (s : KS), layE i es s = layB i (es.map rawE) s
  | [], _, _ => rfl
  | e :: es, i, s => layE_B es (i + 1) _
theorem layB_is : ∀ (yss : List (List Int)) (i : Nat) (s : KS), layB i yss s = { s with mem := (layB i yss s).mem }
  | [], _, _ => rfl
  | y :: yss, i, s => by
    unfold layB
    rw [layB_is yss]
theorem row_mem {s : KS} (hl : s.mem.length = 64) {off : Nat} {ys : List Int} {c : Int} (hc : 1 ≤ c) : rowAt (memS s 4 off ys).mem c = if c = 5 then putB (rowAt s.mem 5) off ys else rowAt s.mem c := by
  have := rowAt_set (ms := s.mem) (u := 5) (c := c) (x := putB (rowAt s.mem 5) off ys) (by omega) hc hl
  exact this
theorem EInv.layB {p : Sqe → Bool} : ∀ (yss : List (List Int)) {i : Nat} {s : KS} {N M : Nat}, EInv p s N M → (∀ ys ∈ yss, ys.length = 32 ∧ Bytes ys) → i + yss.length ≤ 8 → EInv p (layB i yss s) N M
  | [], _, _, _, _, h, _, _ => h
  | y :: yss, i, s, N, M, h, hy, hi => by
    rw [List.length_cons] at hi
    have := hy y (List.mem_cons_self)
    exact EInv.layB yss (h.memS (u := 4) (off := 16 + 32 * i) (ys := y) (by omega) (by omega) this.2) (fun z hz => hy z (List.mem_cons_of_mem _ hz)) (by omega)
theorem lay_far : ∀ (yss : List (List Int)) {i : Nat} {s : KS}, MemOk s.mem → (∀ ys ∈ yss, ys.length = 32 ∧ Bytes ys) → i + yss.length ≤ 8 → MemOk (layB i yss s).mem ∧ (∀ o n, o + n ≤ 16 + 32 * i → ((rowAt (layB i yss s).mem 5).drop o).take n = ((rowAt s.mem 5).drop o).take n) ∧ (∀ c, 1 ≤ c → c ≠ 5 → rowAt (layB i yss s).mem c = rowAt s.mem c) ∧ ∀ j ys, yss[j]? = some ys → ((rowAt (layB i yss s).mem 5).drop (16 + 32 * (i + j))).take 32 = ys
  | [], _, _, h, _, _ => ⟨h, fun _ _ _ => rfl, fun _ _ _ => rfl, fun j ys h => by cases h⟩
  | y :: yss, i, s, h, hy, hi => by
    rw [List.length_cons] at hi
    obtain ⟨y1, y2⟩ := hy y (List.mem_cons_self)
    obtain ⟨_, r2, r3⟩ := h.at (u := 5) (by omega)
    have hm : MemOk (memS s 4 (16 + 32 * i) y).mem := h.put ⟨by show (putB (rowAt s.mem 5) _ _).length = 512; rw [putB_len (by omega), r2], putB_bytes r3 y2⟩
    have hr : rowAt (memS s 4 (16 + 32 * i) y).mem 5 = putB (rowAt s.mem 5) (16 + 32 * i) y := by rw [row_mem h.len (by omega), if_pos rfl]
    obtain ⟨g1, g2, g3, g4⟩ := lay_far yss (i := i + 1) hm (fun z hz => hy z (List.mem_cons_of_mem _ hz)) (by omega)
    refine ⟨g1, fun o n hon => ?_, fun c hc hc5 => ?_, fun j ys hj => ?_⟩
    · show ((rowAt (layB (i + 1) yss _).mem 5).drop o).take n = _
      rw [g2 o n (by omega), hr, get_far (by omega) (.inl hon)]
    · show rowAt (layB (i + 1) yss _).mem c = _
      rw [g3 c hc hc5, row_mem h.len hc, if_neg hc5]
    · show ((rowAt (layB (i + 1) yss _).mem 5).drop _).take 32 = _
      cases j with
      | zero =>
        cases hj
        rw [Nat.add_zero, g2 _ _ (by omega), hr]
        have := get_same (bs := rowAt s.mem 5) (ys := y) (a := 16 + 32 * i) (by omega)
        rw [y1] at this
        exact this
      | succ j => rw [show i + (j + 1) = i + 1 + j by omega]; exact g4 j ys hj
def KL (g : NewG) : KS := kNew 1 4 3 4 false g
/-- A ring of 8, with so many entries as bytes. -/
def rawS (g : NewG) (yss : List (List Int)) : KS := memS (layB 0 yss (KL g)) 4 4 (le4 (yss.length : Int))
theorem fresh_raw (g : NewG) {yss : List (List Int)} (hy : ∀ ys ∈ yss, ys.length = 32 ∧ Bytes ys) (hl : yss.length ≤ 8) : Fresh (rawS g yss) (g.bs 0).1 (rgNew 5 6 3 4) ∧ rgWait (rgNew 5 6 3 4) (rawS g yss).mem = (yss.length : Int) ∧ takeRaw (rawS g yss) (rgNew 5 6 3 4) yss.length = yss := by
  have hM : MemOk (KL g).mem := zrow_ok
  obtain ⟨h1, h2, h3, h4⟩ := lay_far yss (i := 0) hM hy (by omega)
  obtain ⟨_, r2, r3⟩ := h1.at (u := 5) (by omega)
  have hr : rowAt (rawS g yss).mem 5 = putB (rowAt (layB 0 yss (KL g)).mem 5) 4 (le4 (yss.length : Int)) := by unfold rawS; rw [row_mem h1.len (by omega), if_pos rfl]
  have hm : MemOk (rawS g yss).mem := h1.put ⟨by show (putB (rowAt (layB 0 yss (KL g)).mem 5) _ _).length = 512; rw [putB_len (by rw [r2]; simp [le4]), r2], putB_bytes r3 (le4_bytes _)⟩
  have hnear : rgNear (rgNew 5 6 3 4) (rawS g yss).mem = (yss.length : Int) := by
    unfold rgNear
    rw [show (rgNew 5 6 3 4).sq = 5 from rfl, hr, getN_put (by rw [r2]; omega) (by omega), show (rgNew 5 6 3 4).head = 0 from rfl, Int.sub_zero, wrap32u_of (by omega)]
  have hwo : rgWaitOk (rgNew 5 6 3 4) (rawS g yss).mem = true := by
    unfold rgWaitOk
    rw [hnear, show (2 : Int) ^ (rgNew 5 6 3 4).sb.toNat = 8 from rfl, decide_eq_false (by omega)]; rfl
  have hw : rgWait (rgNew 5 6 3 4) (rawS g yss).mem = (yss.length : Int) := by unfold rgWait; rw [hwo, if_pos rfl, hnear]
  have hst : rawS g yss = { KL g with mem := (rawS g yss).mem } := by unfold rawS; rw [layB_is yss 0 (KL g)]
  have h6 : getN (rowAt (rawS g yss).mem 6) 0 4 = 0 := by
    unfold rawS
    rw [row_mem h1.len (by omega), if_neg (by decide), h3 6 (by omega) (by decide)]
    show getN (rowAt (List.replicate 64 zrow) 6) 0 4 = 0
    rw [rowAt_zero (by omega), getN_zero]
  refine ⟨⟨⟨⟨⟨2, 3, 4, ⟨2, 1, 0, 0, 7⟩⟩, ?_, rfl, ⟨?_, ?_, ?_, ?_, ?_⟩⟩, ?_, ?_, ?_, ⟨(g.bs 0).1, rgNew 5 6 3 4, ?_, rfl, rfl, rfl, rfl, rgNew_is ⟨by omega, by omega⟩ ⟨by omega, by omega⟩, hm, h6, rfl, rfl, rfl, rfl⟩, hwo⟩, ?_⟩, hw, ?_⟩
  case refine_12 =>
    refine List.ext_getElem? fun j => ?_
    unfold takeRaw
    rw [List.getElem?_map]
    by_cases hj : j < yss.length
    · obtain ⟨ys, hys⟩ : ∃ ys, yss[j]? = some ys := ⟨_, List.getElem?_eq_getElem hj⟩
      rw [List.getElem?_range hj, hys]
      show some (fetchB (rgNew 5 6 3 4) (rawS g yss).mem j) = some ys
      congr 1
      unfold fetchB
      rw [show (rgNew 5 6 3 4).sq = 5 from rfl, show (rgNew 5 6 3 4).head = 0 from rfl, Int.zero_add, wrap32u_of (a := (j : Int)) (by omega), wrap32u_of (by omega), show (2 : Int) ^ (rgNew 5 6 3 4).sb.toNat = 8 from rfl, show (16 + (j : Int) % 8 * 32).toNat = 16 + 32 * (0 + j) by omega, hr]
      rw [get_far (by rw [r2]; simp [le4]) (.inr (by simp [le4]; omega))]
      exact h4 j ys hys
    · rw [List.getElem?_eq_none (by rw [List.length_range]; omega), List.getElem?_eq_none (by omega)]; rfl
  all_goals rw [hst]
  all_goals first | rfl | (intro x hx; obtain rfl := List.mem_singleton.1 (show x ∈ [((7 : Int), (g.bs 0).2, ((0 : Int), (0 : Int)), false)] from hx); rfl)
end Go.Pse
namespace Go.Pse
open Go.RowKit Go.Proofs

/-! ### plain: what is put in, among what is no entry -/
theorem resZ_cons {z : Bool × Sqe} {zs : List (Bool × Sqe)} {k : Nat} (h : z.1 = true → z.2.op = 1) : resZ false k (z :: zs) = if z.1 = true then deedE k z.2 0 :: resZ false (k + 1) zs else resZ false (k + 1) zs := by
  show (if z.1 = true then _ else _) = _
  by_cases hz : z.1 = true
  · have hr : resE false z.2 = 0 := by unfold resE; simp [h hz]
    rw [if_pos hz, if_pos hz, hr, show cutE 0 z.2 = false by unfold cutE; simp]
  · rw [if_neg hz, if_neg hz]
theorem resZ_nop : ∀ {zs : List (Bool × Sqe)} {k : Nat} {d : Deed}, (∀ z ∈ zs, z.1 = true → z.2.op = 1) → d ∈ resZ false k zs → ∃ j e, zs[j]? = some (true, e) ∧ d = deedE (k + j) e 0
  | [], _, _, _, h => by cases h
  | z :: zs, k, d, hn, h => by
    rw [resZ_cons (hn z List.mem_cons_self)] at h
    have up : d ∈ resZ false (k + 1) zs → ∃ j e, (z :: zs)[j]? = some (true, e) ∧ d = deedE (k + j) e 0 := fun h => by
      obtain ⟨j, e, h1, h2⟩ := resZ_nop (fun z hz => hn z (List.mem_cons_of_mem _ hz)) h
      exact ⟨j + 1, e, by rw [List.getElem?_cons_succ]; exact h1, by rw [h2, show k + 1 + j = k + (j + 1) by omega]⟩
    split at h
    · rename_i hz
      rcases List.mem_cons.1 h with h | h
      · obtain ⟨b, e⟩ := z
        exact ⟨0, e, by show some (b, e) = _; rw [show b = true from hz], h⟩
      · exact up h
    · exact up h
theorem resZ_at : ∀ {zs : List (Bool × Sqe)} {k j : Nat} {e : Sqe}, (∀ z ∈ zs, z.1 = true → z.2.op = 1) → zs[j]? = some (true, e) → deedE (k + j) e 0 ∈ resZ false k zs
  | [], _, _, _, _, h => by cases h
  | z :: zs, k, j, e, hn, h => by
    rw [resZ_cons (hn z List.mem_cons_self)]
    cases j with
    | zero =>
      cases h
      rw [if_pos rfl]
      exact List.mem_cons_self
    | succ j =>
      have := resZ_at (k := k + 1) (fun z hz => hn z (List.mem_cons_of_mem _ hz)) (by rwa [List.getElem?_cons_succ] at h)
      rw [show k + 1 + j = k + (j + 1) by omega] at this
      split
      · exact List.mem_cons_of_mem _ this
      · exact this
theorem badZ_mem : ∀ {raw : List (List Int)} {k : Nat} {d : Deed}, d ∈ badZ k raw → ∃ j bs, raw[j]? = some bs ∧ goodE bs = false ∧ d = badD 4 1 (k + j) bs
  | [], _, _, h => by cases h
  | bs :: raw, k, d, h => by
    have up : d ∈ badZ (k + 1) raw → ∃ j cs, (bs :: raw)[j]? = some cs ∧ goodE cs = false ∧ d = badD 4 1 (k + j) cs := fun h => by
      obtain ⟨j, cs, h1, h2, h3⟩ := badZ_mem h
      exact ⟨j + 1, cs, by rw [List.getElem?_cons_succ]; exact h1, h2, by rw [h3, show k + 1 + j = k + (j + 1) by omega]⟩
    unfold badZ at h
    split at h
    · exact up h
    · rename_i hz
      rcases List.mem_cons.1 h with h | h
      · exact ⟨0, bs, rfl, by simpa using hz, h⟩
      · exact up h
theorem badZ_at : ∀ {raw : List (List Int)} {k j : Nat} {bs : List Int}, raw[j]? = some bs → goodE bs = false → badD 4 1 (k + j) bs ∈ badZ k raw
  | [], _, _, _, h, _ => by cases h
  | cs :: raw, k, j, bs, h, hb => by
    unfold badZ
    cases j with
    | zero =>
      cases h
      rw [if_neg (by rw [hb]; decide)]
      exact List.mem_cons_self
    | succ j =>
      have := badZ_at (k := k + 1) (j := j) (by rwa [List.getElem?_cons_succ] at h) hb
      rw [show k + 1 + j = k + (j + 1) by omega] at this
      split
      · exact this
      · exact List.mem_cons_of_mem _ this
theorem both_len : ∀ {raw : List (List Int)} {k : Nat}, (∀ z ∈ raw.map zOf, z.1 = true → z.2.op = 1) → (badZ k raw).length + (resZ false k (raw.map zOf)).length = raw.length
  | [], _, _ => rfl
  | bs :: raw, k, hn => by
    rw [List.map_cons] at hn
    have ih := both_len (k := k + 1) (fun z hz => hn z (List.mem_cons_of_mem _ hz))
    rw [List.map_cons, resZ_cons (hn _ List.mem_cons_self)]
    unfold badZ
    rw [show (zOf bs).1 = goodE bs from rfl]
    by_cases hg : goodE bs = true
    · rw [if_pos hg, if_pos hg, List.length_cons, List.length_cons]; omega
    · rw [if_neg hg, if_neg hg, List.length_cons, List.length_cons]; omega
/-! ### plain: the rows of the law -/
abbrev mxE (i : Nat) : Sqe := ⟨1, 1, 20 + (i : Int), 0, 0, 0, 0, 0⟩
def mixB (i : Nat) (b : Bool) : List Int := if b = true then (rawE (mxE i)).set 30 7 else rawE (mxE i)
def mixOk (i : Nat) (b : Bool) : Bool := decide ((mixB i b).length = 32) && ((mixB i b).all (fun x => decide (0 ≤ x ∧ x ≤ 255)) && (decide (goodE (mixB i b) = !b) && (decide (getN (mixB i b) 4 4 = 20 + (i : Int)) && decide (b = false → entE (mixB i b) = mxE i))))
set_option maxRecDepth 100000 in
theorem mix_all : ((List.range 8).all fun i => mixOk i true && mixOk i false) = true := by decide +kernel
theorem mix_ok {i : Nat} (h : i < 8) (b : Bool) : (mixB i b).length = 32 ∧ Bytes (mixB i b) ∧ goodE (mixB i b) = !b ∧ getN (mixB i b) 4 4 = 20 + (i : Int) ∧ (b = false → entE (mixB i b) = mxE i) := by
  have h1 := all_range mix_all h
  rw [Bool.and_eq_true] at h1
  have h2 : mixOk i b = true := by cases b; exact h1.2; exact h1.1
  unfold mixOk at h2
  simp only [Bool.and_eq_true, decide_eq_true_eq] at h2
  obtain ⟨g1, g2, g3, g4, g5⟩ := h2
  exact ⟨g1, fun x hx => by simpa using List.all_eq_true.1 g2 x hx, g3, g4, g5⟩
def mixP (bad : List Bool) (k : Nat) : List (List Int) := (List.range k).map fun i => mixB i (bad[i]?.getD false)
theorem mixP_len (bad : List Bool) (k : Nat) : (mixP bad k).length = k := by unfold mixP; rw [List.length_map, List.length_range]
theorem mixP_succ {bad : List Bool} {k : Nat} {c : Bool} (h : bad[k]? = some c) : mixP bad (k + 1) = mixP bad k ++ [mixB k c] := by unfold mixP; rw [List.range_succ, List.map_append, List.map_singleton, h]; rfl
theorem mixP_at {bad : List Bool} {k j : Nat} {bs : List Int} (h : (mixP bad k)[j]? = some bs) : j < k ∧ bs = mixB j (bad[j]?.getD false) := by
  unfold mixP at h
  obtain ⟨hl, h2⟩ := List.getElem?_eq_some_iff.1 h
  rw [List.length_map, List.length_range] at hl
  rw [List.getElem?_map, List.getElem?_range hl] at h
  exact ⟨hl, (Option.some.inj h).symm⟩
theorem mixP_mem {bad : List Bool} {k : Nat} (hk : k ≤ 8) : ∀ ys ∈ mixP bad k, ∃ i b, i < 8 ∧ ys = mixB i b := fun ys hy => by
  unfold mixP at hy
  obtain ⟨i, hi, rfl⟩ := List.mem_map.1 hy
  rw [List.mem_range] at hi
  exact ⟨i, _, by omega, rfl⟩
theorem mixP_ok {bad : List Bool} {k : Nat} (hk : k ≤ 8) : ∀ ys ∈ mixP bad k, ys.length = 32 ∧ Bytes ys := fun ys hy => by
  obtain ⟨i, b, hi, rfl⟩ := mixP_mem hk ys hy
  exact ⟨(mix_ok hi b).1, (mix_ok hi b).2.1⟩
theorem mix_ent {i : Nat} {b : Bool} (h : i < 8) : entE (mixB i b) = if b = true then ⟨0, 0, 0, 0, 0, 0, 0, 0⟩ else mxE i := by
  cases b with
  | false => exact (mix_ok h false).2.2.2.2 rfl
  | true =>
    unfold entE
    rw [(mix_ok h true).2.2.1]; rfl
def mixJ (bad : List Bool) : List Deed := badZ 0 (mixP bad bad.length) ++ resZ false 0 ((mixP bad bad.length).map zOf)
theorem mix_nop {bad : List Bool} (hb : bad.length ≤ 8) : ∀ z ∈ (mixP bad bad.length).map zOf, z.1 = true → z.2.op = 1 := fun z hz h => by
  obtain ⟨ys, hy, rfl⟩ := List.mem_map.1 hz
  obtain ⟨i, b, hi, rfl⟩ := mixP_mem hb ys hy
  show (entE (mixB i b)).op = 1
  have h2 : goodE (mixB i b) = true := h
  rw [(mix_ok hi b).2.2.1] at h2
  rw [mix_ent hi, if_neg (by simpa using h2)]
theorem mixJ_len {bad : List Bool} (hb : bad.length ≤ 8) : (mixJ bad).length = bad.length := by
  unfold mixJ
  rw [List.length_append, both_len (mix_nop hb), mixP_len]
theorem mixJ_all {bad : List Bool} (hb : bad.length ≤ 8) {d : Deed} (h : d ∈ mixJ bad) : ∃ (j : Nat) (b : Bool), bad[j]? = some b ∧ d.1 = (4, 1 + (j : Int)) ∧ d.2.1 = 20 + (j : Int) ∧ d.2.2.2.1 = if b = true then -1 else 0 := by
  unfold mixJ at h
  rcases List.mem_append.1 h with h | h
  · obtain ⟨j, bs, h1, h2, rfl⟩ := badZ_mem h
    obtain ⟨hj, rfl⟩ := mixP_at h1
    have hq : bad[j]? = some bad[j] := List.getElem?_eq_getElem hj
    rw [hq] at h2 ⊢
    have hm := mix_ok (i := j) (by omega) bad[j]
    rw [Option.getD_some] at h2 ⊢
    rw [hm.2.2.1] at h2
    refine ⟨j, _, hq, by rw [Nat.zero_add]; rfl, hm.2.2.2.1, ?_⟩
    rw [if_pos (by simpa using h2)]; rfl
  · obtain ⟨j, e, h1, rfl⟩ := resZ_nop (mix_nop hb) h
    rw [List.getElem?_map] at h1
    obtain ⟨bs, h2, h3⟩ := Option.map_eq_some_iff.1 h1
    obtain ⟨hj, rfl⟩ := mixP_at h2
    have hq : bad[j]? = some bad[j] := List.getElem?_eq_getElem hj
    rw [hq, Option.getD_some] at h3
    have hm := mix_ok (i := j) (by omega) bad[j]
    have hg : goodE (mixB j bad[j]) = true := congrArg Prod.fst h3
    rw [hm.2.2.1] at hg
    have he : e = mxE j := by
      rw [← show entE (mixB j bad[j]) = e from congrArg Prod.snd h3, mix_ent (by omega), if_neg (by simpa using hg)]
    subst he
    refine ⟨j, _, hq, by rw [Nat.zero_add]; rfl, rfl, ?_⟩
    rw [if_neg (by simpa using hg)]; rfl
theorem mixJ_at {bad : List Bool} (hb : bad.length ≤ 8) {j : Nat} {b : Bool} (h : bad[j]? = some b) : ∃ (k : Nat) (d : Deed), idxJ (mixJ bad) (4, (j : Int) + 1) = some k ∧ (mixJ bad)[k]? = some d ∧ d.2.1 = 20 + (j : Int) ∧ d.2.2.2.1 = if b = true then -1 else 0 := by
 obtain ⟨hj, _⟩ := List.getElem?_eq_some_iff.1 h
 have hm := mix_ok (i := j) (by omega) b
 have hp : (mixP bad bad.length)[j]? = some (mixB j b) := by
  unfold mixP
  rw [List.getElem?_map, List.getElem?_range hj, Option.map_some, h]; rfl
 have hex : ∃ d ∈ mixJ bad, d.1 = (4, (j : Int) + 1) := by
  unfold mixJ
  cases b with
  | true => exact ⟨_, List.mem_append_left _ (badZ_at (k := 0) hp hm.2.2.1), by show ((4 : Int), 1 + ((0 + j : Nat) : Int)) = _; rw [Nat.zero_add, Int.add_comm]⟩
  | false => exact ⟨_, List.mem_append_right _ (resZ_at (k := 0) (j := j) (e := mxE j) (mix_nop hb) (by rw [List.getElem?_map, hp]; show some (goodE _, entE _) = _; rw [hm.2.2.1, hm.2.2.2.2 rfl]; rfl)), by show ((4 : Int), 1 + ((0 + j : Nat) : Int)) = _; rw [Nat.zero_add, Int.add_comm]⟩
 obtain ⟨d0, hd0, hd1⟩ := hex
 cases hi : idxJ (mixJ bad) (4, (j : Int) + 1) with
 | none =>
  unfold idxJ at hi
  rw [List.findIdx?_eq_none_iff] at hi
  have := hi d0 hd0
  rw [hd1] at this
  simp at this
 | some k =>
  unfold idxJ at hi
  rw [List.findIdx?_eq_some_iff_getElem] at hi
  obtain ⟨hk, h1, _⟩ := hi
  obtain ⟨j2, b2, g1, g2, g3, g4⟩ := mixJ_all hb (List.getElem_mem hk)
  have h1' := of_decide_eq_true h1
  rw [g2] at h1'
  have e2 : (1 : Int) + (j2 : Int) = (j : Int) + 1 := congrArg Prod.snd h1'
  have e : j2 = j := by omega
  subst e
  rw [h] at g1
  cases g1
  exact ⟨k, _, rfl, List.getElem?_eq_getElem hk, g3, g4⟩
def pN1 : Sqe → Bool := fun e => decide (e.op = 1)
theorem nOps : ∀ (s : KS) (N M : Nat) (q : Rq) (T : Th) (i : ID), Good s N M → SqeOk q.e → pN1 q.e = true → DoesC s T q i := fun s N M q T i hG hE h => doesC1 hG hE (of_decide_eq_true h)
theorem At_rg {X : List Int} {hd : Int} {s : KS} {rs : List Rq} {js : List Deed} {RG : List (Int × Nat × Rg)} {MS : List (List Int)} {t : Nat} (h : RM X hd RG MS t) : ∃ b r, look (At s rs js RG MS).rg 4 = some (b, r) ∧ r.tail = (t : Int) := by
  obtain ⟨b, r, rfl, _, h2, _⟩ := h
  exact ⟨b, r, rfl, h2⟩
theorem mix_enter (g : NewG) {bad : List Bool} (hb : bad.length ≤ 8) (β : Nat → Nat) : ∃ X hd RG MS, RM X hd RG MS bad.length ∧ kEnter (rawS g (mixP bad bad.length)) 2 60 β = (At { rawS g (mixP bad bad.length) with tk := [(4, (bad.length : Int))] } [] (mixJ bad) RG MS, (bad.length : Int)) := by
  obtain ⟨h1, h2, h3⟩ := fresh_raw g (mixP_ok (bad := bad) hb) (by rw [mixP_len]; exact hb)
  have hT : ∀ bs ∈ takeRaw (rawS g (mixP bad bad.length)) (rgNew 5 6 3 4) (mixP bad bad.length).length, (goodE bs = true → ((entE bs).time = 0 ∧ bits .and .i64 (entE bs).flags 8 = 0) ∧ dullE (entE bs)) ∧ (entE bs).tag ≠ 999 := fun bs hbs => by
    rw [h3] at hbs
    obtain ⟨i, b, hi, rfl⟩ := mixP_mem hb bs hbs
    rw [(mix_ok hi b).2.2.1, mix_ent hi]
    cases b with
    | true => exact ⟨fun h => (by cases h), by show (0 : Int) ≠ 999; decide⟩
    | false => exact ⟨fun _ => ⟨⟨rfl, by show bits .and .i64 1 8 = 0; decide +kernel⟩, .inl rfl, by show 20 + (i : Int) ≠ 999; omega⟩, by show 20 + (i : Int) ≠ 999; omega⟩
  obtain ⟨X, hd, RG, MS, g1, g2⟩ := enter_row h1 h2 (n := 60) (by rw [mixP_len]; omega) (fun bs hbs => (hT bs hbs).1) (fun bs hbs => (hT bs hbs).2) β
  rw [h3] at g1 g2
  rw [both_len (mix_nop hb), mixP_len] at g1
  exact ⟨X, hd, RG, MS, g1, by rw [g2, mixP_len]; rfl⟩
theorem mid_entOk {S : KS} {b : Nat} {r : Rg} {t : Nat} (hF : Mid S b r t) {n : Int} {m : Nat} (hm : minI (rgWait r S.mem) (clampB n) = (m : Int)) {p : Sqe → Bool} (h : ∀ bs ∈ takeRaw S r m, goodE bs = true → p (entE bs) = true) : entOk p S 2 n = true := by
 obtain ⟨T, hT, hTr, hQ⟩ := hF.th
 obtain ⟨hov, hfl, htk, _, _⟩ := hF.look hm
 have hl : look S.rg 4 = some (b, r) := by rw [hF.rg]; rfl
 unfold entOk
 rw [hT]
 dsimp only
 rw [hTr, hl]
 dsimp only
 rw [hov, hfl, htk, Int.toNat_natCast]
 refine List.all_eq_true.2 fun bs hbs => ?_
 have := h bs hbs
 cases hg : goodE bs with
 | false => rfl
 | true => rw [this hg]; rfl
theorem fresh_entOk {S : KS} {b : Nat} {r : Rg} (hF : Fresh S b r) {n : Int} {m : Nat} (hm : rgWait r S.mem = (m : Int)) (hm8 : m ≤ 8) (hn : (m : Int) ≤ n) {p : Sqe → Bool} (h : ∀ bs ∈ takeRaw S r m, goodE bs = true → p (entE bs) = true) : entOk p S 2 n = true :=
  mid_entOk hF.mid (by
    rw [hm]
    unfold clampB minI maxI
    (repeat' split) <;> omega) h
theorem mix_ent_ok (g : NewG) {bad : List Bool} (hb : bad.length ≤ 8) : entOk pN1 (rawS g (mixP bad bad.length)) 2 60 = true := by
  obtain ⟨h1, h2, h3⟩ := fresh_raw g (mixP_ok (bad := bad) hb) (by rw [mixP_len]; exact hb)
  refine fresh_entOk h1 h2 (by rw [mixP_len]; exact hb) (by rw [mixP_len]; omega) fun bs hbs hg => ?_
  rw [h3] at hbs
  obtain ⟨i, b, hi, rfl⟩ := mixP_mem hb bs hbs
  rw [(mix_ok hi b).2.2.1] at hg
  rw [mix_ent hi, if_neg (by simpa using hg)]; rfl
theorem mix_said (g : NewG) {bad : List Bool} (hb : bad.length ≤ 8) (β : Nat → Nat) : (kEnter (rawS g (mixP bad bad.length)) 2 60 β).2 = (bad.length : Int) ∧ (kEnter (rawS g (mixP bad bad.length)) 2 60 β).1.jn = mixJ bad ∧ (kEnter (rawS g (mixP bad bad.length)) 2 60 β).1.rt = [] ∧ ∃ b r, look (kEnter (rawS g (mixP bad bad.length)) 2 60 β).1.rg 4 = some (b, r) ∧ r.tail = (bad.length : Int) := by
  obtain ⟨X, hd, RG, MS, h1, h2⟩ := mix_enter g hb β
  rw [h2]
  exact ⟨rfl, rfl, rfl, At_rg h1⟩
theorem raw_inv (p : Sqe → Bool) (g : NewG) {yss : List (List Int)} (hy : ∀ ys ∈ yss, ys.length = 32 ∧ Bytes ys) (hl : yss.length ≤ 8) : EInv p (rawS g yss) 40 60 :=
  (EInv.layB yss (wellE434 p g) hy (by omega)).memS (u := 4) (off := 4) (ys := le4 (yss.length : Int)) (by omega) (by simp [le4]) (le4_bytes _)
set_option maxRecDepth 100000 in
theorem laid_nil (g : NewG) : laidS g [] = KL g := by kernel_rfl
end Go.Pse
namespace Go.Pse
open Go.RowKit Go.Proofs

/-! ### plain: rows of linked entries -/
section
variable (e : Nat → Sqe)
/-- Is the entry i cut. -/
def cAt : Nat → Bool
  | 0 => false
  | k + 1 => cutE (resE (cAt k) (e k)) (e k)
def wAt (k : Nat) : Int := resE (cAt e k) (e k)
theorem resZ_all : ∀ (zs : List (Bool × Sqe)) (k : Nat), (∀ j, j < zs.length → zs[j]? = some (true, e (k + j))) → resZ (cAt e k) k zs = (List.range zs.length).map fun j => deedE (k + j) (e (k + j)) (wAt e (k + j))
 | [], _, _ => rfl
 | z :: zs, k, h => by
  have h0 := h 0 (by simp)
  rw [Nat.add_zero] at h0
  obtain rfl : z = (true, e k) := Option.some.inj h0
  show deedE k (e k) (resE (cAt e k) (e k)) :: resZ (cAt e (k + 1)) (k + 1) zs = _
  rw [resZ_all zs (k + 1) (fun j hj => by
   have := h (j + 1) (by rw [List.length_cons]; omega)
   rw [List.getElem?_cons_succ] at this
   rw [this, show k + (j + 1) = k + 1 + j by omega]), List.length_cons, List.range_succ_eq_map, List.map_cons, List.map_map]
  congr 1
  refine List.map_congr_left fun j _ => ?_
  show _ = deedE (k + (j + 1)) (e (k + (j + 1))) (wAt e (k + (j + 1)))
  rw [show k + (j + 1) = k + 1 + j by omega]
end
theorem badZ_none : ∀ {raw : List (List Int)} {k : Nat}, (∀ bs ∈ raw, goodE bs = true) → badZ k raw = []
  | [], _, _ => rfl
  | bs :: raw, k, h => by
    unfold badZ
    rw [if_pos (h bs List.mem_cons_self)]
    exact badZ_none fun b hb => h b (List.mem_cons_of_mem _ hb)
theorem laid_raw (g : NewG) {es : List Sqe} (h : es.length ≤ 8) : laidS g es = rawS g (es.map rawE) := by
  unfold laidS rawS
  rw [List.take_of_length_le h, layE_B, List.length_map]; rfl
/-- What is asked of entries laid: each is one, and none waits. -/
structure Plain (es : List Sqe) : Prop where
  len : es.length ≤ 8
  is : ∀ e ∈ es, (rawE e).length = 32 ∧ goodE (rawE e) = true ∧ entE (rawE e) = e
  dull : ∀ e ∈ es, (e.time = 0 ∧ bits .and .i64 e.flags 8 = 0) ∧ dullE e
theorem Plain.raw {es : List Sqe} (h : Plain es) : ∀ ys ∈ es.map rawE, ys.length = 32 ∧ Bytes ys := fun ys hy => by
  obtain ⟨e, he, rfl⟩ := List.mem_map.1 hy
  exact ⟨(h.is e he).1, bytes_rawE e⟩
theorem Plain.ent {es : List Sqe} (h : Plain es) (g : NewG) {p : Sqe → Bool} (hp : ∀ e ∈ es, p e = true) {n : Int} (hn : 8 ≤ n) : entOk p (laidS g es) 2 n = true := by
  have hl := h.len
  rw [laid_raw g hl]
  obtain ⟨h1, h2, h3⟩ := fresh_raw g h.raw (by rw [List.length_map]; exact hl)
  refine fresh_entOk h1 h2 (by rw [List.length_map]; exact hl) (by rw [List.length_map]; omega) fun bs hbs _ => ?_
  rw [h3] at hbs
  obtain ⟨e, he, rfl⟩ := List.mem_map.1 hbs
  rw [(h.is e he).2.2]
  exact hp e he
theorem Plain.said {es : List Sqe} (h : Plain es) (g : NewG) {n : Int} (hn : 8 ≤ n) (β : Nat → Nat) : (kEnter (laidS g es) 2 n β).2 = (es.length : Int) ∧ (kEnter (laidS g es) 2 n β).1.jn = resZ false 0 (es.map fun e => (true, e)) ∧ (kEnter (laidS g es) 2 n β).1.rt = [] := by
 have hl := h.len
 rw [laid_raw g hl]
 obtain ⟨h1, h2, h3⟩ := fresh_raw g h.raw (by rw [List.length_map]; exact hl)
 have hT : ∀ bs ∈ takeRaw (rawS g (es.map rawE)) (rgNew 5 6 3 4) (es.map rawE).length, ((entE bs).time = 0 ∧ bits .and .i64 (entE bs).flags 8 = 0) ∧ dullE (entE bs) := fun bs hbs => by
  rw [h3] at hbs
  obtain ⟨e, he, rfl⟩ := List.mem_map.1 hbs
  rw [(h.is e he).2.2]
  exact h.dull e he
 obtain ⟨_, _, RG, MS, g1, g2⟩ := enter_row h1 h2 (n := n) (by rw [List.length_map]; omega) (fun bs hbs _ => hT bs hbs) (fun bs hbs => (hT bs hbs).2.2) β
 rw [h3] at g2
 rw [g2, badZ_none (fun bs hbs => by
  obtain ⟨e, he, rfl⟩ := List.mem_map.1 hbs
  exact (h.is e he).2.1), List.nil_append]
 refine ⟨by rw [List.length_map], ?_, rfl⟩
 show resZ false 0 _ = _
 congr 1
 rw [List.map_map]
 refine List.map_congr_left fun e he => ?_
 show (goodE (rawE e), entE (rawE e)) = _
 rw [(h.is e he).2.1, (h.is e he).2.2]
/-! ### plain: the law's row -/
def chE (i k : Nat) : Sqe := ⟨if k % 2 = 1 then 20 else 1, ((k / 2 : Nat) : Int), (i : Int), 0, if k % 2 = 1 then 999 else 0, 0, 0, 0⟩
def chOk (i k : Nat) : Bool := decide ((rawE (chE i k)).length = 32) && (goodE (rawE (chE i k)) && (decide (entE (rawE (chE i k)) = chE i k) && (decide (bits .and .i64 (chE i k).flags 8 = 0) && (decide ((bits .and .i64 (chE i k).flags 1 ≠ 0) ↔ (chE i k).flags = 1) && decide (bits .and .i64 (k : Int) 1 = ((k % 2 : Nat) : Int))))))
set_option maxRecDepth 100000 in
theorem ch_all : ((List.range 8).all fun i => (List.range 6).all fun k => chOk i k) = true := by decide +kernel
theorem ch_ok {i k : Nat} (hi : i < 8) (hk : k < 6) : (rawE (chE i k)).length = 32 ∧ goodE (rawE (chE i k)) = true ∧ entE (rawE (chE i k)) = chE i k ∧ bits .and .i64 (chE i k).flags 8 = 0 ∧ ((bits .and .i64 (chE i k).flags 1 ≠ 0) ↔ (chE i k).flags = 1) ∧ bits .and .i64 (k : Int) 1 = ((k % 2 : Nat) : Int) := by
  have h := all_range (all_range ch_all hi) hk
  unfold chOk at h
  simp only [Bool.and_eq_true, decide_eq_true_eq] at h
  exact h
theorem ch3 {k : Nat} (h : k < 6) : ([[Value.int .i64 0], [Value.int .i64 1], [Value.int .i64 2]] : List (List Value))[k / 2]? = some [Value.int .i64 ((k / 2 : Nat) : Int)] := by
  have : k / 2 = 0 ∨ k / 2 = 1 ∨ k / 2 = 2 := by omega
  rcases this with h | h | h <;> rw [h] <;> rfl
def kOf (ks : List Int) (i : Nat) : Nat := num (ks[i]?.getD 0) 6
theorem kOf_lt (ks : List Int) (i : Nat) : kOf ks i < 6 := by
  have := num_lt (x := ks[i]?.getD 0) (b := 6) (by omega)
  unfold kOf; omega
def chF (ks : List Int) (i : Nat) : Sqe := chE i (kOf ks i)
def chL (ks : List Int) (n : Nat) : List Sqe := (List.range n).map (chF ks)
theorem chL_len (ks : List Int) (n : Nat) : (chL ks n).length = n := by unfold chL; rw [List.length_map, List.length_range]
theorem chL_succ (ks : List Int) (n : Nat) : chL ks (n + 1) = chL ks n ++ [chF ks n] := by unfold chL; rw [List.range_succ, List.map_append]; rfl
theorem chL_at {ks : List Int} {n i : Nat} (h : i < n) : (chL ks n)[i]? = some (chF ks i) := by unfold chL; rw [List.getElem?_map, List.getElem?_range h]; rfl
theorem chL_plain {ks : List Int} {n : Nat} (hn : n ≤ 8) : Plain (chL ks n) ∧ ∀ e ∈ chL ks n, (decide (e.op = 1) || decide (e.op = 20)) = true := by
  have hm : ∀ e ∈ chL ks n, ∃ i, i < n ∧ e = chE i (kOf ks i) := fun e he => by
    unfold chL at he
    obtain ⟨i, hi, rfl⟩ := List.mem_map.1 he
    exact ⟨i, List.mem_range.1 hi, rfl⟩
  refine ⟨⟨by rw [chL_len]; exact hn, fun e he => ?_, fun e he => ?_⟩, fun e he => ?_⟩
  · obtain ⟨i, hi, rfl⟩ := hm e he
    have h := ch_ok (i := i) (by omega) (kOf_lt ks i)
    exact ⟨h.1, h.2.1, h.2.2.1⟩
  · obtain ⟨i, hi, rfl⟩ := hm e he
    have h := ch_ok (i := i) (by omega) (kOf_lt ks i)
    refine ⟨⟨rfl, h.2.2.2.1⟩, ?_, by show (i : Int) ≠ 999; omega⟩
    unfold chE
    by_cases hk : kOf ks i % 2 = 1
    · exact .inr ⟨by rw [if_pos hk], by show (if _ then _ else _) = _; rw [if_pos hk]⟩
    · exact .inl (by rw [if_neg hk])
  · obtain ⟨i, hi, rfl⟩ := hm e he
    unfold chE
    by_cases hk : kOf ks i % 2 = 1 <;> simp [hk]
/-- What the journal says of the row. -/
def chJ (ks : List Int) (n : Nat) : List Deed := (List.range n).map fun j => deedE j (chF ks j) (wAt (chF ks) j)
theorem ch_jn {ks : List Int} {n : Nat} : resZ false 0 ((chL ks n).map fun e => (true, e)) = chJ ks n := by
  have h := resZ_all (chF ks) ((chL ks n).map fun e => (true, e)) 0 (fun j hj => by
    rw [List.length_map, chL_len] at hj
    rw [List.getElem?_map, chL_at hj, Nat.zero_add]; rfl)
  rw [List.length_map, chL_len] at h
  rw [show cAt (chF ks) 0 = false from rfl] at h
  rw [h]
  unfold chJ
  refine List.map_congr_left fun j _ => ?_
  rw [Nat.zero_add]
theorem chJ_len {ks : List Int} {n : Nat} : (chJ ks n).length = n := by unfold chJ; rw [List.length_map, List.length_range]
theorem chJ_at {ks : List Int} {n i : Nat} (h : i < n) : (chJ ks n)[i]? = some (deedE i (chF ks i) (wAt (chF ks) i)) := by unfold chJ; rw [List.getElem?_map, List.getElem?_range h]; rfl
theorem chJ_idx {ks : List Int} {n i : Nat} (h : i < n) : idxJ (chJ ks n) (4, (i : Int) + 1) = some i := by
  refine (idxJ_some (chJ_at h) ?_ ?_).1
  · show ((4 : Int), 1 + (i : Int)) = _
    rw [Int.add_comm]
  · intro d hd hq
    obtain ⟨j, hj, he⟩ := List.mem_iff_getElem.1 hd
    rw [List.length_take, chJ_len] at hj
    have h2 := chJ_at (ks := ks) (n := n) (i := j) (by omega)
    rw [List.getElem_take] at he
    rw [List.getElem?_eq_getElem (by rw [chJ_len]; omega), he] at h2
    cases h2
    have e2 : (1 : Int) + (j : Int) = (i : Int) + 1 := congrArg Prod.snd hq
    omega
/-- The law's own word on the entry i. -/
theorem wAt_is {ks : List Int} {i : Nat} : wAt (chF ks) i = if cAt (chF ks) i = true then -9 else if (chF ks i).op = 20 then -11 else 0 := rfl
theorem cAt_is {ks : List Int} {i : Nat} (hi : i < 8) : cAt (chF ks) (i + 1) = (decide (wAt (chF ks) i < 0) && decide ((chF ks i).flags = 1)) := by
  show (decide (wAt (chF ks) i < 0) && decide (bits .and .i64 (chE i (kOf ks i)).flags 1 ≠ 0)) = _
  congr 1
  exact decide_eq_decide.2 (ch_ok hi (kOf_lt ks i)).2.2.2.2.1
def pCh : Sqe → Bool := fun e => decide (e.op = 1) || decide (e.op = 20)
theorem chOps : ∀ (s : KS) (N M : Nat) (q : Rq) (T : Th) (i : ID), Good s N M → SqeOk q.e → pCh q.e = true → DoesC s T q i := fun s N M q T i hG hE h => by
  unfold pCh at h
  rw [Bool.or_eq_true, decide_eq_true_eq, decide_eq_true_eq] at h
  rcases h with h | h
  · exact doesC1 hG hE h
  · exact doesC20 hG hE h
end Go.Pse
namespace Go.Pse
open Go.RowKit Go.Proofs

/-! ### plain: entering again and again -/
structure Bud (S : KS) (yss : List (List Int)) (t : Nat) (b : Nat) (r : Rg) : Prop where
  mid : Mid S b r t
  jn : S.jn.length = t
  head : r.head = (t : Int)
  le : t ≤ yss.length
  wait : rgWait r S.mem = ((yss.length - t : Nat) : Int)
  rows : ∀ j, t + j < yss.length → yss[t + j]? = some (fetchB r S.mem j)
/-- An entry that does nothing. -/
def NopB (ys : List Int) : Prop := goodE ys = true ∧ (entE ys).op = 1 ∧ (entE ys).time = 0 ∧ bits .and .i64 (entE ys).flags 8 = 0 ∧ (entE ys).tag ≠ 999
theorem Bud.raw {S : KS} {yss : List (List Int)} {t b m : Nat} {r : Rg} (hB : Bud S yss t b r) (hm : t + m ≤ yss.length) (hy : ∀ ys ∈ yss, NopB ys) : ∀ bs ∈ takeRaw S r m, NopB bs := fun bs hbs => by
  unfold takeRaw at hbs
  obtain ⟨j, hj, rfl⟩ := List.mem_map.1 hbs
  rw [List.mem_range] at hj
  exact hy _ (List.mem_of_getElem? (hB.rows j (by omega)))
theorem wrap32_mod (n : Int) : IntKind.u32.wrap n = n % 4294967296 := by simp [IntKind.wrap, IntKind.bits, IntKind.signed]
theorem Bud.step {S : KS} {yss : List (List Int)} {t b m : Nat} {r : Rg} (hB : Bud S yss t b r) (h8 : yss.length ≤ 8) (hy : ∀ ys ∈ yss, NopB ys) {x : Int} (hm : minI ((yss.length - t : Nat) : Int) (clampB x) = (m : Int)) (β : Nat → Nat) :
    (kEnter S 2 x β).2 = (m : Int) ∧ t + m ≤ yss.length ∧ ∃ b' r', Bud (kEnter S 2 x β).1 yss (t + m) b' r' := by
  have hle := hB.le
  have htm : t + m ≤ yss.length := by
    unfold minI at hm
    split at hm <;> omega
  have hraw := hB.raw htm hy
  have hm2 : minI (rgWait r S.mem) (clampB x) = (m : Int) := by rw [hB.wait]; exact hm
  obtain ⟨RG, MS, g1, g2⟩ := enter_mid hB.mid hm2 (by omega) (fun bs hbs _ => ⟨⟨(hraw bs hbs).2.2.1, (hraw bs hbs).2.2.2.1⟩, .inl (hraw bs hbs).2.1, (hraw bs hbs).2.2.2.2⟩) (fun bs hbs => (hraw bs hbs).2.2.2.2) β
  have hrl : (takeRaw S r m).length = m := takeRaw_len S r m
  have hlen : (badZ t (takeRaw S r m)).length + (resZ false t ((takeRaw S r m).map zOf)).length = m := by
    rw [both_len (fun z hz _ => by
      obtain ⟨bs, hbs, rfl⟩ := List.mem_map.1 hz
      exact (hraw bs hbs).2.1), hrl]
  rw [g2]
  refine ⟨rfl, htm, ?_⟩
  obtain ⟨b0, r0, hrg, h2, h3, h4, h5, h6, h7, h8', h9, h10, h11, h12⟩ := g1
  obtain ⟨b1, r1, krg, k2, k3, k4, k5, k6, k7, k8, k9, k10, k11, k12⟩ := hB.mid.rm
  have e := krg.symm.trans hB.mid.rg
  cases e
  obtain ⟨T, hT, hTr, hQ⟩ := hB.mid.th
  obtain ⟨_, z2, _⟩ := k7.at (u := 5) (by omega)
  have hhd : (advR r (m : Int)).head = ((t + m : Nat) : Int) := by
    show IntKind.u32.wrap (r.head + IntKind.u32.wrap (m : Int)) = _
    rw [hB.head, wrap32u_of (a := (m : Int)) (by omega), wrap32u_of (by omega)]; omega
  have h5r : rowAt MS 5 = putB (rowAt S.mem 5) 0 (le4 ((t + m : Nat) : Int)) := by
    rw [h12, ← hhd]
    unfold advM
    rw [k10, rowAt_set (u := 5) (by omega) (by omega) k7.len, if_pos rfl]
  have hw : getN (rowAt MS 5) 4 4 = getN (rowAt S.mem 5) 4 4 := by
    rw [h5r]
    exact getN_of (get_far (by rw [z2]; simp [le4]) (.inr (by simp [le4])))
  have hold := hB.wait
  have hwok := hB.mid.wt
  have hnear : rgNear r S.mem = ((yss.length - t : Nat) : Int) := by
    unfold rgWait at hold
    rw [hwok, if_pos rfl] at hold
    exact hold
  have hnear2 : rgNear r0 MS = ((yss.length - (t + m) : Nat) : Int) := by
    unfold rgNear at hnear ⊢
    rw [h10, hw, h9, hhd, wrap32_mod]
    rw [k10, hB.head, wrap32_mod] at hnear
    omega
  have hwt2 : rgWaitOk r0 MS = true := by
    unfold rgWaitOk
    rw [hnear2, h11, show (2 : Int) ^ (Int.toNat 3) = 8 from rfl, decide_eq_false (by omega)]
    rfl
  refine ⟨b0, r0, ⟨⟨T, hT, hTr, ⟨hQ.tm, hQ.ep, hQ.nt, hQ.rp, hQ.ow⟩⟩, hrg, rfl, rfl, ⟨b0, r0, hrg, h2, ?_, h4, h5, h6, h7, h8', rfl, h10, h11, rfl⟩, hwt2⟩, ?_, ?_, htm, ?_, fun j hj => ?_⟩
  · rw [h3]; omega
  · show (S.jn ++ badZ t (takeRaw S r m) ++ resZ false t ((takeRaw S r m).map zOf)).length = _
    rw [List.length_append, List.length_append, hB.jn]; omega
  · rw [h9, hhd]
  · show rgWait r0 MS = _
    unfold rgWait
    rw [hwt2, if_pos rfl, hnear2]
  · rw [show t + m + j = t + (m + j) by omega, hB.rows (m + j) (by omega)]
    congr 1
    show fetchB r S.mem (m + j) = fetchB r0 MS j
    unfold fetchB
    rw [k10, h10, k11, h11, hB.head, h9, hhd, h5r, wrap32u_of (a := ((m + j : Nat) : Int)) (by omega), wrap32u_of (by omega), wrap32u_of (a := (j : Int)) (by omega), wrap32u_of (by omega), show (2 : Int) ^ (Int.toNat 3) = 8 from rfl]
    rw [show (16 + (((t + m : Nat) : Int) + (j : Int)) % 8 * 32).toNat = (16 + ((t : Int) + ((m + j : Nat) : Int)) % 8 * 32).toNat by congr 4; omega]
    exact (get_far (by rw [z2]; simp [le4]) (.inr (by simp [le4]; omega))).symm
theorem bud_first (g : NewG) {yss : List (List Int)} (hy : ∀ ys ∈ yss, ys.length = 32 ∧ Bytes ys) (hl : yss.length ≤ 8) : Bud (rawS g yss) yss 0 (g.bs 0).1 (rgNew 5 6 3 4) := by
  obtain ⟨h1, h2, h3⟩ := fresh_raw g hy hl
  refine ⟨h1.mid, by rw [h1.jn]; rfl, rfl, Nat.zero_le _, by rw [h2]; rfl, fun j hj => ?_⟩
  rw [Nat.zero_add] at hj ⊢
  have h4 : (takeRaw (rawS g yss) (rgNew 5 6 3 4) yss.length)[j]? = yss[j]? := by rw [h3]
  rw [← h4]
  unfold takeRaw
  rw [List.getElem?_map, List.getElem?_range hj]; rfl
/-! ### plain: the law's entries -/
abbrev nopL (n : Nat) : List Sqe := (List.range n).map nopE
def npOk (i : Nat) : Bool := decide ((rawE (nopE i)).length = 32) && (goodE (rawE (nopE i)) && decide (entE (rawE (nopE i)) = nopE i))
set_option maxRecDepth 100000 in
theorem np_all : ((List.range 8).all fun i => npOk i) = true := by decide +kernel
theorem np_ok {i : Nat} (hi : i < 8) : (rawE (nopE i)).length = 32 ∧ goodE (rawE (nopE i)) = true ∧ entE (rawE (nopE i)) = nopE i := by
  have h := all_range np_all hi
  unfold npOk at h
  simp only [Bool.and_eq_true, decide_eq_true_eq] at h
  exact h
theorem nopL_len (n : Nat) : (nopL n).length = n := by rw [List.length_map, List.length_range]
theorem nopL_mem {n : Nat} (hn : n ≤ 8) : ∀ ys ∈ (nopL n).map rawE, ∃ i, i < 8 ∧ ys = rawE (nopE i) := fun ys hy => by
  obtain ⟨e, he, rfl⟩ := List.mem_map.1 hy
  obtain ⟨i, hi, rfl⟩ := List.mem_map.1 he
  rw [List.mem_range] at hi
  exact ⟨i, by omega, rfl⟩
theorem nopL_nop {n : Nat} (hn : n ≤ 8) : ∀ ys ∈ (nopL n).map rawE, NopB ys := fun ys hy => by
  obtain ⟨i, hi, rfl⟩ := nopL_mem hn ys hy
  obtain ⟨_, h2, h3⟩ := np_ok hi
  unfold NopB
  rw [h3]
  exact ⟨h2, rfl, rfl, by show bits .and .i64 0 8 = 0; decide +kernel, by show (i : Int) ≠ 999; omega⟩
theorem nopL_bud (g : NewG) {n : Nat} (hn : n ≤ 8) : Bud (laidS g (nopL n)) ((nopL n).map rawE) 0 (g.bs 0).1 (rgNew 5 6 3 4) := by
  rw [laid_raw g (by rw [nopL_len]; exact hn)]
  exact bud_first g (fun ys hy => by
    obtain ⟨i, hi, rfl⟩ := nopL_mem hn ys hy
    exact ⟨(np_ok hi).1, bytes_rawE _⟩) (by rw [List.length_map, nopL_len]; exact hn)
/-- What a step asks and tells. -/
theorem Bud.enter {S : KS} {n t b m : Nat} {r : Rg} (hB : Bud S ((nopL n).map rawE) t b r) (h8 : n ≤ 8) {x : Int} (hm : minI ((n - t : Nat) : Int) (clampB x) = (m : Int)) : entOk pN1 S 2 x = true ∧ ∀ β, (kEnter S 2 x β).2 = (m : Int) ∧ t + m ≤ n ∧ ∃ b' r', Bud (kEnter S 2 x β).1 ((nopL n).map rawE) (t + m) b' r' := by
  have hl : ((nopL n).map rawE).length = n := by rw [List.length_map, nopL_len]
  have hle := hB.le
  rw [hl] at hle
  have hm2 : minI ((((nopL n).map rawE).length - t : Nat) : Int) (clampB x) = (m : Int) := by rw [hl]; exact hm
  have htm : t + m ≤ n := by
    unfold minI at hm
    split at hm <;> omega
  refine ⟨mid_entOk hB.mid (by rw [hB.wait]; exact hm2) fun bs hbs _ => ?_, fun β => ?_⟩
  · have := (hB.raw (by rw [hl]; exact htm) (nopL_nop h8) bs hbs).2.1
    unfold pN1
    rw [this]; rfl
  · have := hB.step (by rw [hl]; exact h8) (nopL_nop h8) hm2 β
    rw [hl] at this
    exact this
end Go.Pse
namespace Go.Pse
open Go.RowKit Go.Proofs

set_option maxRecDepth 100000 in
set_option maxHeartbeats 4000000 in
theorem coMemBytes {E : World} {l m : List As} {p : Nat} {s : KS} (hp : Pick (coA p s) l m) (hM : MemOk s.mem) {u : Nat} (hu : u < 64) {z : Int} (hz : z = (u : Int) + 1) :
    Con Tryz.prog 53 #[.pointer (some ⟨s.mb, 0, none⟩), .int .i64 z] E l (fun x : Value => x) (fun x => row 5 1 x ((rowAt s.mem ((u : Int) + 1)).map encU) :: coA p s :: m) := by
  refine Con.body (vs := [.pointer (some ⟨s.mb, 0, none⟩), .int .i64 z]) (n := 14) Tryz.func53 rfl rfl [(0, .pointer (some ⟨s.mb, 0, none⟩)), (1, .int .i64 z)] (env_ok 2 rfl) ?_
  subst hz
  refine sr <| ag rfl rfl <| nx <| mv rfl rfl <| mv rfl rfl <| L_op <| xc fc50 (.cons rfl (.cons rfl (.cons rfl (.cons rfl .nil)))) rfl (coMemRd (s := s) (u := u) (off := 0) (n := 512) hp hM hu (by omega)) fun vv => J_rowEq (ys := (rowAt s.mem ((u : Int) + 1)).map encU) (by rw [List.drop_zero, List.take_of_length_le (by rw [(hM.row hu).2.1]; exact Nat.le_refl _)]) ?_
  refine mv rfl rfl <| L_pur rfl (p_extract rfl rfl) <| L_pur rfl (p_extract rfl rfl) <| ag rfl rfl <| ag rfl rfl <| nx <| mv rfl rfl <| ag rfl rfl ?_
  refine nq <| J_ret ?_
  exact J_return (_) Tryz.results53 (.tmp rfl .nil) rfl SU

set_option maxRecDepth 100000 in
set_option maxHeartbeats 4000000 in
theorem sameC {E : World} {l : List As} {v v' : Value} {xs : List Int} (hr : ∀ w, Sep E w l → Reads w 1 v (xs.map encU)) (hr' : ∀ w, Sep E w l → Reads w 1 v' (xs.map encU)) (hb : xs.length ≤ 100000) :
  Con Tryz.prog 54 #[v, v'] E l (fun _ : Unit => .bool true) (fun _ => l) := by
 refine Con.body (vs := [v, v']) (n := 29) Tryz.func54 rfl rfl [(0, v), (1, v')] (env_ok 2 rfl) <| J_readsB hr fun hw a cap hv h1 h2 h3 => ?_
 subst hv
 refine J_readsB hr' fun hw' a' cap' hv' h1' h2' h3' => ?_
 subst hv'
 have hm : cap ≤ 9223372036854775807 := h2
 have hml : (xs.map encU).length = xs.length := List.length_map _
 refine sr <| ag rfl rfl <| nxx <| mv rfl rfl <| L_pur rfl (p_len rfl Tryz.underlying73) <| mv rfl rfl <| L_pur rfl (p_len rfl Tryz.underlying73) <| L_pur rfl (p_neq rfl rfl) ?_
 refine nq <| J_bool (t := 11) (c := false) rfl (by simp) <| C_false rfl <| J_skip <| Q_then <| J_seq <| sr <| ag rfl rfl ?_
 refine nq <| J_block <| J_loop (α := Nat) (fun k => k ≤ xs.length) (fun _ => l) (fun k => [(5, .int .i64 (k : Int)), (0, .slice a (xs.map encU).length cap), (1, .slice a' (xs.map encU).length cap')]) (fun k => xs.length - k) 0 (by omega) SU KE ?_
 intro k hk
 refine J_seq <| sr <| mv rfl rfl <| mv rfl rfl <| L_pur rfl (p_len rfl Tryz.underlying73) <| L_pur rfl (p_lss rfl rfl) <| nq ?_
 refine C_split rfl (fun h15 => ?_) (fun h15 => ?_)
 have hlt : k < xs.length := by simp at h15; omega
 obtain ⟨bx, ox, rfl⟩ := h3 (by intro h; rw [h] at hml; simp at hml; omega)
 obtain ⟨bx', ox', rfl⟩ := h3' (by intro h; rw [h] at hml; simp at hml; omega)
 obtain ⟨c, hcc⟩ : ∃ c, xs[k]? = some c := ⟨_, List.getElem?_eq_getElem hlt⟩
 refine J_skip <| Q_then <| J_seq <| J_block <| J_seq <| J_drawS mixed (by kernel_rfl) <| sm rfl rfl <| sm rfl rfl ?_
 refine sp rfl (p_indexAddr rfl rfl Tryz.underlying73 ty5 (by omega) (by simp; omega)) ?_
 refine S_val rfl (by first | exact v_loadE1 rfl ty5 HS (by simp only [Int.toNat_natCast, List.getElem?_map, hcc]; rfl) | exact v_loadR1 rfl ty5 (fun w H => hr w (Sub.sep SU H)) (by simp only [Int.toNat_natCast, List.getElem?_map, hcc]; rfl) | exact v_loadR1 rfl ty5 (fun w H => hr' w (Sub.sep SU H)) (by simp only [Int.toNat_natCast, List.getElem?_map, hcc]; rfl)) ?_
 refine sm rfl rfl <| sm rfl rfl <| sp rfl (p_indexAddr rfl rfl Tryz.underlying73 ty5 (by omega) (by simp; omega)) ?_
 refine S_val rfl (by first | exact v_loadE1 rfl ty5 HS (by simp only [Int.toNat_natCast, List.getElem?_map, hcc]; rfl) | exact v_loadR1 rfl ty5 (fun w H => hr w (Sub.sep SU H)) (by simp only [Int.toNat_natCast, List.getElem?_map, hcc]; rfl) | exact v_loadR1 rfl ty5 (fun w H => hr' w (Sub.sep SU H)) (by simp only [Int.toNat_natCast, List.getElem?_map, hcc]; rfl)) ?_
 refine sp rfl (p_eql rfl rfl) <| sp rfl (p_assign rfl) <| sq <| sr <| mv rfl rfl <| L_pur rfl (p_not rfl) <| nq <| J_bool (t := 28) (c := false) rfl (by simp) ?_
 refine C_false rfl <| J_skip <| Q_blk_normal <| qr <| mv rfl rfl <| L_pur rfl (p_add64 rfl rfl (by omega)) <| ag rfl rfl <| nq ?_
 exact J_again (k + 1) (by omega) (by omega) SU KE
 refine J_exit <| Q_then_exit <| Q_then_exit <| Q_blk_this <| qx <| ag rfl rfl <| nq <| J_ret ?_
 exact J_return (()) Tryz.results54 (.tmp rfl .nil) rfl SU

end Go.Pse
namespace Go.Pse
open Go.RowKit Go.Proofs

/-! ### plain: more budget than there is to run -/
theorem run_more {g : Int} {β : Nat → Nat} : ∀ (n j d : Nat) (s : KS), nextQ (kRunN g β n j s).1.rt g = none → kRunN g β (n + d) j s = kRunN g β n j s
 | 0, j, d, s, h => by
  have h0 : nextQ s.rt g = none := h
  rw [Nat.zero_add]
  cases d with
  | zero => rfl
  | succ d => unfold kRunN; rw [h0]
 | n + 1, j, d, s, h => by
  rw [show n + 1 + d = (n + d) + 1 by omega]
  unfold kRunN at h ⊢
  cases hq : nextQ s.rt g with
  | none => rfl
  | some i =>
   rw [hq] at h
   dsimp only at h ⊢
   rw [run_more n (j + 1) d _ h]
/-- How many entries wait. -/
def wtO (s : KS) (g : Int) : Int := match look s.rg g with
  | none => 0
  | some y => rgWait y.2 s.mem
def flO (s : KS) (t : Int) : KS := match look s.th t with
  | none => s
  | some T => match look s.rg T.ring with
    | none => s
    | some x => flushS s T.ring x.2
def rgO (s : KS) (t : Int) : Int := match look s.th t with
  | none => 0
  | some T => T.ring
theorem take_more {s : KS} {g x : Int} (h : wtO s g ≤ 4) (hx : 4 ≤ x) : kTakeIn s g x = kTakeIn s g 4 := by
  unfold wtO at h
  unfold kTakeIn
  cases hl : look s.rg g with
  | none => rfl
  | some y =>
    rw [hl] at h
    dsimp only at h ⊢
    have : takeN s g x y.2 = takeN s g 4 y.2 := by
      unfold takeN
      rw [show minI (rgWait y.2 s.mem) x = minI (rgWait y.2 s.mem) 4 by unfold minI; (repeat' split) <;> omega]
    rw [this]
theorem enter_more {S : KS} {t x : Int} {β : Nat → Nat} (hw : wtO (flO S t) (rgO S t) ≤ 4) (hr : (kEnter S t 4 β).1.rt = []) (hx : 4 ≤ clampB x) : kEnter S t x β = kEnter S t 4 β := by
  unfold flO rgO at hw
  unfold kEnter at hr ⊢
  cases hT : look S.th t with
  | none => rfl
  | some T =>
    rw [hT] at hw hr
    dsimp only at hw hr ⊢
    cases hR : look S.rg T.ring with
    | none => rfl
    | some y =>
      rw [hR] at hw hr
      dsimp only at hw hr ⊢
      split
      · rfl
      · rename_i h1
        rw [if_neg h1] at hr
        split
        · rfl
        · rename_i h2
          rw [if_neg h2] at hr
          rw [show clampB 4 = 4 from rfl] at hr ⊢
          unfold kGoOn at hr ⊢
          rw [take_more hw hx]
          obtain ⟨d, hd⟩ : ∃ d, (clampB x).toNat = 4 + d := ⟨(clampB x).toNat - 4, by omega⟩
          rw [hd, show (4 : Int).toNat = 4 from rfl] at *
          rw [run_more 4 0 d _ (by rw [hr]; rfl)]
theorem enter_cl {S : KS} {t x : Int} {β : Nat → Nat} : kEnter S t x β = kEnter S t (clampB x) β := by
  have : clampB (clampB x) = clampB x := by unfold clampB minI maxI; (repeat' split) <;> omega
  unfold kEnter
  rw [this]
/-! ### plain: the law's ring -/
def KQ (g : NewG) : KS := kNew 1 1 2 3 false g
abbrev nop3 : Sqe := ⟨1, 0, 3, 0, 0, 0, 0, 0⟩
def lay4 (g : NewG) : KS := layB 0 (List.replicate 4 (rawE nop3)) (KQ g)
def refS (g : NewG) (t h : Int) : KS := memS (memS (lay4 g) 4 4 (le4 t)) 5 0 (le4 h)
def hdD (d : Nat) : Int := if d = 0 then 0 else 4294967296 - (d : Int)
def overO (s : KS) (g : Int) : Option Nat := (look s.rg g).map fun x => x.2.over.length
def refV (g : NewG) (t d b : Nat) (β : Nat → Nat) : Bool := entOk pN1 (refS g t (hdD d)) 2 b && (decide (wtO (flO (refS g t (hdD d)) 2) (rgO (refS g t (hdD d)) 2) ≤ 4) && (decide ((kEnter (refS g t (hdD d)) 2 b β).2 = ((min t b : Nat) : Int)) && (decide ((kEnter (refS g t (hdD d)) 2 b β).1.rt.length = 0) && (decide ((look (kEnter (refS g t (hdD d)) 2 b β).1.tk 4).getD 0 = ((min t b : Nat) : Int)) && (decide ((kEnter (refS g t (hdD d)) 2 b β).1.jn.length = min t b) && (decide (tailO (kEnter (refS g t (hdD d)) 2 b β).1 4 = some ((min (min t b) (8 - d) : Nat) : Int)) && (decide (overO (kEnter (refS g t (hdD d)) 2 b β).1 4 = some (min t b - min (min t b) (8 - d))))))))))
set_option maxRecDepth 100000 in
theorem ref_all (g : NewG) (β : Nat → Nat) : ((List.range 5).all fun t => (List.range 9).all fun d => (List.range 5).all fun b => refV g t d b β) = true := by kernel_rfl
end Go.Pse
namespace Go.Pse
open Go.RowKit Go.Proofs

/-! ### plain: the law's cases -/
theorem entOk_cl {p : Sqe → Bool} {S : KS} {t x : Int} : entOk p S t x = entOk p S t (clampB x) := by
  have : clampB (clampB x) = clampB x := by unfold clampB minI maxI; (repeat' split) <;> omega
  unfold entOk
  rw [this]
theorem entOk_more {p : Sqe → Bool} {S : KS} {x : Int} {T : Th} {b : Nat} {r : Rg} (hT : look S.th 2 = some T) (hR : look S.rg T.ring = some (b, r)) (hw : rgWait (flushR r S.mem).1 (flushS S T.ring r).mem ≤ 4) (hx : 4 ≤ clampB x) : entOk p S 2 x = entOk p S 2 4 := by
  unfold entOk
  rw [hT]
  dsimp only
  rw [hR]
  dsimp only
  have : takeN (flushS S T.ring r) T.ring (clampB x) (flushR r S.mem).1 = takeN (flushS S T.ring r) T.ring (clampB 4) (flushR r S.mem).1 := by
    unfold takeN
    rw [show clampB 4 = 4 from rfl, show minI (rgWait (flushR r S.mem).1 (flushS S T.ring r).mem) (clampB x) = minI (rgWait (flushR r S.mem).1 (flushS S T.ring r).mem) 4 by unfold minI; (repeat' split) <;> omega]
  rw [this]
theorem rawN : (rawE nop3).length = 32 ∧ Bytes (rawE nop3) := ⟨by decide +kernel, bytes_rawE _⟩
theorem lay4_mem (g : NewG) : MemOk (lay4 g).mem ∧ lay4 g = { KQ g with mem := (lay4 g).mem } := by
  have hM : MemOk (KQ g).mem := zrow_ok
  refine ⟨(lay_far (List.replicate 4 (rawE nop3)) (i := 0) hM (fun ys hy => by rw [List.eq_of_mem_replicate hy]; exact rawN) (by simp)).1, ?_⟩
  exact layB_is _ 0 (KQ g)
theorem lay4_inv (p : Sqe → Bool) (g : NewG) : EInv p (lay4 g) 40 60 := EInv.layB _ (wellE123 p g) (fun ys hy => by rw [List.eq_of_mem_replicate hy]; exact rawN) (by simp)
theorem ref_inv (p : Sqe → Bool) (g : NewG) (t h : Int) : EInv p (refS g t h) 40 60 :=
  ((lay4_inv p g).memS (u := 4) (off := 4) (ys := le4 t) (by omega) (by simp [le4]) (le4_bytes _)).memS (u := 5) (off := 0) (ys := le4 h) (by omega) (by simp [le4]) (le4_bytes _)
theorem putB_twice {r xs ys : List Int} {a : Nat} (h : a + xs.length ≤ r.length) (hl : xs.length = ys.length) : putB (putB r a xs) a ys = putB r a ys := by
  unfold putB
  have h1 : (r.take a ++ xs ++ r.drop (a + xs.length)).take a = r.take a := by
    rw [List.append_assoc]
    exact List.take_left' (by rw [List.length_take]; omega)
  have h2 : (r.take a ++ xs ++ r.drop (a + xs.length)).drop (a + ys.length) = r.drop (a + xs.length) := List.drop_left' (by rw [List.length_append, List.length_take]; omega)
  rw [h1, h2, hl]
theorem rows_two {ms : List (List Int)} (hM : MemOk ms) {t h t' h' : List Int} (h1 : t.length = 4) (h2 : h.length = 4) (h3 : t'.length = 4) (h4 : h'.length = 4) (s : KS) (hs : s.mem = ms) : memS (memS (memS (memS s 4 4 t) 5 0 h) 4 4 t') 5 0 h' = memS (memS s 4 4 t') 5 0 h' := by
 subst hs
 obtain ⟨_, r5, _⟩ := hM.at (u := 5) (by omega)
 obtain ⟨_, r6, _⟩ := hM.at (u := 6) (by omega)
 have l1 : (memS s 4 4 t).mem.length = 64 := by show (s.mem.set _ _).length = 64; rw [List.length_set]; exact hM.len
 have l2 : (memS (memS s 4 4 t) 5 0 h).mem.length = 64 := by show ((memS s 4 4 t).mem.set _ _).length = 64; rw [List.length_set]; exact l1
 have e6 : ∀ {y : KS} {z : List Int}, y.mem.length = 64 → rowAt (memS y 4 4 z).mem 6 = rowAt y.mem 6 := fun {y z} hl => by rw [show (memS y 4 4 z).mem = y.mem.set ((5 : Int) - 1).toNat (putB (rowAt y.mem 5) 4 z) from rfl, rowAt_set (by omega) (by omega) hl, if_neg (by decide)]
 have e5 : ∀ {y : KS} {z : List Int}, y.mem.length = 64 → rowAt (memS y 5 0 z).mem 5 = rowAt y.mem 5 := fun {y z} hl => by rw [show (memS y 5 0 z).mem = y.mem.set ((6 : Int) - 1).toNat (putB (rowAt y.mem 6) 0 z) from rfl, rowAt_set (by omega) (by omega) hl, if_neg (by decide)]
 have s5 : ∀ {y : KS} {z : List Int}, y.mem.length = 64 → rowAt (memS y 4 4 z).mem 5 = putB (rowAt y.mem 5) 4 z := fun {y z} hl => by rw [show (memS y 4 4 z).mem = y.mem.set ((5 : Int) - 1).toNat (putB (rowAt y.mem 5) 4 z) from rfl, rowAt_set (by omega) (by omega) hl, if_pos rfl]
 have s6 : ∀ {y : KS} {z : List Int}, y.mem.length = 64 → rowAt (memS y 5 0 z).mem 6 = putB (rowAt y.mem 6) 0 z := fun {y z} hl => by rw [show (memS y 5 0 z).mem = y.mem.set ((6 : Int) - 1).toNat (putB (rowAt y.mem 6) 0 z) from rfl, rowAt_set (by omega) (by omega) hl, if_pos rfl]
 have p5 : putB (rowAt (memS (memS s 4 4 t) 5 0 h).mem 5) 4 t' = putB (rowAt s.mem 5) 4 t' := by rw [e5 l1, s5 hM.len, putB_twice (by omega) (by omega)]
 have p6 : putB (rowAt (memS (memS (memS s 4 4 t) 5 0 h) 4 4 t').mem 6) 0 h' = putB (rowAt (memS s 4 4 t').mem 6) 0 h' := by rw [e6 l2, s6 l1, e6 hM.len, e6 hM.len, putB_twice (by omega) (by omega)]
 show ({ s with mem := (((s.mem.set 4 _).set 5 _).set 4 (putB (rowAt (memS (memS s 4 4 t) 5 0 h).mem 5) 4 t')).set 5 (putB (rowAt (memS (memS (memS s 4 4 t) 5 0 h) 4 4 t').mem 6) 0 h') } : KS) = { s with mem := (s.mem.set 4 (putB (rowAt s.mem 5) 4 t')).set 5 (putB (rowAt (memS s 4 4 t').mem 6) 0 h') }
 rw [p5, p6]
 congr 1
 rw [List.set_comm _ _ (by decide : (5 : Nat) ≠ 4), List.set_set, List.set_set]
theorem ref_back (g : NewG) (t h : Int) : memS (memS (refS g t h) 4 4 [2, 0, 0, 0]) 5 0 [0, 0, 0, 0] = refS g 2 0 := by
  have := rows_two (lay4_mem g).1 (t := le4 t) (h := le4 h) (t' := le4 2) (h' := le4 0) rfl rfl rfl rfl (lay4 g) rfl
  exact this
theorem ref_words (g : NewG) {t h : Int} (ht : 0 ≤ t ∧ t < 4294967296) (hh : 0 ≤ h ∧ h < 4294967296) : getN (rowAt (refS g t h).mem 5) 4 4 = t ∧ getN (rowAt (refS g t h).mem 6) 0 4 = h := by
  have hM := (lay4_mem g).1
  obtain ⟨_, r5, _⟩ := hM.at (u := 5) (by omega)
  obtain ⟨_, r6, _⟩ := hM.at (u := 6) (by omega)
  have l1 : (memS (lay4 g) 4 4 (le4 t)).mem.length = 64 := by show ((lay4 g).mem.set _ _).length = 64; rw [List.length_set]; exact hM.len
  have e1 : (refS g t h).mem = (memS (lay4 g) 4 4 (le4 t)).mem.set ((6 : Int) - 1).toNat (putB (rowAt (memS (lay4 g) 4 4 (le4 t)).mem 6) 0 (le4 h)) := rfl
  have e2 : (memS (lay4 g) 4 4 (le4 t)).mem = (lay4 g).mem.set ((5 : Int) - 1).toNat (putB (rowAt (lay4 g).mem 5) 4 (le4 t)) := rfl
  constructor
  · rw [e1, rowAt_set (by omega) (by omega) l1, if_neg (by decide), e2, rowAt_set (by omega) (by omega) hM.len, if_pos rfl, getN_put (by omega) ht]
  · rw [e1, rowAt_set (by omega) (by omega) l1, if_pos rfl, getN_put (by rw [e2, rowAt_set (by omega) (by omega) hM.len, if_neg (by decide)]; omega) hh]
theorem ref_st (g : NewG) (t h : Int) : look (refS g t h).th 2 = some ⟨2, 3, 4, ⟨2, 1, 0, 0, 7⟩⟩ ∧ look (refS g t h).rg 4 = some ((g.bs 0).1, rgNew 5 6 2 3) ∧ (refS g t h).jn = [] ∧ look (refS g t h).tk 4 = some 0 := by
  have e : refS g t h = { KQ g with mem := (refS g t h).mem } := by
    unfold refS
    rw [(lay4_mem g).2]
  rw [e]
  exact ⟨rfl, rfl, rfl, rfl⟩
theorem ref_bad (g : NewG) {t h : Int} (ht : 0 ≤ t ∧ t < 4294967296) (hh : 0 ≤ h ∧ h < 4294967296) (hb : 4 < t ∨ 8 < IntKind.u32.wrap (0 - h)) (x : Int) (β : Nat → Nat) : kEnter (refS g t h) 2 x β = (refS g t h, -14) := by
  obtain ⟨s1, s2, _⟩ := ref_st g t h
  obtain ⟨w1, w2⟩ := ref_words g ht hh
  have hv : rgValid (rgNew 5 6 2 3) (refS g t h).mem = false := by
    unfold rgValid rgWaitOk rgRoomOk rgNear rgFar
    rw [show (rgNew 5 6 2 3).sq = 5 from rfl, show (rgNew 5 6 2 3).cq = 6 from rfl, show (rgNew 5 6 2 3).head = 0 from rfl, show (rgNew 5 6 2 3).tail = 0 from rfl, w1, w2, Int.sub_zero, wrap32u_of (a := t) (by omega), show (2 : Int) ^ (rgNew 5 6 2 3).sb.toNat = 4 from rfl, show (2 : Int) ^ (rgNew 5 6 2 3).cb.toNat = 8 from rfl]
    rcases hb with hb | hb
    · rw [show decide (t > 4) = true by simpa using hb]; rfl
    · rw [show decide (IntKind.u32.wrap (0 - h) > 8) = true by simpa using hb, Bool.not_true, Bool.and_false]
  unfold kEnter
  rw [s1]
  dsimp only
  rw [s2]
  dsimp only
  rw [if_pos hv]
/-- The head as so many ahead. -/
theorem hd_is {h : Int} (hh : 0 ≤ h ∧ h < 4294967296) (hb : ¬ 8 < IntKind.u32.wrap (0 - h)) : ∃ d : Nat, d < 9 ∧ h = hdD d ∧ IntKind.u32.wrap (0 - h) = (d : Int) := by
  rw [wrap32_mod] at hb ⊢
  refine ⟨((0 - h) % 4294967296).toNat, by omega, ?_, by omega⟩
  unfold hdD
  split <;> omega
set_option maxHeartbeats 2000000 in
/-- All of a case that is right. -/
theorem ref_good (g : NewG) {t d : Nat} (ht : t < 5) (hd : d < 9) (x : Int) : ∃ k : Nat, (k : Int) = minI (t : Int) (clampB x) ∧ entOk pN1 (refS g t (hdD d)) 2 x = true ∧ ∀ β, (kEnter (refS g t (hdD d)) 2 x β).2 = (k : Int) ∧ (look (kEnter (refS g t (hdD d)) 2 x β).1.tk 4).getD 0 = (k : Int) ∧ (kEnter (refS g t (hdD d)) 2 x β).1.jn.length = k ∧ tailO (kEnter (refS g t (hdD d)) 2 x β).1 4 = some ((min k (8 - d) : Nat) : Int) ∧ overO (kEnter (refS g t (hdD d)) 2 x β).1 4 = some (k - min k (8 - d)) := by
  have hc : 0 ≤ clampB x ∧ clampB x ≤ 64 := by unfold clampB minI maxI; (repeat' split) <;> omega
  have F : ∀ b, b < 5 → ∀ β, refV g t d b β = true := fun b hb β => all_range (all_range (all_range (ref_all g β) ht) hd) hb
  unfold refV at F
  simp only [Bool.and_eq_true, decide_eq_true_eq] at F
  by_cases h4 : clampB x < 5
  · obtain ⟨b, hb⟩ : ∃ b : Nat, (b : Int) = clampB x := ⟨(clampB x).toNat, by omega⟩
    have F1 := F b (by omega)
    refine ⟨min t b, by rw [← hb]; unfold minI; split <;> omega, by rw [entOk_cl, ← hb]; exact (F1 (fun _ => 0)).1, fun β => ?_⟩
    rw [enter_cl, ← hb]
    obtain ⟨_, _, f3, _, f5, f6, f7, f8⟩ := F1 β
    exact ⟨f3, f5, f6, f7, f8⟩
  · have F1 := F 4 (by omega)
    have hw := (F1 (fun _ => 0)).2.1
    obtain ⟨s1, s2, _⟩ := ref_st g t (hdD d)
    refine ⟨min t 4, by unfold minI; split <;> omega, ?_, fun β => ?_⟩
    · rw [entOk_more s1 s2 ?_ (by omega)]
      · exact (F1 (fun _ => 0)).1
      · unfold wtO flO rgO at hw
        rw [s1] at hw
        dsimp only at hw
        rw [s2] at hw
        dsimp only at hw
        exact hw
    · obtain ⟨_, _, f3, f4, f5, f6, f7, f8⟩ := F1 β
      rw [enter_more hw (List.length_eq_zero_iff.1 f4) (by omega)]
      exact ⟨f3, f5, f6, f7, f8⟩
def refE (g : NewG) (t : Nat) (h : Int) (b : Nat) : Bool := entOk pN1 (refS g t h) 2 b && decide (wtO (flO (refS g t h) 2) (rgO (refS g t h) 2) ≤ 4)
set_option maxRecDepth 100000 in
theorem refE_all (g : NewG) (h : Int) : ((List.range 5).all fun t => (List.range 5).all fun b => refE g t h b) = true := by kernel_rfl
theorem ref_ent (g : NewG) {t h : Int} (ht : 0 ≤ t ∧ t < 4294967296) (hh : 0 ≤ h ∧ h < 4294967296) (x : Int) : entOk pN1 (refS g t h) 2 x = true := by
  obtain ⟨s1, s2, _⟩ := ref_st g t h
  have hc : 0 ≤ clampB x ∧ clampB x ≤ 64 := by unfold clampB minI maxI; (repeat' split) <;> omega
  by_cases h4 : t ≤ 4
  · obtain ⟨n, rfl⟩ : ∃ n : Nat, t = (n : Int) := ⟨t.toNat, by omega⟩
    have F : ∀ b, b < 5 → refE g n h b = true := fun b hb => all_range (all_range (refE_all g h) (by omega)) hb
    unfold refE at F
    simp only [Bool.and_eq_true, decide_eq_true_eq] at F
    by_cases h5 : clampB x < 5
    · obtain ⟨b, hb⟩ : ∃ b : Nat, (b : Int) = clampB x := ⟨(clampB x).toNat, by omega⟩
      rw [entOk_cl, ← hb]
      exact (F b (by omega)).1
    · have hw := (F 4 (by omega)).2
      rw [entOk_more s1 s2 ?_ (by omega)]
      · exact (F 4 (by omega)).1
      · unfold wtO flO rgO at hw
        rw [s1] at hw
        dsimp only at hw
        rw [s2] at hw
        dsimp only at hw
        exact hw
  · obtain ⟨w1, _⟩ := ref_words g ht hh
    have hz : rgWait (rgNew 5 6 2 3) (refS g t h).mem = 0 := by
      unfold rgWait rgWaitOk rgNear
      rw [show (rgNew 5 6 2 3).sq = 5 from rfl, show (rgNew 5 6 2 3).head = 0 from rfl, w1, Int.sub_zero, wrap32u_of (a := t) (by omega), show (2 : Int) ^ (rgNew 5 6 2 3).sb.toNat = 4 from rfl, show decide (t > 4) = true by simp; omega]
      rfl
    unfold entOk
    rw [s1]
    dsimp only
    rw [s2]
    dsimp only
    have : takeN (flushS (refS g t h) 4 (rgNew 5 6 2 3)) 4 (clampB x) (flushR (rgNew 5 6 2 3) (refS g t h).mem).1 = 0 := by
      unfold takeN
      rw [show rgWait (flushR (rgNew 5 6 2 3) (refS g t h).mem).1 (flushS (refS g t h) 4 (rgNew 5 6 2 3)).mem = 0 from hz]
      unfold minI maxI
      (repeat' split) <;> omega
    rw [this]; rfl
theorem ref_two (g : NewG) : entOk pN1 (refS g 2 0) 2 9 = true ∧ ∀ β, (kEnter (refS g 2 0) 2 9 β).2 = 2 ∧ tailO (kEnter (refS g 2 0) 2 9 β).1 4 = some 2 := by
  obtain ⟨k, h1, h2, h3⟩ := ref_good g (t := 2) (d := 0) (by omega) (by omega) 9
  rw [show minI ((2 : Nat) : Int) (clampB 9) = 2 from rfl] at h1
  obtain rfl : k = 2 := by omega
  exact ⟨h2, fun β => ⟨(h3 β).1, (h3 β).2.2.2.1⟩⟩
end Go.Pse
namespace Go.Pse
open Go.RowKit Go.Proofs

set_option maxRecDepth 100000 in
set_option maxHeartbeats 4000000 in
theorem enterRefuses {E W : World} {t h x : Int} (hwt : (Lit.int .u32 t).wf = true) (hwh : (Lit.int .u32 h).wf = true) :
    Con Tryz.prog 10 #[.int .u32 t, .int .u32 h, .int .i64 x] E [old W] (fun _ : Unit => .bool true) (fun _ => [old W]) := by
  refine Con.body (vs := [.int .u32 t, .int .u32 h, .int .i64 x]) (n := 181) Tryz.func10 rfl rfl [(0, .int .u32 t), (1, .int .u32 h), (2, .int .i64 x)] (env_ok 3 rfl) <| sr <| ag rfl rfl <| nx <| L_op <| xc fc36 .nil rfl (first26) fun _ => ag rfl rfl <| nxx ?_
  refine mv rfl rfl <| L_pur rfl (p_not rfl) <| nq <| J_bool (t := 18) (c := false) rfl (rfl) <| C_false rfl <| J_skip <| qx <| L_pur rfl (bld86 (.cons rfl (.cons rfl (.cons rfl (.cons rfl .nil)))) (by repeat constructor)) ?_
  refine J_slot (t := 19) (v := .agg (encG 1 1 2 3 false).toArray) rfl rfl <| L_op <| xc fc45 (.cons rfl .nil) rfl (coNew (ct := 1) (cu := 1) (cs := 2) (cc := 3) (sh := false)) fun g => ?_
  have IK := wellE123 pN1 g
  rw [show kNew 1 1 2 3 false g = KQ g from rfl] at IK
  have hrg0 : look (ptrs (KQ g).rg) 4 = some (g.bs 0).1 := rfl
  obtain ⟨K, hK⟩ : ∃ K, K = KQ g := ⟨_, rfl⟩
  rw [← hK] at IK hrg0
  refine J_pick (A := coA g.p _) PC ?_
  refine J_asTo (B := coA g.p K) (by rw [hK]; rfl) <| ag rfl rfl <| nxx <| mv rfl rfl <| L_pur rfl (p_eqNilPtr Tryz.underlying24 rfl) <| mv rfl rfl <| J_bool (t := 23) (c := false) rfl (rfl) <| L_op <| G_on rfl rfl rfl ?_
  refine J_pur (p_move rfl) rfl rfl rfl <| L_op <| G_on rfl rfl rfl <| xc fc39 (.cons rfl .nil) rfl (coMem PC) fun _ => ?_
  refine L_op <| G_on rfl rfl rfl <| J_pur (p_eqNilPtr Tryz.underlying75 rfl) rfl rfl rfl <| L_pur rfl (p_pick_f rfl rfl) <| mv rfl rfl <| J_bool (t := 28) (c := false) rfl (rfl) <| L_op <| G_on rfl rfl rfl ?_
  refine J_pur (p_move rfl) rfl rfl rfl <| L_op <| G_on rfl rfl rfl <| xc fc43 (.cons rfl (.cons rfl .nil)) rfl (coRing (s := K) (u := 4) PC) fun _ => ?_
  refine J_slot (t := 30) (v := .pointer (some ⟨(g.bs 0).1, 0, none⟩)) rfl (by rw [hrg0]; rfl) <| L_op <| G_on rfl rfl rfl <| J_pur (p_eqNilPtr Tryz.underlying80 rfl) rfl rfl rfl <| L_pur rfl (p_pick_f rfl rfl) <| mv rfl rfl <| J_bool (t := 33) (c := false) rfl (rfl) <| L_op <| G_on rfl rfl rfl ?_
  refine J_pur (p_move rfl) rfl rfl rfl <| L_op <| G_on rfl rfl rfl <| xc fc17 (.cons rfl .nil) rfl (coJournal) fun _ => L_op <| G_on rfl rfl rfl <| J_pur (p_eqNilPtr Tryz.underlying30 rfl) rfl rfl rfl <| L_pur rfl (p_pick_f rfl rfl) ?_
  refine nq <| J_bool (t := 37) (c := false) rfl (rfl) <| C_false rfl <| J_skip <| qx <| L_pur rfl (bld34 (.cons rfl (.cons rfl .nil)) (by repeat constructor)) <| J_slot (t := 38) (v := .agg (encSq nop3).toArray) rfl rfl <| L_op <| xc fc38 (.cons rfl .nil) rfl (rbytesEC (e := nop3)) ?_
  refine JR fun a39 c39 hw39 hl39 hm39 hz39 => ag rfl rfl <| nq <| J_seq <| J_seq <| J_pick (A := coA g.p _) PC ?_
  refine J_asTo (B := coA g.p (layB 0 (List.replicate 0 (rawE nop3)) (KQ g))) (by rw [hK]; rfl) <| J_region <| ag rfl rfl <| nq <| J_block <| J_loop (α := Nat) (fun i => i ≤ 4) (fun i => [coA g.p (layB 0 (List.replicate i (rawE nop3)) (KQ g)), row 5 1 (.slice a39 ((rawE nop3).map encU).length c39) ((rawE nop3).map encU), old W]) (fun i => [(10, .int .i64 (i : Int)), (9, .slice a39 ((rawE nop3).map encU).length c39), (8, .pointer (some ⟨g.p, 0, none⟩)), (0, .int .u32 t), (1, .int .u32 h), (2, .int .i64 x), (7, .bool true)]) (fun i => 4 - i) 0 (by omega) SU KE ?_
  intro i hi
  obtain ⟨S, hS⟩ : ∃ S, S = (layB 0 (List.replicate i (rawE nop3)) (KQ g)) := ⟨_, rfl⟩
  have IS : EInv pN1 S 40 60 := by rw [hS]; exact EInv.layB _ (by rw [← hK]; exact IK) (fun ys hy => by rw [List.eq_of_mem_replicate hy]; exact rawN) (by simp; omega)
  refine J_asTo (B := coA g.p S) (by rw [hS]) <| J_seq <| sr <| mv rfl rfl <| L_pur rfl (p_lss rfl rfl) <| nq ?_
  refine C_split rfl (fun h41 => ?_) (fun h41 => ?_)
  have hlt : i < 4 := by simp at h41; omega
  refine J_skip <| Q_then <| J_seq <| J_block <| J_region <| mv rfl rfl <| L_op <| xc fc39 (.cons rfl .nil) rfl (coMem (s := S) PC) fun _ => ?_
  refine mv rfl rfl <| L_pur rfl (p_mul64 rfl rfl (by omega)) <| L_pur rfl (p_add64 rfl rfl (by omega)) <| mv rfl rfl <| L_op <| xc fc40 (.cons rfl (.cons rfl (.cons rfl (.cons rfl .nil)))) rfl (coMemWrZ (s := S) (u := 4) (off := 16 + 32 * i) (ys := rawE nop3) PC IS.w.fit.mem rfl (by omega) (by omega) (fun w H => sep_reads (xs := (rawE nop3).map encU) HS H) (by have := rawN.1; omega)) fun _ => ?_
  refine L_nil <| Q_blk_normal <| qr <| mv rfl rfl <| L_pur rfl (p_add64 rfl rfl (by omega)) <| ag rfl rfl <| nq <| J_pick (A := coA g.p _) PC ?_
  refine J_asTo (B := coA g.p (layB 0 (List.replicate (i + 1) (rawE nop3)) (KQ g))) (by rw [List.replicate_succ', layB_snoc, List.length_replicate, Nat.zero_add, ← hS]) ?_
  exact J_again (i + 1) (by omega) (by omega) SU KE
  have hi4 : i = 4 := by simp at h41; omega
  subst hi4
  obtain ⟨h0, hin⟩ : ∃ z : Unit, True := ⟨(), trivial⟩
  have hwt2 : (decide (IntKind.u32.min ≤ t) && decide (t ≤ IntKind.u32.max)) = true := hwt
  have hwh2 : (decide (IntKind.u32.min ≤ h) && decide (h ≤ IntKind.u32.max)) = true := hwh
  simp only [Bool.and_eq_true, decide_eq_true_eq] at hwt2 hwh2
  have ht : 0 ≤ t ∧ t < 4294967296 := ⟨hwt2.1, Int.lt_of_le_of_lt hwt2.2 (by decide)⟩
  have hh : 0 ≤ h ∧ h < 4294967296 := ⟨hwh2.1, Int.lt_of_le_of_lt hwh2.2 (by decide)⟩
  refine J_exit <| Q_then_exit <| Q_then_exit <| Q_blk_this <| Q_then ?_
  refine J_cut (α := Unit) (fun _ : Unit => [coA g.p (memS S 4 4 (le4 t)), old W]) (fun _ : Unit => [(8, .pointer (some ⟨g.p, 0, none⟩)), (0, .int .u32 t), (1, .int .u32 h), (2, .int .i64 x), (7, .bool true)]) ?_ ?_
  refine J_drawL (some 5) mixed <| ip 0 rfl rfl rfl rfl (p_move rfl) <| ip 3 rfl rfl rfl rfl (p_move rfl) <| I_ready (rs := [1, 2]) SI (by kernel_rfl) (by simp) ?_
  refine (I_cons rfl ?_ (I_cons rfl ?_ I_nil))
  refine xc fc39 (.cons rfl .nil) rfl (coMem (s := S) PC) fun _ => ?_
  refine i1 2 rfl <| x_make (len := 4) rfl rfl Tryz.underlying73 ty5 rfl rfl (by simp) (by simp) rfl rfl <| JE ((List.replicate 4 (0 : Int)).map encU) (by rfl) fun a53 c53 hw53 hl53 hm53 hz53 => i1 4 rfl <| xc fc41 (.cons rfl (.cons rfl (.cons rfl .nil))) rfl (rput32C (a := 0) (bs := List.replicate 4 0) (n := t) (fun w H => sep_reads (xs := (List.replicate 4 (0 : Int)).map encU) HS H) (by decide) (by decide)) <| JE ((le4 t).map encU) (by rfl) fun a55 c55 hw55 hl55 hm55 hz55 => i1 5 rfl <| xc fc40 (.cons rfl (.cons rfl (.cons rfl (.cons rfl .nil)))) rfl (coMemWrZ (s := S) (u := 4) (off := 4) (ys := le4 t) PC IS.w.fit.mem rfl rfl (by omega) (fun w H => sep_reads (xs := (le4 t).map encU) HS H) (by simp [le4])) fun _ => ?_
  refine i0 <| Q_then ?_
  exact J_at (α := Unit) (L := (fun _ : Unit => [coA g.p (memS S 4 4 (le4 t)), old W])) (G := (fun _ : Unit => [(8, .pointer (some ⟨g.p, 0, none⟩)), (0, .int .u32 t), (1, .int .u32 h), (2, .int .i64 x), (7, .bool true)])) () SU KE
  refine x_make (len := 4) rfl rfl Tryz.underlying73 ty5 rfl rfl (by simp) (by simp) rfl rfl <| JE ((List.replicate 4 (0 : Int)).map encU) (by rfl) fun a53 c53 hw53 hl53 hm53 hz53 => i1 1 rfl <| xc fc39 (.cons rfl .nil) rfl (coMem (s := S) PC) fun _ => ?_
  refine i1 4 rfl <| xc fc41 (.cons rfl (.cons rfl (.cons rfl .nil))) rfl (rput32C (a := 0) (bs := List.replicate 4 0) (n := t) (fun w H => sep_reads (xs := (List.replicate 4 (0 : Int)).map encU) HS H) (by decide) (by decide)) <| JE ((le4 t).map encU) (by rfl) fun a55 c55 hw55 hl55 hm55 hz55 => i1 5 rfl <| xc fc40 (.cons rfl (.cons rfl (.cons rfl (.cons rfl .nil)))) rfl (coMemWrZ (s := S) (u := 4) (off := 4) (ys := le4 t) PC IS.w.fit.mem rfl rfl (by omega) (fun w H => sep_reads (xs := (le4 t).map encU) HS H) (by simp [le4])) fun _ => ?_
  refine i0 <| Q_then ?_
  exact J_at (α := Unit) (L := (fun _ : Unit => [coA g.p (memS S 4 4 (le4 t)), old W])) (G := (fun _ : Unit => [(8, .pointer (some ⟨g.p, 0, none⟩)), (0, .int .u32 t), (1, .int .u32 h), (2, .int .i64 x), (7, .bool true)])) () SU KE
  intro _
  obtain ⟨S1, hS1⟩ : ∃ S1, S1 = memS S 4 4 (le4 t) := ⟨_, rfl⟩
  have IS1 : EInv pN1 S1 40 60 := by rw [hS1]; exact IS.memS (by omega) (by simp [le4]) (le4_bytes _)
  refine J_pick (A := coA g.p _) PC ?_
  refine J_asTo (B := coA g.p S1) (by rw [hS1]) ?_
  refine J_cut (α := Unit) (fun _ : Unit => [coA g.p (memS S1 5 0 (le4 h)), old W]) (fun _ : Unit => [(8, .pointer (some ⟨g.p, 0, none⟩)), (0, .int .u32 t), (1, .int .u32 h), (2, .int .i64 x), (7, .bool true)]) ?_ ?_
  refine J_drawL (some 5) mixed <| ip 0 rfl rfl rfl rfl (p_move rfl) <| ip 3 rfl rfl rfl rfl (p_move rfl) <| I_ready (rs := [1, 2]) SI (by kernel_rfl) (by simp) ?_
  refine (I_cons rfl ?_ (I_cons rfl ?_ I_nil))
  refine xc fc39 (.cons rfl .nil) rfl (coMem (s := S1) PC) fun _ => ?_
  refine i1 2 rfl <| x_make (len := 4) rfl rfl Tryz.underlying73 ty5 rfl rfl (by simp) (by simp) rfl rfl <| JE ((List.replicate 4 (0 : Int)).map encU) (by rfl) fun a59 c59 hw59 hl59 hm59 hz59 => i1 4 rfl <| xc fc41 (.cons rfl (.cons rfl (.cons rfl .nil))) rfl (rput32C (a := 0) (bs := List.replicate 4 0) (n := h) (fun w H => sep_reads (xs := (List.replicate 4 (0 : Int)).map encU) HS H) (by decide) (by decide)) <| JE ((le4 h).map encU) (by rfl) fun a61 c61 hw61 hl61 hm61 hz61 => i1 5 rfl <| xc fc40 (.cons rfl (.cons rfl (.cons rfl (.cons rfl .nil)))) rfl (coMemWrZ (s := S1) (u := 5) (off := 0) (ys := le4 h) PC IS1.w.fit.mem rfl rfl (by omega) (fun w H => sep_reads (xs := (le4 h).map encU) HS H) (by simp [le4])) fun _ => ?_
  refine i0 <| Q_then ?_
  exact J_at (α := Unit) (L := (fun _ : Unit => [coA g.p (memS S1 5 0 (le4 h)), old W])) (G := (fun _ : Unit => [(8, .pointer (some ⟨g.p, 0, none⟩)), (0, .int .u32 t), (1, .int .u32 h), (2, .int .i64 x), (7, .bool true)])) () SU KE
  refine x_make (len := 4) rfl rfl Tryz.underlying73 ty5 rfl rfl (by simp) (by simp) rfl rfl <| JE ((List.replicate 4 (0 : Int)).map encU) (by rfl) fun a59 c59 hw59 hl59 hm59 hz59 => i1 1 rfl <| xc fc39 (.cons rfl .nil) rfl (coMem (s := S1) PC) fun _ => ?_
  refine i1 4 rfl <| xc fc41 (.cons rfl (.cons rfl (.cons rfl .nil))) rfl (rput32C (a := 0) (bs := List.replicate 4 0) (n := h) (fun w H => sep_reads (xs := (List.replicate 4 (0 : Int)).map encU) HS H) (by decide) (by decide)) <| JE ((le4 h).map encU) (by rfl) fun a61 c61 hw61 hl61 hm61 hz61 => i1 5 rfl <| xc fc40 (.cons rfl (.cons rfl (.cons rfl (.cons rfl .nil)))) rfl (coMemWrZ (s := S1) (u := 5) (off := 0) (ys := le4 h) PC IS1.w.fit.mem rfl rfl (by omega) (fun w H => sep_reads (xs := (le4 h).map encU) HS H) (by simp [le4])) fun _ => ?_
  refine i0 <| Q_then ?_
  exact J_at (α := Unit) (L := (fun _ : Unit => [coA g.p (memS S1 5 0 (le4 h)), old W])) (G := (fun _ : Unit => [(8, .pointer (some ⟨g.p, 0, none⟩)), (0, .int .u32 t), (1, .int .u32 h), (2, .int .i64 x), (7, .bool true)])) () SU KE
  intro _
  refine J_seq ?_
  have IR := ref_inv pN1 g t h
  have hst := ref_st g t h
  have hbad := ref_bad g ht hh
  have hback := ref_back g t h
  obtain ⟨R, hR⟩ : ∃ R, R = refS g t h := ⟨_, rfl⟩
  refine J_pick (A := coA g.p _) PC ?_
  refine J_asTo (B := coA g.p R) (by rw [hR, hS1, hS]; rfl) ?_
  rw [← hR] at IR hst hbad hback
  refine J_region <| mv rfl rfl <| L_op <| xc fc39 (.cons rfl .nil) rfl (coMem (s := R) PC) fun _ => ?_
  refine L_op <| xc fc53 (.cons rfl (.cons rfl .nil)) rfl (coMemBytes (s := R) PC IR.w.fit.mem (u := 4) (by omega) rfl) <| JR fun a65 c65 hw65 hl65 hm65 hz65 => ag rfl rfl <| nx <| mv rfl rfl <| L_op <| xc fc39 (.cons rfl .nil) rfl (coMem (s := R) PC) fun _ => ?_
  refine L_op <| xc fc53 (.cons rfl (.cons rfl .nil)) rfl (coMemBytes (s := R) PC IR.w.fit.mem (u := 5) (by omega) rfl) <| JR fun a68 c68 hw68 hl68 hm68 hz68 => ag rfl rfl <| nq <| J_seq ?_
  obtain ⟨hth, hrgR, hjnR, htkR⟩ := hst
  have hent : entOk pN1 R 2 x = true := by rw [hR]; exact ref_ent g ht hh x
  refine J_region <| mv rfl rfl <| mv rfl rfl <| L_op <| xc fc42 (.cons rfl (.cons rfl (.cons rfl .nil))) rfl (coEnterP (s := R) (p := pN1) (t := 2) (n := x) (N := 40) (M := 60) PC IR hent (by omega) (by omega) nOps) fun b1 => ?_
  obtain ⟨n2, hn2⟩ : ∃ z, z = (kEnter R 2 x b1).2 := ⟨_, rfl⟩
  refine J_slot (t := 71) (v := .int .i64 n2) rfl (by rw [hn2]) ?_
  obtain ⟨S2, hS2⟩ : ∃ z, z = (kEnter R 2 x b1).1 := ⟨_, rfl⟩
  refine J_pick (A := coA g.p _) PC ?_
  refine J_asTo (B := coA g.p S2) (by rw [hS2]) ?_
  have I2 : EInv pN1 S2 140 69 := by rw [hS2]; exact IR.enter hent (by omega) (by omega) b1
  refine ag rfl rfl <| nq <| J_seq ?_
  refine J_cut (α := Unit) (fun _ : Unit => [coA g.p S2, row 5 1 (.slice a65 ((rowAt R.mem (((4 : Nat) : Int) + 1)).map encU).length c65) ((rowAt R.mem (((4 : Nat) : Int) + 1)).map encU), row 5 1 (.slice a68 ((rowAt R.mem (((5 : Nat) : Int) + 1)).map encU).length c68) ((rowAt R.mem (((5 : Nat) : Int) + 1)).map encU), old W]) (fun _ : Unit => [(78, .bool (decide (4 < t) || decide (8 < IntKind.u32.wrap (0 - h)))), (13, .int .i64 n2), (12, .slice a68 ((rowAt R.mem (((5 : Nat) : Int) + 1)).map encU).length c68), (11, .slice a65 ((rowAt R.mem (((4 : Nat) : Int) + 1)).map encU).length c65), (8, .pointer (some ⟨g.p, 0, none⟩)), (0, .int .u32 t), (1, .int .u32 h), (2, .int .i64 x), (7, .bool true)]) ?_ ?_
  refine J_region <| mv rfl rfl <| L_pur rfl (p_gtr rfl rfl) <| mv rfl rfl ?_
  refine J_gsplit (t := 74) rfl (fun h74 => ?_) (fun h74 => ?_)
  refine L_op <| G_off rfl rfl rfl rfl rfl rfl <| L_op <| G_off rfl rfl rfl rfl rfl rfl <| L_op <| G_off rfl rfl rfl rfl rfl rfl <| L_pur rfl (p_pick_t rfl rfl) <| nq ?_
  refine J_slot (t := 78) (v := .bool (decide (4 < t) || decide (8 < IntKind.u32.wrap (0 - h)))) rfl (by rw [decide_eq_true (show 4 < t from of_decide_eq_true h74), Bool.true_or]) ?_
  exact J_at (α := Unit) (L := (fun _ : Unit => [coA g.p S2, row 5 1 (.slice a65 ((rowAt R.mem (((4 : Nat) : Int) + 1)).map encU).length c65) ((rowAt R.mem (((4 : Nat) : Int) + 1)).map encU), row 5 1 (.slice a68 ((rowAt R.mem (((5 : Nat) : Int) + 1)).map encU).length c68) ((rowAt R.mem (((5 : Nat) : Int) + 1)).map encU), old W])) (G := (fun _ : Unit => [(78, .bool (decide (4 < t) || decide (8 < IntKind.u32.wrap (0 - h)))), (13, .int .i64 n2), (12, .slice a68 ((rowAt R.mem (((5 : Nat) : Int) + 1)).map encU).length c68), (11, .slice a65 ((rowAt R.mem (((4 : Nat) : Int) + 1)).map encU).length c65), (8, .pointer (some ⟨g.p, 0, none⟩)), (0, .int .u32 t), (1, .int .u32 h), (2, .int .i64 x), (7, .bool true)])) () SU KE
  refine L_op <| G_on rfl rfl rfl <| J_pur (p_move rfl) rfl rfl rfl <| L_op <| G_on rfl rfl rfl <| J_pur (p_sub rfl rfl) rfl rfl rfl <| L_op <| G_on rfl rfl rfl ?_
  refine J_pur (p_gtr rfl rfl) rfl rfl rfl <| L_pur rfl (p_pick_f rfl rfl) <| nq <| J_slot (t := 78) (v := .bool (decide (4 < t) || decide (8 < IntKind.u32.wrap (0 - h)))) rfl (by rw [decide_eq_false (show ¬ 4 < t from of_decide_eq_false h74), Bool.false_or]) ?_
  exact J_at (α := Unit) (L := (fun _ : Unit => [coA g.p S2, row 5 1 (.slice a65 ((rowAt R.mem (((4 : Nat) : Int) + 1)).map encU).length c65) ((rowAt R.mem (((4 : Nat) : Int) + 1)).map encU), row 5 1 (.slice a68 ((rowAt R.mem (((5 : Nat) : Int) + 1)).map encU).length c68) ((rowAt R.mem (((5 : Nat) : Int) + 1)).map encU), old W])) (G := (fun _ : Unit => [(78, .bool (decide (4 < t) || decide (8 < IntKind.u32.wrap (0 - h)))), (13, .int .i64 n2), (12, .slice a68 ((rowAt R.mem (((5 : Nat) : Int) + 1)).map encU).length c68), (11, .slice a65 ((rowAt R.mem (((4 : Nat) : Int) + 1)).map encU).length c65), (8, .pointer (some ⟨g.p, 0, none⟩)), (0, .int .u32 t), (1, .int .u32 h), (2, .int .i64 x), (7, .bool true)])) () SU KE
  intro _
  refine C_split rfl (fun h78 => ?_) (fun h78 => ?_)
  refine J_seq <| J_seq ?_
  have hk := hbad (by rw [Bool.or_eq_true, decide_eq_true_eq, decide_eq_true_eq] at h78; exact h78) x b1
  rw [hk] at hS2 hn2
  refine J_pick (A := coA g.p _) PC ?_
  refine J_asTo (B := coA g.p R) (by rw [hS2]) <| J_region <| mv rfl rfl <| J_slot (t := 79) (v := .int .i64 (-14)) rfl (by rw [hn2]) <| L_pur rfl (p_neq rfl rfl) <| mv rfl rfl <| J_bool (t := 81) (c := false) rfl (rfl) <| L_op <| G_on rfl rfl rfl ?_
  refine J_pur (p_move rfl) rfl rfl rfl <| L_op <| G_on rfl rfl rfl <| J_pur (p_move rfl) rfl rfl rfl <| L_op <| G_on rfl rfl rfl <| xc fc39 (.cons rfl .nil) rfl (coMem (s := R) PC) fun _ => ?_
  refine L_op <| G_on rfl rfl rfl <| xc fc53 (.cons rfl (.cons rfl .nil)) rfl (coMemBytes (s := R) PC IR.w.fit.mem (u := 4) (by omega) rfl) <| JR fun a85 c85 hw85 hl85 hm85 hz85 => L_op <| G_on rfl rfl rfl <| xc fc54 (.cons rfl (.cons rfl .nil)) rfl (sameC (xs := rowAt R.mem ((4 : Nat) + 1 : Int)) (fun w H => sep_reads (xs := (rowAt R.mem ((4 : Nat) + 1 : Int)).map encU) HS H) (fun w H => sep_reads (xs := (rowAt R.mem ((4 : Nat) + 1 : Int)).map encU) HS H) (by have := (IR.w.fit.mem.row (u := 4) (by omega)).2.1; omega)) fun _ => ?_
  refine L_op <| G_on rfl rfl rfl <| J_pur (p_not rfl) rfl rfl rfl <| L_pur rfl (p_pick_f rfl rfl) <| mv rfl rfl <| J_bool (t := 89) (c := false) rfl (rfl) <| L_op <| G_on rfl rfl rfl ?_
  refine J_pur (p_move rfl) rfl rfl rfl <| L_op <| G_on rfl rfl rfl <| J_pur (p_move rfl) rfl rfl rfl <| L_op <| G_on rfl rfl rfl <| xc fc39 (.cons rfl .nil) rfl (coMem (s := R) PC) fun _ => ?_
  refine L_op <| G_on rfl rfl rfl <| xc fc53 (.cons rfl (.cons rfl .nil)) rfl (coMemBytes (s := R) PC IR.w.fit.mem (u := 5) (by omega) rfl) <| JR fun a93 c93 hw93 hl93 hm93 hz93 => L_op <| G_on rfl rfl rfl <| xc fc54 (.cons rfl (.cons rfl .nil)) rfl (sameC (xs := rowAt R.mem ((5 : Nat) + 1 : Int)) (fun w H => sep_reads (xs := (rowAt R.mem ((5 : Nat) + 1 : Int)).map encU) HS H) (fun w H => sep_reads (xs := (rowAt R.mem ((5 : Nat) + 1 : Int)).map encU) HS H) (by have := (IR.w.fit.mem.row (u := 5) (by omega)).2.1; omega)) fun _ => ?_
  refine L_op <| G_on rfl rfl rfl <| J_pur (p_not rfl) rfl rfl rfl <| L_pur rfl (p_pick_f rfl rfl) <| mv rfl rfl <| J_bool (t := 97) (c := false) rfl (rfl) <| L_op <| G_on rfl rfl rfl ?_
  refine J_pur (p_move rfl) rfl rfl rfl <| L_op <| G_on rfl rfl rfl <| xc fc17 (.cons rfl .nil) rfl (coJournal) fun _ => L_op <| G_on rfl rfl rfl <| xc fc21 (.cons rfl .nil) rfl (coJAll (s := R) PC (by have := IR.w.fit.jn; have := IR.w.fit.mm; omega)) <| JR fun a100 c100 hw100 hl100 hm100 hz100 => ?_
  refine L_op <| G_on rfl rfl rfl <| J_pur (p_len rfl Tryz.underlying40) rfl rfl rfl <| J_slot (t := 101) (v := .int .i64 0) rfl (by rw [List.length_map, hjnR]; rfl) <| L_op <| G_on rfl rfl rfl <| J_pur (p_neq rfl rfl) rfl rfl rfl <| L_pur rfl (p_pick_f rfl rfl) ?_
  refine mv rfl rfl <| J_bool (t := 104) (c := false) rfl (rfl) <| L_op <| G_on rfl rfl rfl <| J_pur (p_move rfl) rfl rfl rfl <| L_op <| G_on rfl rfl rfl <| xc fc52 (.cons rfl (.cons rfl .nil)) rfl (coTaken (s := R) (r := 4) PC) fun _ => ?_
  refine J_slot (t := 106) (v := .int .i64 0) rfl (by rw [htkR]; rfl) <| L_op <| G_on rfl rfl rfl <| J_pur (p_neq rfl rfl) rfl rfl rfl <| L_pur rfl (p_pick_f rfl rfl) <| nq <| J_bool (t := 108) (c := false) rfl (rfl) <| C_false rfl ?_
  refine J_skip <| qx <| mv rfl rfl <| L_op <| xc fc39 (.cons rfl .nil) rfl (coMem (s := R) PC) fun _ => ?_
  refine L_op <| x_lit (vals := [_, _, _, _]) Tryz.underlying73 ty5 rfl (.cons rfl (.cons rfl (.cons rfl (.cons rfl .nil)))) (.one rfl (.one rfl (.one rfl (.one rfl .nil)))) (Wf.cons rfl rfl (Wf.cons rfl rfl (Wf.cons rfl rfl (Wf.cons rfl rfl Wf.nil)))) rfl (by decide) rfl rfl <| JE (([2, 0, 0, 0] : List Int).map encU) (by rfl) fun a111 c111 hw111 hl111 hm111 hz111 => L_op <| xc fc40 (.cons rfl (.cons rfl (.cons rfl (.cons rfl .nil)))) rfl (coMemWrZ (s := R) (u := 4) (off := 4) (ys := [2, 0, 0, 0]) PC IR.w.fit.mem rfl rfl (by omega) (fun w H => sep_reads (xs := ([2, 0, 0, 0] : List Int).map encU) HS H) (by simp)) fun _ => ?_
  refine nq <| J_seq ?_
  obtain ⟨S3, hS3⟩ : ∃ z, z = memS R 4 4 [2, 0, 0, 0] := ⟨_, rfl⟩
  have IS3 : EInv pN1 S3 40 60 := by rw [hS3]; exact IR.memS (by omega) (by simp) (fun x hx => by simp at hx; omega)
  refine J_pick (A := coA g.p _) PC ?_
  refine J_asTo (B := coA g.p S3) (by rw [hS3]) <| J_region <| mv rfl rfl <| L_op <| xc fc39 (.cons rfl .nil) rfl (coMem (s := S3) PC) fun _ => ?_
  refine L_op <| x_lit (vals := [_, _, _, _]) Tryz.underlying73 ty5 rfl (.cons rfl (.cons rfl (.cons rfl (.cons rfl .nil)))) (.one rfl (.one rfl (.one rfl (.one rfl .nil)))) (Wf.cons rfl rfl (Wf.cons rfl rfl (Wf.cons rfl rfl (Wf.cons rfl rfl Wf.nil)))) rfl (by decide) rfl rfl <| JE (([0, 0, 0, 0] : List Int).map encU) (by rfl) fun a115 c115 hw115 hl115 hm115 hz115 => L_op <| xc fc40 (.cons rfl (.cons rfl (.cons rfl (.cons rfl .nil)))) rfl (coMemWrZ (s := S3) (u := 5) (off := 0) (ys := [0, 0, 0, 0]) PC IS3.w.fit.mem rfl rfl (by omega) (fun w H => sep_reads (xs := ([0, 0, 0, 0] : List Int).map encU) HS H) (by simp)) fun _ => ?_
  refine nq <| J_seq ?_
  have hT := ref_two g
  have IQ := ref_inv pN1 g 2 0
  obtain ⟨Q, hQ⟩ : ∃ z, z = refS g 2 0 := ⟨_, rfl⟩
  rw [← hQ] at hT IQ hback
  refine J_pick (A := coA g.p _) PC ?_
  refine J_asTo (B := coA g.p Q) (by rw [← hback, hS3]) ?_
  obtain ⟨hQ1, hQ2⟩ := hT
  refine J_region <| mv rfl rfl <| mv rfl rfl <| J_bool (t := 118) (c := true) rfl (rfl) <| L_op <| G_on rfl rfl rfl <| J_pur (p_move rfl) rfl rfl rfl <| L_op <| G_on rfl rfl rfl ?_
  refine xc fc42 (.cons rfl (.cons rfl (.cons rfl .nil))) rfl (coEnterP (s := Q) (p := pN1) (t := 2) (n := 9) (N := 40) (M := 60) PC IQ hQ1 (by omega) (by omega) nOps) fun b2 => ?_
  refine J_slot (t := 120) (v := .int .i64 2) rfl (by rw [(hQ2 b2).1]) ?_
  obtain ⟨S5, hS5⟩ : ∃ z, z = (kEnter Q 2 9 b2).1 := ⟨_, rfl⟩
  refine J_pick (A := coA g.p _) PC ?_
  refine J_asTo (B := coA g.p S5) (by rw [hS5]) ?_
  have hq5 := (hQ2 b2).2
  rw [← hS5] at hq5
  obtain ⟨bq, rq, hl5, ht5⟩ := tailO_is hq5
  refine L_op <| G_on rfl rfl rfl <| J_pur (p_eql rfl rfl) rfl rfl rfl <| L_pur rfl (p_pick_t rfl rfl) <| mv rfl rfl <| J_bool (t := 123) (c := true) rfl (rfl) <| L_op <| G_on rfl rfl rfl ?_
  refine J_pur (p_move rfl) rfl rfl rfl <| L_op <| G_on rfl rfl rfl <| xc fc43 (.cons rfl (.cons rfl .nil)) rfl (coRing (s := S5) (u := 4) PC) fun _ => ?_
  refine J_slot (t := 125) (v := .pointer (some ⟨bq, 0, none⟩)) rfl (by rw [look_is hl5]; rfl) <| L_op <| G_on rfl rfl rfl <| xc fc44 (.cons rfl .nil) rfl (coRgTail (s := S5) (u := 4) PC hl5) fun _ => ?_
  refine J_slot (t := 126) (v := .int .u32 2) rfl (by rw [ht5]) <| L_op <| G_on rfl rfl rfl <| J_pur (p_eql rfl rfl) rfl rfl rfl <| L_pur rfl (p_pick_t rfl rfl) <| ag rfl rfl <| nq <| J_ret ?_
  refine Q_then_ret ?_
  refine J_return (()) Tryz.results10 (.tmp rfl .nil) ?_ ?_
  · first | rfl | simp [one]
  · exact SU
  refine J_skip <| Q_then <| J_seq ?_
  have hb : ¬ (4 < t ∨ 8 < IntKind.u32.wrap (0 - h)) := by rw [Bool.or_eq_false_iff, decide_eq_false_iff_not, decide_eq_false_iff_not] at h78; exact fun q => q.elim h78.1 h78.2
  obtain ⟨d, hd, hhd, hdw⟩ := hd_is hh (fun q => hb (.inr q))
  have htn : ((t.toNat : Nat) : Int) = t := by omega
  obtain ⟨k, hk0, _, hkf⟩ := ref_good g (t := t.toNat) (d := d) (by omega) hd x
  rw [← hhd, htn, ← hR] at hkf
  rw [htn] at hk0
  obtain ⟨f1, f2, f3, f4, f5⟩ := hkf b1
  rw [← hn2] at f1
  rw [← hS2] at f2 f3 f4 f5
  obtain ⟨bt, rt, hl2, ht2⟩ := tailO_is f4
  have hov2 : rt.over.length = k - min k (8 - d) := by unfold overO at f5; rw [hl2] at f5; exact Option.some.inj f5
  have hk4 : k ≤ 4 := by unfold minI at hk0; split at hk0 <;> omega
  refine J_region <| mv rfl rfl <| L_pur rfl (p_conv rfl Tryz.underlying22 Tryz.underlying3) <| J_slot (t := 130) (v := .int .i64 t) rfl (by rw [wrap64_of (by omega)]) <| mv rfl rfl <| L_pur rfl (p_min rfl rfl) <| L_pur rfl (p_max rfl rfl) <| L_pur rfl (p_min rfl rfl) ?_
  refine J_slot (t := 134) (v := .int .i64 (k : Int)) rfl (by congr 1; rw [hk0]; unfold minI clampB minI maxI; (repeat' split) <;> omega) <| ag rfl rfl <| nx <| mv rfl rfl <| L_pur rfl (p_sub rfl rfl) <| J_slot (t := 136) (v := .int .u32 (d : Int)) rfl (by rw [hdw]) <| L_pur rfl (p_conv rfl Tryz.underlying22 Tryz.underlying3) <| J_slot (t := 137) (v := .int .i64 (d : Int)) rfl (by rw [wrap64_of (by omega)]) ?_
  refine L_pur rfl (p_sub64 rfl rfl (by omega)) <| ag rfl rfl <| nx <| mv rfl rfl <| mv rfl rfl <| J_bool (t := 140) (c := true) rfl (rfl) <| L_op <| G_on rfl rfl rfl ?_
  refine J_pur (p_move rfl) rfl rfl rfl <| J_slot (t := 141) (v := .int .i64 (k : Int)) rfl (by rw [f1]) <| L_op <| G_on rfl rfl rfl <| J_pur (p_move rfl) rfl rfl rfl <| L_op <| G_on rfl rfl rfl <| J_pur (p_eql rfl rfl) rfl rfl rfl ?_
  refine L_pur rfl (p_pick_t rfl rfl) <| mv rfl rfl <| J_bool (t := 145) (c := true) rfl (by simp) <| L_op <| G_on rfl rfl rfl <| J_pur (p_move rfl) rfl rfl rfl <| L_op <| G_on rfl rfl rfl ?_
  refine xc fc52 (.cons rfl (.cons rfl .nil)) rfl (coTaken (s := S2) (r := 4) PC) fun _ => ?_
  refine J_slot (t := 147) (v := .int .i64 (k : Int)) rfl (by rw [f2]) <| L_op <| G_on rfl rfl rfl <| J_pur (p_move rfl) rfl rfl rfl <| L_op <| G_on rfl rfl rfl <| J_pur (p_eql rfl rfl) rfl rfl rfl <| L_pur rfl (p_pick_t rfl rfl) ?_
  refine mv rfl rfl <| J_bool (t := 151) (c := true) rfl (by simp) <| L_op <| G_on rfl rfl rfl <| J_pur (p_move rfl) rfl rfl rfl <| L_op <| G_on rfl rfl rfl <| xc fc17 (.cons rfl .nil) rfl (coJournal) fun _ => ?_
  refine L_op <| G_on rfl rfl rfl <| xc fc21 (.cons rfl .nil) rfl (coJAll (s := S2) PC (by have := I2.w.fit.jn; have := I2.w.fit.mm; omega)) <| JR fun a154 c154 hw154 hl154 hm154 hz154 => L_op <| G_on rfl rfl rfl <| J_pur (p_len rfl Tryz.underlying40) rfl rfl rfl <| J_slot (t := 155) (v := .int .i64 (k : Int)) rfl (by rw [List.length_map, f3]) ?_
  refine L_op <| G_on rfl rfl rfl <| J_pur (p_move rfl) rfl rfl rfl <| L_op <| G_on rfl rfl rfl <| J_pur (p_eql rfl rfl) rfl rfl rfl <| L_pur rfl (p_pick_t rfl rfl) <| mv rfl rfl ?_
  refine J_bool (t := 159) (c := true) rfl (by simp) <| L_op <| G_on rfl rfl rfl <| J_pur (p_move rfl) rfl rfl rfl <| L_op <| G_on rfl rfl rfl <| xc fc43 (.cons rfl (.cons rfl .nil)) rfl (coRing (s := S2) (u := 4) PC) fun _ => ?_
  refine J_slot (t := 161) (v := .pointer (some ⟨bt, 0, none⟩)) rfl (by rw [look_is hl2]; rfl) <| L_op <| G_on rfl rfl rfl <| xc fc44 (.cons rfl .nil) rfl (coRgTail (s := S2) (u := 4) PC hl2) fun _ => ?_
  refine J_slot (t := 162) (v := .int .u32 ((min k (8 - d) : Nat) : Int)) rfl (by rw [ht2]) <| L_op <| G_on rfl rfl rfl <| J_pur (p_conv rfl Tryz.underlying22 Tryz.underlying3) rfl rfl rfl <| J_slot (t := 163) (v := .int .i64 ((min k (8 - d) : Nat) : Int)) rfl (by rw [wrap64_of (by omega)]) <| L_op <| G_on rfl rfl rfl <| J_pur (p_move rfl) rfl rfl rfl ?_
  refine L_op <| G_on rfl rfl rfl <| J_pur (p_move rfl) rfl rfl rfl <| L_op <| G_on rfl rfl rfl <| J_pur (p_min rfl rfl) rfl rfl rfl <| J_slot (t := 166) (v := .int .i64 ((min k (8 - d) : Nat) : Int)) rfl (by exact congrArg (Value.int .i64) (by split <;> omega)) <| L_op <| G_on rfl rfl rfl ?_
  refine J_pur (p_eql rfl rfl) rfl rfl rfl <| L_pur rfl (p_pick_t rfl rfl) <| mv rfl rfl <| J_bool (t := 169) (c := true) rfl (by simp) <| L_op <| G_on rfl rfl rfl <| J_pur (p_move rfl) rfl rfl rfl <| L_op <| G_on rfl rfl rfl ?_
  refine xc fc43 (.cons rfl (.cons rfl .nil)) rfl (coRing (s := S2) (u := 4) PC) fun _ => ?_
  refine J_slot (t := 171) (v := .pointer (some ⟨bt, 0, none⟩)) rfl (by rw [look_is hl2]; rfl) <| L_op <| G_on rfl rfl rfl <| xc fc48 (.cons rfl .nil) rfl (coRgOver (s := S2) (u := 4) PC hl2 (by omega)) <| JR fun a172 c172 hw172 hl172 hm172 hz172 => L_op <| G_on rfl rfl rfl <| J_pur (p_len rfl Tryz.underlying88) rfl rfl rfl ?_
  refine J_slot (t := 173) (v := .int .i64 ((k - min k (8 - d) : Nat) : Int)) rfl (by rw [List.length_map, hov2]) <| L_op <| G_on rfl rfl rfl <| J_pur (p_move rfl) rfl rfl rfl <| L_op <| G_on rfl rfl rfl <| J_pur (p_move rfl) rfl rfl rfl <| L_op <| G_on rfl rfl rfl ?_
  refine J_pur (p_move rfl) rfl rfl rfl <| L_op <| G_on rfl rfl rfl <| J_pur (p_min rfl rfl) rfl rfl rfl <| J_slot (t := 177) (v := .int .i64 ((min k (8 - d) : Nat) : Int)) rfl (by exact congrArg (Value.int .i64) (by split <;> omega)) <| L_op <| G_on rfl rfl rfl <| J_pur (p_sub64 rfl rfl (by omega)) rfl rfl rfl ?_
  refine J_slot (t := 178) (v := .int .i64 ((k - min k (8 - d) : Nat) : Int)) rfl (by exact congrArg (Value.int .i64) (by omega)) <| L_op <| G_on rfl rfl rfl <| J_pur (p_eql rfl rfl) rfl rfl rfl <| L_pur rfl (p_pick_t rfl rfl) <| ag rfl rfl <| nq <| J_ret ?_
  refine J_return (()) Tryz.results10 (.tmp rfl .nil) ?_ ?_
  · first | rfl | simp [one]
  · exact SU

end Go.Pse
