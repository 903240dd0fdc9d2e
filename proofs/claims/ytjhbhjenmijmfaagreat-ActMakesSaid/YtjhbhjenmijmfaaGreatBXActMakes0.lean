/-
  Own texts, merged: C83a, C83.
-/
import Derived.Test.YtjhbhjenmijmfaaGreatBC5
set_option linter.unusedVariables false
set_option linter.unusedSimpArgs false
namespace Go.Pse
open Go.RowKit Go.Proofs

abbrev eMk (kd : Int) (i : Nat) : Sqe := ⟨7, 0, 0, atK 7, atK (11 + i), kd, 0, 0⟩
def kindAt (k : Nat) : Int := if k = 0 then 2 else if k = 1 then 3 else if k = 2 then 4 else if k = 3 then 5 else 7
theorem kindAt_is {k : Nat} : 2 ≤ kindAt k ∧ kindAt k ≤ 7 := by unfold kindAt; (repeat' split) <;> omega
/-- So many objects have been made, one behind the other. -/
def mkF (g : NewG) (kd : Int) (bs : List Nat) : KS × Nat := bs.foldl (fun x b => (kAskS x.1 4 (eMk kd x.2) b, x.2 + 1)) (kNew 1 6 3 4 false g, 0)
theorem mkF_len (kd : Int) : ∀ (bs : List Nat) (x : KS × Nat), (bs.foldl (fun x b => (kAskS x.1 4 (eMk kd x.2) b, x.2 + 1)) x).2 = x.2 + bs.length
  | [], _ => rfl
  | b :: bs, x => by
    rw [List.foldl_cons, mkF_len kd bs]; simp; omega
theorem mkF_two (g : NewG) (kd : Int) (bs : List Nat) : (mkF g kd bs).2 = bs.length := by unfold mkF; rw [mkF_len]; simp
theorem mkF_snoc (g : NewG) (kd : Int) (bs : List Nat) (b : Nat) : (mkF g kd (bs ++ [b])).1 = kAskS (mkF g kd bs).1 4 (eMk kd bs.length) b := by
  have h := mkF_two g kd bs
  unfold mkF at h ⊢
  rw [List.foldl_append, List.foldl_cons, List.foldl_nil, h]
theorem mk_sqe {kd : Int} (hk : 2 ≤ kd ∧ kd ≤ 7) {i : Nat} (hi : i ≤ 10) : SqeOk (eMk kd i) := sqeOk_mk (h2 := by unfold in32 atK; omega)
theorem mkF_well {g : NewG} {kd : Int} (hk : 2 ≤ kd ∧ kd ≤ 7) (n : Nat) : ∀ (bs : List Nat), bs.length = n → n ≤ 10 → Well (mkF g kd bs).1 (40 + n) (60 + n) := by
  induction n with
  | zero => intro bs h _; rw [List.length_eq_zero_iff.1 h]; exact well1 g
  | succ n ih =>
    intro bs h hn
    obtain ⟨cs, c, rfl⟩ : ∃ cs c, bs = cs ++ [c] := ⟨bs.dropLast, bs.getLast (by intro e; rw [e] at h; cases h), (List.dropLast_concat_getLast _).symm⟩
    rw [List.length_append] at h
    have h1 : cs.length = n := by simpa using h
    rw [mkF_snoc]
    exact (ih cs h1 (by omega)).ask (by omega) (by omega) 4 (mk_sqe hk (by omega)) c
def mkA1 (g : NewG) (kd : Int) (bs : List Nat) (b : Nat) : Bool := chk (mkF g kd bs).1 4 (eMk kd bs.length) b 0 (8 + (bs.length : Int)) true bs.length
set_option maxRecDepth 100000 in
theorem mkA_all (g : NewG) (b b0 b1 b2 b3 : Nat) : ((List.range 5).all fun k => mkA1 g (kindAt k) [] b && mkA1 g (kindAt k) [b0] b && mkA1 g (kindAt k) [b0, b1] b && mkA1 g (kindAt k) [b0, b1, b2] b && mkA1 g (kindAt k) [b0, b1, b2, b3] b) = true := by kernel_rfl
theorem mkA_ok (g : NewG) {k : Nat} (hk : k < 5) : ∀ (bs : List Nat), bs.length < 5 → ∀ b, mkA1 g (kindAt k) bs b = true
  | [], _, b => by have h := all_range (mkA_all g b 0 0 0 0) hk; simp only [Bool.and_eq_true] at h; exact h.1.1.1.1
  | [b0], _, b => by have h := all_range (mkA_all g b b0 0 0 0) hk; simp only [Bool.and_eq_true] at h; exact h.1.1.1.2
  | [b0, b1], _, b => by have h := all_range (mkA_all g b b0 b1 0 0) hk; simp only [Bool.and_eq_true] at h; exact h.1.1.2
  | [b0, b1, b2], _, b => by have h := all_range (mkA_all g b b0 b1 b2 0) hk; simp only [Bool.and_eq_true] at h; exact h.1.2
  | [b0, b1, b2, b3], _, b => by have h := all_range (mkA_all g b b0 b1 b2 b3) hk; simp only [Bool.and_eq_true] at h; exact h.2
  | _ :: _ :: _ :: _ :: _ :: _, h, _ => by simp at h; omega
abbrev eGone (n : Nat) (rev : Bool) : Sqe := if rev = true then ⟨6, 0, 0, atK 7, 0, 0, 0, 0⟩ else ⟨5, 0, 0, atK (10 + n), 0, 0, 0, 0⟩
def wantM (n : Nat) (rev : Bool) : Int := if rev = true then 8 else (n : Int) + 8 - 1
def mkE (g : NewG) (kd : Int) (bs : List Nat) (rev : Bool) (b : Nat) : KS := kAskS (mkF g kd bs).1 4 (eGone bs.length rev) b
def mkB1 (g : NewG) (kd : Int) (bs : List Nat) (rev : Bool) (b : Nat) : Bool :=
  decide (look (mkF g kd bs).1.sl (1, 10 + (bs.length : Int)) = some (⟨kd, 7 + (bs.length : Int), 0, 0, 7⟩, (1, 7))) &&
  (decide ((look (ptrs (mkF g kd bs).1.ep) (7 + (bs.length : Int))).isSome = decide (kd = 4)) && (decide ((look (ptrs (mkF g kd bs).1.nt) (7 + (bs.length : Int))).isSome = decide (kd = 5)) && decide ((look (ptrs (mkF g kd bs).1.rp) (7 + (bs.length : Int))).isSome = decide (kd = 7)))) &&
  chk (mkF g kd bs).1 4 (eGone bs.length rev) b 0 0 true bs.length &&
  (decide (look (mkE g kd bs rev b).sl (1, 10 + (bs.length : Int)) = none) && (decide (((mkE g kd bs rev b).sl.length : Int) = wantM bs.length rev) && (decide (look (ptrs (mkE g kd bs rev b).ep) (7 + (bs.length : Int)) = none) && (decide (look (ptrs (mkE g kd bs rev b).nt) (7 + (bs.length : Int)) = none) && decide (look (ptrs (mkE g kd bs rev b).rp) (7 + (bs.length : Int)) = none)))))
set_option maxRecDepth 100000 in
theorem mkB_all (g : NewG) (b b0 b1 b2 b3 b4 : Nat) : ((List.range 5).all fun k => [true, false].all fun rev => mkB1 g (kindAt k) [b0] rev b && mkB1 g (kindAt k) [b0, b1] rev b && mkB1 g (kindAt k) [b0, b1, b2] rev b && mkB1 g (kindAt k) [b0, b1, b2, b3] rev b && mkB1 g (kindAt k) [b0, b1, b2, b3, b4] rev b) = true := by kernel_rfl
theorem mkB_two (g : NewG) (b b0 b1 b2 b3 b4 : Nat) {k : Nat} (hk : k < 5) (rev : Bool) : (mkB1 g (kindAt k) [b0] rev b && mkB1 g (kindAt k) [b0, b1] rev b && mkB1 g (kindAt k) [b0, b1, b2] rev b && mkB1 g (kindAt k) [b0, b1, b2, b3] rev b && mkB1 g (kindAt k) [b0, b1, b2, b3, b4] rev b) = true := by
  have h := all_range (mkB_all g b b0 b1 b2 b3 b4) hk
  simp only [List.all_cons, List.all_nil, Bool.and_true] at h
  rw [Bool.and_eq_true] at h
  cases rev
  · exact h.2
  · exact h.1
theorem mkB_ok (g : NewG) {k : Nat} (hk : k < 5) (rev : Bool) : ∀ (bs : List Nat), 1 ≤ bs.length → bs.length ≤ 5 → ∀ b, mkB1 g (kindAt k) bs rev b = true
  | [], h, _, b => by simp at h
  | [b0], _, _, b => by have h := mkB_two g b b0 0 0 0 0 hk rev; simp only [Bool.and_eq_true] at h; exact h.1.1.1.1
  | [b0, b1], _, _, b => by have h := mkB_two g b b0 b1 0 0 0 hk rev; simp only [Bool.and_eq_true] at h; exact h.1.1.1.2
  | [b0, b1, b2], _, _, b => by have h := mkB_two g b b0 b1 b2 0 0 hk rev; simp only [Bool.and_eq_true] at h; exact h.1.1.2
  | [b0, b1, b2, b3], _, _, b => by have h := mkB_two g b b0 b1 b2 b3 0 hk rev; simp only [Bool.and_eq_true] at h; exact h.1.2
  | [b0, b1, b2, b3, b4], _, _, b => by have h := mkB_two g b b0 b1 b2 b3 b4 hk rev; simp only [Bool.and_eq_true] at h; exact h.2
  | _ :: _ :: _ :: _ :: _ :: _ :: _, _, h, _ => by simp at h
theorem kinds_at {k : Nat} (hk : k < 5) : ([[.int .i64 2], [.int .i64 3], [.int .i64 4], [.int .i64 5], [.int .i64 7]] : List (List Value))[k]? = some [.int .i64 (kindAt k)] := by
  have : k = 0 ∨ k = 1 ∨ k = 2 ∨ k = 3 ∨ k = 4 := by omega
  rcases this with rfl | rfl | rfl | rfl | rfl <;> rfl
end Go.Pse
namespace Go.Pse
open Go.RowKit Go.Proofs

set_option maxRecDepth 100000 in
set_option maxHeartbeats 4000000 in
theorem actMakes {E W : World} {x y : Int} {rev : Bool} :
    Con Tryz.prog 8 #[.int .i64 x, .int .i64 y, .bool rev] E [old W] (fun _ : Unit => .bool true) (fun _ => [old W]) := by
  refine Con.body (vs := [.int .i64 x, .int .i64 y, .bool rev]) (n := 194) Tryz.func8 rfl rfl [(0, .int .i64 x), (1, .int .i64 y), (2, .bool rev)] (env_ok 3 rfl) <| sr <| ag rfl rfl <| nx <| L_op <| xc fc12 .nil rfl (firstG) fun _ => ag rfl rfl <| nxx ?_
  refine mv rfl rfl <| L_pur rfl (p_not rfl) <| nq <| J_bool (t := 27) (c := false) rfl (rfl) <| C_false rfl <| J_skip <| qx <| L_op <| x_lit (vals := [_, _, _, _, _]) Tryz.underlying73 ty3 rfl (.cons rfl (.cons rfl (.cons rfl (.cons rfl (.cons rfl .nil))))) (.one rfl (.one rfl (.one rfl (.one rfl (.one rfl .nil))))) (Wf.cons rfl rfl (Wf.cons rfl rfl (Wf.cons rfl rfl (Wf.cons rfl rfl (Wf.cons rfl rfl Wf.nil))))) rfl (by decide) rfl rfl ?_
  refine JR fun a28 c28 hw28 hl28 hm28 hz28 => ?_
  obtain ⟨bx, ox, rfl⟩ := hz28 (by simp)
  refine mv rfl rfl <| L_op <| xc fc13 (.cons rfl (.cons rfl .nil)) rfl (number (by omega) (by omega)) fun _ => ?_
  obtain ⟨k, hk0⟩ : ∃ k, k = num x (5 : Nat) := ⟨_, rfl⟩
  have hk : k < 5 := by rw [hk0]; exact num_lt' (by omega)
  refine J_slot (t := 30) (v := .int .i64 (k : Int)) rfl (by rw [hk0]; rfl) <| L_pur rfl (p_indexAddr rfl rfl Tryz.underlying73 ty3 (by omega) (by simp; omega)) <| L_val rfl (v_loadE1 rfl ty3 HS (by simpa using kinds_at hk)) ?_
  obtain ⟨kd, hkd⟩ : ∃ kd, kd = kindAt k := ⟨_, rfl⟩
  have hkd2 := kindAt_is (k := k)
  rw [← hkd] at hkd2
  refine J_slot (t := 32) (v := .int .i64 kd) rfl (by rw [hkd]) <| ag rfl rfl <| nx <| mv rfl rfl <| L_op <| xc fc13 (.cons rfl (.cons rfl .nil)) rfl (number (by omega) (by omega)) fun _ => ?_
  obtain ⟨n0, hn00⟩ : ∃ n0, n0 = num y (5 : Nat) := ⟨_, rfl⟩
  have hn0 : n0 < 5 := by rw [hn00]; exact num_lt' (by omega)
  refine J_slot (t := 34) (v := .int .i64 (n0 : Int)) rfl (by rw [hn00]; rfl) <| L_pur rfl (p_add64 rfl rfl (by omega)) <| J_slot (t := 35) (v := .int .i64 (((n0 + 1 : Nat) : Int))) rfl (by first | rfl | (congr 1; omega)) ?_
  generalize hn : n0 + 1 = n
  have hn5 : 1 ≤ n ∧ n ≤ 5 := by omega
  refine ag rfl rfl <| nx <| L_op <| xc fc14 (.cons rfl .nil) rfl (alone1) fun g => ?_
  have FA := fun bs (hb : bs.length < 5) b => mkA_ok g hk bs hb b
  rw [← hkd] at FA
  unfold mkA1 at FA
  refine J_pick (A := coA g.p _) PC ?_
  refine J_asTo (B := coA g.p (mkF g kd []).1) (by rfl) <| ag rfl rfl <| nxx <| mv rfl rfl <| L_pur rfl (p_eqNilPtr Tryz.underlying25 rfl) <| nq <| J_bool (t := 38) (c := false) rfl (rfl) <| C_false rfl ?_
  refine J_skip <| Q_then <| J_seq <| sr <| ag rfl rfl <| nq <| J_block <| J_loop (α := List Nat) (fun bs => bs.length ≤ n) (fun bs => [coA g.p (mkF g kd bs).1, old W]) (fun bs => [(9, .int .i64 (bs.length : Int)), (0, .int .i64 kd), (1, .int .i64 (n : Int)), (2, .bool rev), (7, .bool true), (8, .pointer (some ⟨g.p, 0, none⟩))]) (fun bs => n - bs.length) [] (by simp) SU KE ?_
  intro bs hbl
  have WS := mkF_well (g := g) hkd2 bs.length bs rfl (by omega)
  obtain ⟨S, hS⟩ : ∃ S, S = (mkF g kd bs).1 := ⟨_, rfl⟩
  refine J_asTo (B := coA g.p S) (by rw [hS]) ?_
  rw [← hS] at WS
  refine J_seq <| sr <| mv rfl rfl <| mv rfl rfl <| L_pur rfl (p_lss rfl rfl) <| nq ?_
  refine C_dec rfl (fun h41 => ?_) (fun h41 => ?_)
  have hF := fun b => FA bs (by omega) b
  rw [← hS] at hF
  refine J_skip <| Q_then <| J_seq <| J_block <| sr <| mv rfl rfl <| L_op <| xc fc16 (.cons rfl .nil) rfl (slotC (k := 7) (by omega)) fun _ => ?_
  refine mv rfl rfl <| L_pur rfl (p_add64 rfl rfl (by omega)) <| J_slot (t := 48) (v := .int .i64 (((11 + bs.length : Nat) : Int))) rfl (by first | rfl | (congr 1; omega)) <| L_op <| xc fc16 (.cons rfl .nil) rfl (slotC (k := 11 + bs.length) (by omega)) fun _ => mv rfl rfl <| L_pur rfl (p_conv rfl Tryz.underlying3 Tryz.underlying22) <| J_slot (t := 51) (v := .int .u32 (kd)) rfl (by rw [wrap32u_of (by omega)]) ?_
  refine L_pur rfl (bld31 (.cons rfl (.cons rfl (.cons rfl (.cons rfl .nil)))) (by repeat constructor)) <| L_op <| xc fc15 (.cons rfl (.cons rfl (.cons rfl .nil))) rfl (coAskG (s := S) (g := 4) (e := eMk kd bs.length) (N := 40 + bs.length) (M := 60 + bs.length) PC WS (by omega) (by omega) (mk_sqe hkd2 (by omega)) (tk_is (chk_is (hF 0)).1 (by omega)) (chk_is (hF 0)).2.1 (fun q T hq hG hE => doesC7 hG hE (by rw [hq]))) fun b => ?_
  refine J_slot (t := 53) (v := .tuple #[.int .i64 0, .int .u32 (8 + (bs.length : Int)), .bool true]) rfl (by rw [(chk_is (hF b)).2.2]) <| J_pick (A := coA g.p _) PC ?_
  refine J_asTo (B := coA g.p (mkF g kd (bs ++ [b])).1) (by rw [mkF_snoc, ← hS]) <| mv rfl rfl <| L_pur rfl (p_extract rfl rfl) <| L_pur rfl (p_extract rfl rfl) <| L_pur rfl (p_extract rfl rfl) <| ag rfl rfl <| ag rfl rfl <| ag rfl rfl ?_
  refine nx <| mv rfl rfl <| L_pur rfl (p_not rfl) <| mv rfl rfl <| J_bool (t := 59) (c := false) rfl (rfl) <| L_op <| G_on rfl rfl rfl <| J_pur (p_move rfl) rfl rfl rfl ?_
  refine L_op <| G_on rfl rfl rfl <| J_pur (p_neq rfl rfl) rfl rfl rfl <| J_slot (t := 61) (v := .bool false) rfl (by first | rfl | (congr 1; simp; done) | (simp; done)) <| L_pur rfl (p_pick_f rfl rfl) <| mv rfl rfl <| J_bool (t := 63) (c := false) rfl (rfl) <| L_op <| G_on rfl rfl rfl ?_
  refine J_pur (p_move rfl) rfl rfl rfl <| L_op <| G_on rfl rfl rfl <| J_pur (p_conv rfl Tryz.underlying22 Tryz.underlying3) rfl rfl rfl <| J_slot (t := 65) (v := .int .i64 (8 + (bs.length : Int))) rfl (by rw [wrap64_of (by omega)]) <| L_op <| G_on rfl rfl rfl <| J_pur (p_move rfl) rfl rfl rfl ?_
  refine L_op <| G_on rfl rfl rfl <| J_pur (p_add64 rfl rfl (by omega)) rfl rfl rfl <| L_op <| G_on rfl rfl rfl <| J_pur (p_neq rfl rfl) rfl rfl rfl <| J_slot (t := 68) (v := .bool false) rfl (by first | rfl | (congr 1; simp; done) | (simp; done)) <| L_pur rfl (p_pick_f rfl rfl) ?_
  refine nq <| J_bool (t := 69) (c := false) rfl (rfl) <| C_false rfl <| J_skip <| Q_blk_normal <| qr <| mv rfl rfl <| L_pur rfl (p_add64 rfl rfl (by omega)) ?_
  refine ag rfl rfl <| nq <| J_slot (t := 9) (v := .int .i64 (((bs ++ [b]).length : Nat) : Int)) rfl (by simp) ?_
  exact J_again ((bs ++ [b])) (by simp; omega) (by simp; omega) SU KE
  have hbn : bs.length = n := by omega
  have FB := fun b => mkB_ok g hk rev bs (by omega) (by omega) b
  rw [← hkd] at FB
  unfold mkB1 at FB
  simp only [Bool.and_eq_true, decide_eq_true_eq, hbn] at FB
  rw [← hS] at FB
  rw [hbn] at WS
  clear FA
  obtain ⟨⟨⟨hsl, hep, hnt, hrp⟩, _⟩, _⟩ := FB 0
  refine J_exit <| Q_then_exit <| Q_then_exit <| Q_blk_this <| qx <| mv rfl rfl <| L_pur rfl (p_add64 rfl rfl (by omega)) <| ag rfl rfl ?_
  refine nx <| mv rfl rfl <| L_op <| xc fc29 (.cons rfl .nil) rfl (coSlots) fun _ => mv rfl rfl <| L_pur rfl (p_add64 rfl rfl (by omega)) <| L_pur rfl (bld67 (.cons rfl (.cons rfl .nil)) (by repeat constructor)) <| L_op <| xc fc34 (.cons rfl (.cons rfl .nil)) rfl (coSlGet (s := S) (a := (1, 10 + (n : Int))) PC) fun _ => ?_
  refine mv rfl rfl <| L_pur rfl (p_extract rfl rfl) <| L_pur rfl (p_extract rfl rfl) <| L_op <| x_alloc ty69 rfl fun b14 => L_op <| x_store rfl rfl ty69 rfl SM SM RO PT ?_
  refine J_pick (A := blk b14 _ _) PC ?_
  refine J_asTo (B := blk b14 69 (encC ⟨kd, (7 + (n : Int)), 0, 0, 7⟩)) (by rw [hsl]; rfl) <| ag rfl rfl <| nxx <| mv rfl rfl <| L_pur rfl (p_not rfl) <| mv rfl rfl <| J_bool (t := 83) (c := false) rfl (by rw [hsl]; rfl) <| L_op <| G_on rfl rfl rfl ?_
  refine J_val (v_loadA rfl ty69 HS CT) rfl rfl rfl ?_
  refine L_op <| G_on rfl rfl rfl <| J_pur (p_move rfl) rfl rfl rfl <| L_op <| G_on rfl rfl rfl <| J_pur (p_move rfl) rfl rfl rfl <| L_op <| G_on rfl rfl rfl ?_
  refine J_pur (bld69 (.cons rfl (.cons rfl (.cons rfl .nil))) (by repeat constructor)) rfl rfl rfl <| L_op <| G_on rfl rfl rfl <| J_pur (p_nev rfl rfl (fun w => eg69 _ _ _ _ _ w) (fun w => nev69 _ _ _ _ _ _ _ _ _ _ w)) rfl rfl rfl <| J_slot (t := 88) (v := .bool false) rfl (by first | rfl | (congr 1; simp; done) | (simp; done)) <| L_pur rfl (p_pick_f rfl rfl) <| mv rfl rfl <| J_bool (t := 90) (c := false) rfl (rfl) ?_
  refine L_op <| G_on rfl rfl rfl <| J_pur (p_move rfl) rfl rfl rfl <| L_op <| G_on rfl rfl rfl <| xc fc29 (.cons rfl .nil) rfl (coSlots) fun _ => L_op <| G_on rfl rfl rfl ?_
  refine J_pur (p_move rfl) rfl rfl rfl <| L_op <| G_on rfl rfl rfl <| J_pur (p_add64 rfl rfl (by omega)) rfl rfl rfl <| L_op <| G_on rfl rfl rfl <| J_pur (bld67 (.cons rfl (.cons rfl .nil)) (by repeat constructor)) rfl rfl rfl <| L_op <| G_on rfl rfl rfl ?_
  refine xc fc35 (.cons rfl (.cons rfl .nil)) rfl (coSlPar (s := S) (a := (1, 10 + (n : Int))) PC) fun _ => ?_
  refine J_slot (t := 96) (v := .agg (encI (1, 7)).toArray) rfl (by rw [hsl]; rfl) <| L_op <| G_on rfl rfl rfl <| J_pur (bld67 (.cons rfl (.cons rfl .nil)) (by repeat constructor)) rfl rfl rfl <| L_op <| G_on rfl rfl rfl <| J_pur (p_nev rfl rfl (fun w => eg67 _ _ _ _ _ w) (fun w => nev67 _ _ _ _ w)) rfl rfl rfl <| J_slot (t := 98) (v := .bool false) rfl (by first | rfl | (congr 1; simp; done) | (simp; done)) ?_
  refine L_pur rfl (p_pick_f rfl rfl) <| nq <| J_bool (t := 99) (c := false) rfl (rfl) <| C_false rfl <| J_skip <| qx <| mv rfl rfl <| mv rfl rfl ?_
  refine L_op <| xc fc27 (.cons rfl (.cons rfl .nil)) rfl (coEp (s := S) (u := (7 + (n : Int))) PC) fun _ => ?_
  refine J_slot (t := 102) (v := .pointer ((look (ptrs (KS.ep S)) (7 + (n : Int))).map fun b => ⟨b, 0, none⟩)) rfl rfl <| L_pur rfl (p_neNilPtr Tryz.underlying57 rfl) <| J_slot (t := 103) (v := .bool (decide (kd = 4))) rfl (by rw [← hep]; cases look (ptrs (KS.ep S)) (7 + (n : Int)) <;> rfl) <| mv rfl rfl <| L_pur rfl (p_eql rfl rfl) <| L_pur rfl (p_eqb Tryz.underlying4 rfl rfl) <| J_slot (t := 106) (v := .bool true) rfl (by cases decide (kd = 4) <;> rfl) <| mv rfl rfl ?_
  refine J_bool (t := 107) (c := true) rfl (rfl) <| L_op <| G_on rfl rfl rfl <| J_pur (p_move rfl) rfl rfl rfl <| L_op <| G_on rfl rfl rfl <| J_pur (p_move rfl) rfl rfl rfl <| L_op <| G_on rfl rfl rfl ?_
  refine xc fc36 (.cons rfl (.cons rfl .nil)) rfl (coNotif (s := S) (u := (7 + (n : Int))) PC) fun _ => ?_
  refine J_slot (t := 110) (v := .pointer ((look (ptrs (KS.nt S)) (7 + (n : Int))).map fun b => ⟨b, 0, none⟩)) rfl rfl <| L_op <| G_on rfl rfl rfl <| J_pur (p_neNilPtr Tryz.underlying79 rfl) rfl rfl rfl <| J_slot (t := 111) (v := .bool (decide (kd = 5))) rfl (by rw [← hnt]; cases look (ptrs (KS.nt S)) (7 + (n : Int)) <;> rfl) <| L_op <| G_on rfl rfl rfl <| J_pur (p_move rfl) rfl rfl rfl ?_
  refine L_op <| G_on rfl rfl rfl <| J_pur (p_eql rfl rfl) rfl rfl rfl <| L_op <| G_on rfl rfl rfl <| J_pur (p_eqb Tryz.underlying4 rfl rfl) rfl rfl rfl <| J_slot (t := 114) (v := .bool true) rfl (by cases decide (kd = 5) <;> rfl) <| L_pur rfl (p_pick_t rfl rfl) ?_
  refine mv rfl rfl <| J_bool (t := 116) (c := true) rfl (rfl) <| L_op <| G_on rfl rfl rfl <| J_pur (p_move rfl) rfl rfl rfl <| L_op <| G_on rfl rfl rfl <| J_pur (p_move rfl) rfl rfl rfl ?_
  refine L_op <| G_on rfl rfl rfl <| xc fc20 (.cons rfl (.cons rfl .nil)) rfl (coReply (s := S) (u := (7 + (n : Int))) PC) fun _ => ?_
  refine J_slot (t := 119) (v := .pointer ((look (ptrs (KS.rp S)) (7 + (n : Int))).map fun b => ⟨b, 0, none⟩)) rfl rfl <| L_op <| G_on rfl rfl rfl <| J_pur (p_neNilPtr Tryz.underlying42 rfl) rfl rfl rfl <| J_slot (t := 120) (v := .bool (decide (kd = 7))) rfl (by rw [← hrp]; cases look (ptrs (KS.rp S)) (7 + (n : Int)) <;> rfl) <| L_op <| G_on rfl rfl rfl <| J_pur (p_move rfl) rfl rfl rfl ?_
  refine L_op <| G_on rfl rfl rfl <| J_pur (p_eql rfl rfl) rfl rfl rfl <| L_op <| G_on rfl rfl rfl <| J_pur (p_eqb Tryz.underlying4 rfl rfl) rfl rfl rfl <| J_slot (t := 123) (v := .bool true) rfl (by cases decide (kd = 7) <;> rfl) <| L_pur rfl (p_pick_t rfl rfl) ?_
  refine ag rfl rfl <| nx <| mv rfl rfl <| L_pur rfl (p_add64 rfl rfl (by omega)) <| J_slot (t := 126) (v := .int .i64 (((10 + n : Nat) : Int))) rfl (by first | rfl | (congr 1; omega)) <| L_op <| xc fc16 (.cons rfl .nil) rfl (slotC (k := 10 + n) (by omega)) fun _ => L_pur rfl (bld31 (.cons rfl (.cons rfl .nil)) (by repeat constructor)) ?_
  refine L_op <| x_alloc ty31 rfl fun b17 => L_op <| x_store rfl rfl ty31 rfl SM SM RO PT ?_
  refine nq ?_
  refine J_cut (α := Unit) (fun _ : Unit => [blk b17 31 [.int .i64 (eGone n rev).op, .int .i64 (eGone n rev).flags, .int .u32 (eGone n rev).tag, .int .u32 (eGone n rev).cap, .int .u32 (eGone n rev).a, .int .u32 (eGone n rev).b, .int .u32 (eGone n rev).c, .int .u32 (eGone n rev).time], coA g.p S, old W]) (fun _ : Unit => [(1, .int .i64 (n : Int)), (2, .bool rev), (7, .bool true), (8, .pointer (some ⟨g.p, 0, none⟩)), (13, .int .i64 (7 + (n : Int))), (16, .bool true), (17, .pointer (some ⟨b17, 0, none⟩))]) ?_ ?_
  refine sr <| mv rfl rfl <| nq ?_
  refine C_split rfl (fun h129 => ?_) (fun h129 => ?_)
  refine J_region <| L_op <| xc fc16 (.cons rfl .nil) rfl (slotC (k := 7) (by omega)) fun _ => L_pur rfl (bld31 (.cons rfl (.cons rfl .nil)) (by repeat constructor)) <| L_op <| x_store rfl rfl ty31 rfl SM SM RO PT ?_
  refine nq <| J_pick (A := blk b17 _ _) PC ?_
  refine J_asTo (B := blk b17 31 [.int .i64 (eGone n rev).op, .int .i64 (eGone n rev).flags, .int .u32 (eGone n rev).tag, .int .u32 (eGone n rev).cap, .int .u32 (eGone n rev).a, .int .u32 (eGone n rev).b, .int .u32 (eGone n rev).c, .int .u32 (eGone n rev).time]) (by rw [h129]; rfl) ?_
  exact J_at (L := (fun _ : Unit => [blk b17 31 [.int .i64 (eGone n rev).op, .int .i64 (eGone n rev).flags, .int .u32 (eGone n rev).tag, .int .u32 (eGone n rev).cap, .int .u32 (eGone n rev).a, .int .u32 (eGone n rev).b, .int .u32 (eGone n rev).c, .int .u32 (eGone n rev).time], coA g.p S, old W])) (G := (fun _ : Unit => [(1, .int .i64 (n : Int)), (2, .bool rev), (7, .bool true), (8, .pointer (some ⟨g.p, 0, none⟩)), (13, .int .i64 (7 + (n : Int))), (16, .bool true), (17, .pointer (some ⟨b17, 0, none⟩))])) () SU KE
  refine J_skip <| Q_then <| J_pick (A := blk b17 _ _) PC ?_
  refine J_asTo (B := blk b17 31 [.int .i64 (eGone n rev).op, .int .i64 (eGone n rev).flags, .int .u32 (eGone n rev).tag, .int .u32 (eGone n rev).cap, .int .u32 (eGone n rev).a, .int .u32 (eGone n rev).b, .int .u32 (eGone n rev).c, .int .u32 (eGone n rev).time]) (by rw [h129]; rfl) ?_
  exact J_at (L := (fun _ : Unit => [blk b17 31 [.int .i64 (eGone n rev).op, .int .i64 (eGone n rev).flags, .int .u32 (eGone n rev).tag, .int .u32 (eGone n rev).cap, .int .u32 (eGone n rev).a, .int .u32 (eGone n rev).b, .int .u32 (eGone n rev).c, .int .u32 (eGone n rev).time], coA g.p S, old W])) (G := (fun _ : Unit => [(1, .int .i64 (n : Int)), (2, .bool rev), (7, .bool true), (8, .pointer (some ⟨g.p, 0, none⟩)), (13, .int .i64 (7 + (n : Int))), (16, .bool true), (17, .pointer (some ⟨b17, 0, none⟩))])) () SU KE
  intro _
  have hEo : SqeOk (eGone n rev) := by cases rev <;> exact sqeOk_mk
  refine sr <| mv rfl rfl <| L_val rfl (v_loadA rfl ty31 HS CT) ?_
  refine L_op (xc fc15 (.cons rfl (.cons rfl (.cons rfl .nil))) rfl (coAskG (s := S) (g := 4) (e := eGone n rev) (N := 40 + n) (M := 60 + n) PC WS (by omega) (by omega) hEo (tk_is (chk_is (FB 0).1.2).1 (by omega)) (chk_is (FB 0).1.2).2.1 (fun q T hq hG hE => by
      cases rev
      · exact doesC5 hG hE (by rw [hq]; rfl)
      · exact doesC6 hG hE (by rw [hq]; rfl))) fun b => ?_)
  refine J_slot (t := 135) (v := .tuple #[.int .i64 0, .int .u32 0, .bool true]) rfl (by rw [(chk_is (FB b).1.2).2.2]) ?_
  obtain ⟨_, hn1, hlen, hnep, hnnt, hnrp⟩ := FB b
  obtain ⟨S2, hS2⟩ : ∃ S2, S2 = mkE g kd bs rev b := ⟨_, rfl⟩
  refine J_pick (A := coA g.p _) PC ?_
  refine J_asTo (B := coA g.p S2) (by rw [hS2]; unfold mkE; rw [hbn, ← hS]) ?_
  rw [← hS2] at hn1 hlen hnep hnnt hnrp
  have WS2 : Well S2 (40 + n + 1) (60 + n + 1) := by
    have h := WS.ask (by omega) (by omega) 4 hEo b
    rw [hS2]; unfold mkE; rw [hbn, ← hS]; exact h
  refine mv rfl rfl <| L_pur rfl (p_extract rfl rfl) <| L_pur rfl (p_extract rfl rfl) <| L_pur rfl (p_extract rfl rfl) <| ag rfl rfl <| ag rfl rfl <| ag rfl rfl <| nx ?_
  refine mv rfl rfl <| L_op <| xc fc29 (.cons rfl .nil) rfl (coSlots) fun _ => mv rfl rfl <| L_pur rfl (p_add64 rfl rfl (by omega)) <| L_pur rfl (bld67 (.cons rfl (.cons rfl .nil)) (by repeat constructor)) <| L_op <| xc fc34 (.cons rfl (.cons rfl .nil)) rfl (coSlGet (s := S2) (a := (1, 10 + (n : Int))) PC) fun _ => ?_
  refine mv rfl rfl <| L_pur rfl (p_extract rfl rfl) <| L_pur rfl (p_extract rfl rfl) <| J_slot (t := 147) (v := .bool false) rfl (by rw [hn1]; rfl) <| L_op <| x_alloc ty69 rfl fun b21 => L_op <| x_store rfl rfl ty69 rfl SM SM RO PT ?_
  refine ag rfl rfl <| nx <| mv rfl rfl <| L_op <| xc fc29 (.cons rfl .nil) rfl (coSlots) fun _ => L_op <| xc fc37 (.cons rfl .nil) rfl (coSlAll (s := S2) PC (by have := WS2.sl; omega)) <| JR fun a150 c150 hw150 hl150 hm150 hz150 => ?_
  refine L_pur rfl (p_len rfl Tryz.underlying81) <| J_slot (t := 151) (v := .int .i64 (wantM n rev)) rfl (by rw [List.length_map, sortP_len, List.length_map, hlen]) <| ag rfl rfl <| nx <| mv rfl rfl <| L_pur rfl (p_add64 rfl rfl (by omega)) <| L_pur rfl (p_sub64 rfl rfl (by omega)) <| ag rfl rfl ?_
  refine nq ?_
  refine J_cut (α := Unit) (fun _ : Unit => [coA g.p S2, old W]) (fun _ : Unit => [(7, .bool true), (8, .pointer (some ⟨g.p, 0, none⟩)), (13, .int .i64 (7 + (n : Int))), (16, .bool true), (18, .int .i64 0), (20, .bool true), (22, .bool false), (23, .int .i64 (wantM n rev)), (24, .int .i64 (wantM n rev))]) ?_ ?_
  refine sr <| mv rfl rfl <| nq ?_
  refine C_split rfl (fun h155 => ?_) (fun h155 => ?_)
  refine J_region <| ag rfl rfl <| nq <| J_slot (t := 24) (v := .int .i64 (wantM n rev)) rfl (by unfold wantM; rw [h155]; first | rfl | (rw [if_neg (by simp)]; congr 1; omega)) ?_
  exact J_at (L := (fun _ : Unit => [coA g.p S2, old W])) (G := (fun _ : Unit => [(7, .bool true), (8, .pointer (some ⟨g.p, 0, none⟩)), (13, .int .i64 (7 + (n : Int))), (16, .bool true), (18, .int .i64 0), (20, .bool true), (22, .bool false), (23, .int .i64 (wantM n rev)), (24, .int .i64 (wantM n rev))])) () SU KE
  refine J_skip <| Q_then <| J_slot (t := 24) (v := .int .i64 (wantM n rev)) rfl (by unfold wantM; rw [h155]; first | rfl | (rw [if_neg (by simp)]; congr 1; omega)) ?_
  exact J_at (L := (fun _ : Unit => [coA g.p S2, old W])) (G := (fun _ : Unit => [(7, .bool true), (8, .pointer (some ⟨g.p, 0, none⟩)), (13, .int .i64 (7 + (n : Int))), (16, .bool true), (18, .int .i64 0), (20, .bool true), (22, .bool false), (23, .int .i64 (wantM n rev)), (24, .int .i64 (wantM n rev))])) () SU KE
  intro _
  refine sr <| mv rfl rfl <| mv rfl rfl <| J_bool (t := 157) (c := true) rfl (rfl) <| L_op <| G_on rfl rfl rfl <| J_pur (p_move rfl) rfl rfl rfl <| L_pur rfl (p_pick_t rfl rfl) ?_
  refine mv rfl rfl <| J_bool (t := 160) (c := true) rfl (rfl) <| L_op <| G_on rfl rfl rfl <| J_pur (p_move rfl) rfl rfl rfl <| L_pur rfl (p_pick_t rfl rfl) <| mv rfl rfl <| J_bool (t := 163) (c := true) rfl (rfl) ?_
  refine L_op <| G_on rfl rfl rfl <| J_pur (p_move rfl) rfl rfl rfl <| L_op <| G_on rfl rfl rfl <| J_pur (p_eql rfl rfl) rfl rfl rfl <| J_slot (t := 165) (v := .bool true) rfl (by first | rfl | (congr 1; simp; done) | (simp; done)) <| L_pur rfl (p_pick_t rfl rfl) ?_
  refine mv rfl rfl <| J_bool (t := 167) (c := true) rfl (rfl) <| L_op <| G_on rfl rfl rfl <| J_pur (p_move rfl) rfl rfl rfl <| L_op <| G_on rfl rfl rfl <| J_pur (p_not rfl) rfl rfl rfl ?_
  refine J_slot (t := 169) (v := .bool true) rfl (by first | rfl | (congr 1; simp; done) | (simp; done)) <| L_pur rfl (p_pick_t rfl rfl) <| mv rfl rfl <| J_bool (t := 171) (c := true) rfl (rfl) <| L_op <| G_on rfl rfl rfl <| J_pur (p_move rfl) rfl rfl rfl <| L_op <| G_on rfl rfl rfl ?_
  refine J_pur (p_move rfl) rfl rfl rfl <| L_op <| G_on rfl rfl rfl <| J_pur (p_eql rfl rfl) rfl rfl rfl <| J_slot (t := 174) (v := .bool true) rfl (by first | rfl | (congr 1; simp; done) | (simp; done)) <| L_pur rfl (p_pick_t rfl rfl) <| mv rfl rfl <| J_bool (t := 176) (c := true) rfl (rfl) ?_
  refine L_op <| G_on rfl rfl rfl <| J_pur (p_move rfl) rfl rfl rfl <| L_op <| G_on rfl rfl rfl <| J_pur (p_move rfl) rfl rfl rfl <| L_op <| G_on rfl rfl rfl ?_
  refine xc fc27 (.cons rfl (.cons rfl .nil)) rfl (coEp (s := S2) (u := (7 + (n : Int))) PC) fun _ => ?_
  refine J_slot (t := 179) (v := .pointer none) rfl (by rw [hnep]; rfl) <| L_op <| G_on rfl rfl rfl <| J_pur (p_eqNilPtr Tryz.underlying57 rfl) rfl rfl rfl <| J_slot (t := 180) (v := .bool true) rfl rfl <| L_pur rfl (p_pick_t rfl rfl) <| mv rfl rfl <| J_bool (t := 182) (c := true) rfl (rfl) ?_
  refine L_op <| G_on rfl rfl rfl <| J_pur (p_move rfl) rfl rfl rfl <| L_op <| G_on rfl rfl rfl <| J_pur (p_move rfl) rfl rfl rfl <| L_op <| G_on rfl rfl rfl ?_
  refine xc fc36 (.cons rfl (.cons rfl .nil)) rfl (coNotif (s := S2) (u := (7 + (n : Int))) PC) fun _ => ?_
  refine J_slot (t := 185) (v := .pointer none) rfl (by rw [hnnt]; rfl) <| L_op <| G_on rfl rfl rfl <| J_pur (p_eqNilPtr Tryz.underlying79 rfl) rfl rfl rfl <| J_slot (t := 186) (v := .bool true) rfl rfl <| L_pur rfl (p_pick_t rfl rfl) <| mv rfl rfl <| J_bool (t := 188) (c := true) rfl (rfl) ?_
  refine L_op <| G_on rfl rfl rfl <| J_pur (p_move rfl) rfl rfl rfl <| L_op <| G_on rfl rfl rfl <| J_pur (p_move rfl) rfl rfl rfl <| L_op <| G_on rfl rfl rfl ?_
  refine xc fc20 (.cons rfl (.cons rfl .nil)) rfl (coReply (s := S2) (u := (7 + (n : Int))) PC) fun _ => ?_
  refine J_slot (t := 191) (v := .pointer none) rfl (by rw [hnrp]; rfl) <| L_op <| G_on rfl rfl rfl <| J_pur (p_eqNilPtr Tryz.underlying42 rfl) rfl rfl rfl <| J_slot (t := 192) (v := .bool true) rfl rfl <| L_pur rfl (p_pick_t rfl rfl) <| ag rfl rfl <| nq ?_
  refine J_ret ?_
  exact J_return (()) Tryz.results8 (.tmp rfl .nil) rfl SU

end Go.Pse
