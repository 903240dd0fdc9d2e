/-
  Own texts, merged: C85a, C85.
-/
import Derived.Test.YtjhbhjenmijmfaaGreatBC4
import Derived.Test.YtjhbhjenmijmfaaGreatBC3
set_option linter.unusedVariables false
set_option linter.unusedSimpArgs false
namespace Go.Pse
open Go.RowKit Go.Proofs

abbrev eRv (i : Nat) : Sqe := ⟨11, 0, (i : Int), atK 9, 0, 0, 0, 0⟩
abbrev eSl (t : Nat) : Sqe := ⟨19, 0, (t : Int), 0, 0, 0, 0, 0⟩
abbrev eCn (t : Nat) : Sqe := ⟨20, 0, 99, 0, (t : Int), 0, 0, 0⟩
/-- So many receives have been asked, one behind the other. -/
def cnF (g : NewG) (bs : List Nat) : KS × Nat := bs.foldl (fun x b => (kAskS x.1 4 (eRv x.2) b, x.2 + 1)) (kNew 2 6 3 4 true g, 0)
theorem cnF_len : ∀ (bs : List Nat) (x : KS × Nat), (bs.foldl (fun x b => (kAskS x.1 4 (eRv x.2) b, x.2 + 1)) x).2 = x.2 + bs.length
  | [], _ => rfl
  | b :: bs, x => by
    rw [List.foldl_cons, cnF_len bs]; simp; omega
theorem cnF_two (g : NewG) (bs : List Nat) : (cnF g bs).2 = bs.length := by unfold cnF; rw [cnF_len]; simp
theorem cnF_snoc (g : NewG) (bs : List Nat) (b : Nat) : (cnF g (bs ++ [b])).1 = kAskS (cnF g bs).1 4 (eRv bs.length) b := by
  have h := cnF_two g bs
  unfold cnF at h ⊢
  rw [List.foldl_append, List.foldl_cons, List.foldl_nil, h]
theorem rv_sqe {i : Nat} : SqeOk (eRv i) := sqeOk_mk
theorem cnF_well {g : NewG} (n : Nat) : ∀ (bs : List Nat), bs.length = n → n ≤ 10 → Well (cnF g bs).1 (40 + n) (60 + n) := by
  induction n with
  | zero => intro bs h _; rw [List.length_eq_zero_iff.1 h]; exact well2 g
  | succ n ih =>
    intro bs h hn
    obtain ⟨cs, c, rfl⟩ : ∃ cs c, bs = cs ++ [c] := ⟨bs.dropLast, bs.getLast (by intro e; rw [e] at h; cases h), (List.dropLast_concat_getLast _).symm⟩
    rw [List.length_append] at h
    have h1 : cs.length = n := by simpa using h
    rw [cnF_snoc]
    exact (ih cs h1 (by omega)).ask (by omega) (by omega) 4 rv_sqe c
def cn1 (g : NewG) (bs : List Nat) (b : Nat) : Bool := chk (cnF g bs).1 4 (eRv bs.length) b 0 0 false bs.length
set_option maxRecDepth 100000 in
theorem cn1_all (g : NewG) (b b0 b1 b2 b3 b4 b5 b6 b7 : Nat) : (cn1 g [] b && cn1 g [b0] b && cn1 g [b0, b1] b && cn1 g [b0, b1, b2] b && cn1 g [b0, b1, b2, b3] b && cn1 g [b0, b1, b2, b3, b4] b && cn1 g [b0, b1, b2, b3, b4, b5] b && cn1 g [b0, b1, b2, b3, b4, b5, b6] b) = true := by kernel_rfl
theorem cn1_ok (g : NewG) : ∀ (bs : List Nat), bs.length < 8 → ∀ b, cn1 g bs b = true
  | [], _, b => by have h := cn1_all g b 0 0 0 0 0 0 0 0; simp only [Bool.and_eq_true] at h; exact h.1.1.1.1.1.1.1
  | [b0], _, b => by have h := cn1_all g b b0 0 0 0 0 0 0 0; simp only [Bool.and_eq_true] at h; exact h.1.1.1.1.1.1.2
  | [b0, b1], _, b => by have h := cn1_all g b b0 b1 0 0 0 0 0 0; simp only [Bool.and_eq_true] at h; exact h.1.1.1.1.1.2
  | [b0, b1, b2], _, b => by have h := cn1_all g b b0 b1 b2 0 0 0 0 0; simp only [Bool.and_eq_true] at h; exact h.1.1.1.1.2
  | [b0, b1, b2, b3], _, b => by have h := cn1_all g b b0 b1 b2 b3 0 0 0 0; simp only [Bool.and_eq_true] at h; exact h.1.1.1.2
  | [b0, b1, b2, b3, b4], _, b => by have h := cn1_all g b b0 b1 b2 b3 b4 0 0 0; simp only [Bool.and_eq_true] at h; exact h.1.1.2
  | [b0, b1, b2, b3, b4, b5], _, b => by have h := cn1_all g b b0 b1 b2 b3 b4 b5 0 0; simp only [Bool.and_eq_true] at h; exact h.1.2
  | [b0, b1, b2, b3, b4, b5, b6], _, b => by have h := cn1_all g b b0 b1 b2 b3 b4 b5 b6 0; simp only [Bool.and_eq_true] at h; exact h.2
  | _ :: _ :: _ :: _ :: _ :: _ :: _ :: _ :: _, h, _ => by simp only [List.length_cons] at h; omega
def cnS (g : NewG) (bs : List Nat) (tag b : Nat) : KS := kAskS (cnF g bs).1 17 (eSl tag) b
def cnE (g : NewG) (bs : List Nat) (tag b b2 : Nat) : KS := kAskS (cnS g bs tag b) 4 (eCn tag) b2
def rcn (s : KS) (n : Nat) : Bool := match look s.ep 27 with
  | some x => decide (x.2.1.length = 0) && decide (x.2.2.length = n)
  | none => false
theorem rcn_is {s : KS} {n : Nat} (h : rcn s n = true) : ∃ b out inn, look s.ep 27 = some (b, out, inn) ∧ out.length = 0 ∧ inn.length = n := by
  unfold rcn at h
  cases hq : look s.ep 27 with
  | none => rw [hq] at h; cases h
  | some x =>
    rw [hq] at h
    simp only [Bool.and_eq_true, decide_eq_true_eq] at h
    exact ⟨x.1, x.2.1, x.2.2, rfl, h.1, h.2⟩
def cn2 (g : NewG) (bs : List Nat) (tag b b2 : Nat) : Bool := chk (cnF g bs).1 17 (eSl tag) b 0 0 false 0 && (chk (cnS g bs tag b) 4 (eCn tag) b2 (if bs.length ≤ tag then -11 else 0) 0 true bs.length && (decide ((ofQ (cnE g bs tag b b2).rt 17).length = 1) && (if bs.length ≤ tag then decide ((ofQ (cnE g bs tag b b2).rt 4).length = bs.length) else decide ((atJ (cnE g bs tag b b2).jn (4, (tag : Int) + 1)).map (fun d => d.2.2.2.1) = some (-9)) && (decide ((ofQ (cnE g bs tag b b2).rt 4).length + 1 = bs.length) && rcn (cnE g bs tag b b2) (bs.length - 1)))))
set_option maxRecDepth 100000 in
theorem cn2_all (g : NewG) (b b' b0 b1 b2 b3 b4 b5 b6 b7 : Nat) : (((List.range 3).all fun tag => cn2 g [b0] tag b b') && ((List.range 4).all fun tag => cn2 g [b0, b1] tag b b') && ((List.range 5).all fun tag => cn2 g [b0, b1, b2] tag b b') && ((List.range 6).all fun tag => cn2 g [b0, b1, b2, b3] tag b b') && ((List.range 7).all fun tag => cn2 g [b0, b1, b2, b3, b4] tag b b') && ((List.range 8).all fun tag => cn2 g [b0, b1, b2, b3, b4, b5] tag b b') && ((List.range 9).all fun tag => cn2 g [b0, b1, b2, b3, b4, b5, b6] tag b b') && ((List.range 10).all fun tag => cn2 g [b0, b1, b2, b3, b4, b5, b6, b7] tag b b')) = true := by kernel_rfl
theorem cn2_ok (g : NewG) : ∀ (bs : List Nat), 1 ≤ bs.length → bs.length ≤ 8 → ∀ {tag : Nat}, tag < bs.length + 2 → ∀ b b', cn2 g bs tag b b' = true
  | [], h, _, _, _, _, _ => by simp at h
  | [b0], _, _, _, ht, b, b' => by have h := cn2_all g b b' b0 0 0 0 0 0 0 0; simp only [Bool.and_eq_true] at h; exact all_range h.1.1.1.1.1.1.1 ht
  | [b0, b1], _, _, _, ht, b, b' => by have h := cn2_all g b b' b0 b1 0 0 0 0 0 0; simp only [Bool.and_eq_true] at h; exact all_range h.1.1.1.1.1.1.2 ht
  | [b0, b1, b2], _, _, _, ht, b, b' => by have h := cn2_all g b b' b0 b1 b2 0 0 0 0 0; simp only [Bool.and_eq_true] at h; exact all_range h.1.1.1.1.1.2 ht
  | [b0, b1, b2, b3], _, _, _, ht, b, b' => by have h := cn2_all g b b' b0 b1 b2 b3 0 0 0 0; simp only [Bool.and_eq_true] at h; exact all_range h.1.1.1.1.2 ht
  | [b0, b1, b2, b3, b4], _, _, _, ht, b, b' => by have h := cn2_all g b b' b0 b1 b2 b3 b4 0 0 0; simp only [Bool.and_eq_true] at h; exact all_range h.1.1.1.2 ht
  | [b0, b1, b2, b3, b4, b5], _, _, _, ht, b, b' => by have h := cn2_all g b b' b0 b1 b2 b3 b4 b5 0 0; simp only [Bool.and_eq_true] at h; exact all_range h.1.1.2 ht
  | [b0, b1, b2, b3, b4, b5, b6], _, _, _, ht, b, b' => by have h := cn2_all g b b' b0 b1 b2 b3 b4 b5 b6 0; simp only [Bool.and_eq_true] at h; exact all_range h.1.2 ht
  | [b0, b1, b2, b3, b4, b5, b6, b7], _, _, _, ht, b, b' => by have h := cn2_all g b b' b0 b1 b2 b3 b4 b5 b6 b7; simp only [Bool.and_eq_true] at h; exact all_range h.2 ht
  | _ :: _ :: _ :: _ :: _ :: _ :: _ :: _ :: _ :: _, _, h, _, _, _, _ => by simp only [List.length_cons] at h; omega
end Go.Pse
namespace Go.Pse
open Go.RowKit Go.Proofs

set_option maxRecDepth 100000 in
set_option maxHeartbeats 4000000 in
theorem actCancels {E W : World} {x y : Int} :
    Con Tryz.prog 5 #[.int .i64 x, .int .i64 y] E [old W] (fun _ : Unit => .bool true) (fun _ => [old W]) := by
  refine Con.body (vs := [.int .i64 x, .int .i64 y]) (n := 143) Tryz.func5 rfl rfl [(0, .int .i64 x), (1, .int .i64 y)] (env_ok 2 rfl) <| sr <| ag rfl rfl <| nx <| L_op <| xc fc12 .nil rfl (firstG) fun _ => ag rfl rfl <| nxx ?_
  refine mv rfl rfl <| L_pur rfl (p_not rfl) <| nq <| J_bool (t := 22) (c := false) rfl (rfl) <| C_false rfl <| J_skip <| qx <| mv rfl rfl ?_
  refine L_op <| xc fc13 (.cons rfl (.cons rfl .nil)) rfl (number (by omega) (by omega)) fun _ => ?_
  obtain ⟨n0, hn00⟩ : ∃ n0, n0 = num x (8 : Nat) := ⟨_, rfl⟩
  have hn0 : n0 < 8 := by rw [hn00]; exact num_lt' (by omega)
  refine J_slot (t := 24) (v := .int .i64 (n0 : Int)) rfl (by rw [hn00]; rfl) <| L_pur rfl (p_add64 rfl rfl (by omega)) <| J_slot (t := 25) (v := .int .i64 (((n0 + 1 : Nat) : Int))) rfl (by first | rfl | (congr 1; omega)) ?_
  generalize hn : n0 + 1 = n
  have hn8 : 1 ≤ n ∧ n ≤ 8 := by omega
  refine ag rfl rfl <| nx <| mv rfl rfl <| mv rfl rfl <| L_pur rfl (p_add64 rfl rfl (by omega)) <| J_slot (t := 28) (v := .int .i64 (((n + 2 : Nat) : Int))) rfl (by first | rfl | (congr 1; omega)) <| L_op <| xc fc13 (.cons rfl (.cons rfl .nil)) rfl (number (b := ((n + 2 : Nat) : Int)) (by omega) (by omega)) fun _ => ?_
  obtain ⟨tag, htag0⟩ : ∃ tag, tag = num y ((n + 2 : Nat) : Int) := ⟨_, rfl⟩
  have htag : tag < n + 2 := by rw [htag0]; exact num_lt' (by omega)
  refine J_slot (t := 29) (v := .int .i64 (tag : Int)) rfl (by rw [htag0]) <| ag rfl rfl <| nx <| L_op <| xc fc14 (.cons rfl .nil) rfl (alone2) fun g => ?_
  have FA := fun bs (hb : bs.length < 8) b => cn1_ok g bs hb b
  unfold cn1 at FA
  refine J_pick (A := coA g.p _) PC ?_
  refine J_asTo (B := coA g.p (cnF g []).1) (by rfl) <| ag rfl rfl <| nxx <| mv rfl rfl <| L_pur rfl (p_eqNilPtr Tryz.underlying25 rfl) <| nq <| J_bool (t := 32) (c := false) rfl (rfl) <| C_false rfl ?_
  refine J_skip <| Q_then <| J_seq <| sr <| ag rfl rfl <| nq <| J_block <| J_loop (α := List Nat) (fun bs => bs.length ≤ n) (fun bs => [coA g.p (cnF g bs).1, old W]) (fun bs => [(7, .int .i64 (bs.length : Int)), (0, .int .i64 (n : Int)), (1, .int .i64 (tag : Int)), (5, .bool true), (6, .pointer (some ⟨g.p, 0, none⟩))]) (fun bs => n - bs.length) [] (by simp) SU KE ?_
  intro bs hbl
  have WS := cnF_well (g := g) bs.length bs rfl (by omega)
  obtain ⟨S, hS⟩ : ∃ S, S = (cnF g bs).1 := ⟨_, rfl⟩
  refine J_asTo (B := coA g.p S) (by rw [hS]) ?_
  rw [← hS] at WS
  refine J_seq <| sr <| mv rfl rfl <| mv rfl rfl <| L_pur rfl (p_lss rfl rfl) <| nq ?_
  refine C_dec rfl (fun h35 => ?_) (fun h35 => ?_)
  have hF := fun b => FA bs (by omega) b
  rw [← hS] at hF
  refine J_skip <| Q_then <| J_seq <| J_block <| sr <| mv rfl rfl <| mv rfl rfl <| L_pur rfl (p_conv rfl Tryz.underlying3 Tryz.underlying22) ?_
  refine J_slot (t := 41) (v := .int .u32 ((bs.length : Int))) rfl (by rw [wrap32u_of (by omega)]) <| L_op <| xc fc16 (.cons rfl .nil) rfl (slotC (k := 9) (by omega)) fun _ => L_pur rfl (bld31 (.cons rfl (.cons rfl (.cons rfl .nil))) (by repeat constructor)) <| L_op <| xc fc15 (.cons rfl (.cons rfl (.cons rfl .nil))) rfl (coAskG (s := S) (g := 4) (e := eRv bs.length) (N := 40 + bs.length) (M := 60 + bs.length) PC WS (by omega) (by omega) rv_sqe (tk_is (chk_is (hF 0)).1 (by omega)) (chk_is (hF 0)).2.1 (fun q T hq hG hE => doesC11 hG hE (by rw [hq]))) fun b => ?_
  refine J_slot (t := 44) (v := .tuple #[.int .i64 0, .int .u32 0, .bool false]) rfl (by rw [(chk_is (hF b)).2.2]) <| J_pick (A := coA g.p _) PC ?_
  refine J_asTo (B := coA g.p (cnF g (bs ++ [b])).1) (by rw [cnF_snoc, ← hS]) <| mv rfl rfl <| L_pur rfl (p_extract rfl rfl) <| L_pur rfl (p_extract rfl rfl) <| L_pur rfl (p_extract rfl rfl) <| ag rfl rfl <| ag rfl rfl <| ag rfl rfl ?_
  refine nx <| mv rfl rfl <| nq <| J_bool (t := 48) (c := false) rfl (rfl) <| C_false rfl <| J_skip <| Q_blk_normal <| qr ?_
  refine mv rfl rfl <| L_pur rfl (p_add64 rfl rfl (by omega)) <| ag rfl rfl <| nq <| J_slot (t := 7) (v := .int .i64 (((bs ++ [b]).length : Nat) : Int)) rfl (by simp) ?_
  exact J_again ((bs ++ [b])) (by simp; omega) (by simp; omega) SU KE
  have hbn : bs.length = n := by omega
  have FB := fun b b2 => cn2_ok g bs (by omega) (by omega) (tag := tag) (by omega) b b2
  unfold cn2 at FB
  simp only [Bool.and_eq_true, hbn] at FB
  rw [← hS] at FB
  rw [hbn] at WS
  clear FA
  refine J_exit <| Q_then_exit <| Q_then_exit <| Q_blk_this <| Q_then <| J_seq <| sr <| mv rfl rfl ?_
  refine mv rfl rfl <| L_pur rfl (p_conv rfl Tryz.underlying3 Tryz.underlying22) <| J_slot (t := 52) (v := .int .u32 ((tag : Int))) rfl (by rw [wrap32u_of (by omega)]) <| L_pur rfl (bld31 (.cons rfl (.cons rfl .nil)) (by repeat constructor)) <| L_op <| xc fc15 (.cons rfl (.cons rfl (.cons rfl .nil))) rfl (coAskG (s := S) (g := 17) (e := (eSl tag)) (N := 40 + n) (M := 60 + n) PC WS (by omega) (by omega) sqeOk_mk (tk_is (chk_is ((fun b => (FB b 0).1) 0)).1 (by omega)) (chk_is ((fun b => (FB b 0).1) 0)).2.1 (fun q T hq hG hE => doesC19 hG hE (by rw [hq]))) fun b1 => ?_
  refine J_slot (t := 54) (v := .tuple #[.int .i64 0, .int .u32 0, .bool false]) rfl (by rw [(chk_is ((fun b => (FB b 0).1) b1)).2.2]) ?_
  obtain ⟨S1, hS1⟩ : ∃ S : KS, S = (cnS g bs tag b1) := ⟨_, rfl⟩
  refine J_pick (A := coA g.p _) PC ?_
  refine J_asTo (B := coA g.p S1) (by rw [hS1, hS]; rfl) ?_
  have W1 : Well S1 (40 + n + 1) (60 + n + 1) := by
    have h := WS.ask (by omega) (by omega) 17 sqeOk_mk b1 (e := (eSl tag))
    rw [hS] at h
    rw [hS1]; exact h
  have F1 := fun b => (FB b1 b).2
  rw [← hS1] at F1
  clear FB
  refine mv rfl rfl <| L_pur rfl (p_extract rfl rfl) <| L_pur rfl (p_extract rfl rfl) <| L_pur rfl (p_extract rfl rfl) <| ag rfl rfl <| ag rfl rfl <| ag rfl rfl <| nx ?_
  refine mv rfl rfl <| nq <| J_bool (t := 58) (c := false) rfl (rfl) <| C_false rfl <| J_skip <| qx <| mv rfl rfl <| mv rfl rfl ?_
  refine L_pur rfl (p_conv rfl Tryz.underlying3 Tryz.underlying22) <| J_slot (t := 62) (v := .int .u32 ((tag : Int))) rfl (by rw [wrap32u_of (by omega)]) <| L_pur rfl (bld31 (.cons rfl (.cons rfl (.cons rfl .nil))) (by repeat constructor)) <| L_op <| xc fc15 (.cons rfl (.cons rfl (.cons rfl .nil))) rfl (coAskG (s := S1) (g := 4) (e := (eCn tag)) (N := 40 + n + 1) (M := 60 + n + 1) PC W1 (by omega) (by omega) sqeOk_mk (tk_is (chk_is ((fun b => (F1 b).1) 0)).1 (by omega)) (chk_is ((fun b => (F1 b).1) 0)).2.1 (fun q T hq hG hE => doesC20 hG hE (by rw [hq]))) fun b2 => ?_
  refine J_slot (t := 64) (v := .tuple #[.int .i64 (if n ≤ tag then -11 else 0), .int .u32 0, .bool true]) rfl (by rw [(chk_is ((fun b => (F1 b).1) b2)).2.2]) ?_
  obtain ⟨S2, hS2⟩ : ∃ S : KS, S = (cnE g bs tag b1 b2) := ⟨_, rfl⟩
  refine J_pick (A := coA g.p _) PC ?_
  refine J_asTo (B := coA g.p S2) (by rw [hS2, hS1]; rfl) ?_
  have W2 : Well S2 (40 + n + 1 + 1) (60 + n + 1 + 1) := by
    have h := W1.ask (by omega) (by omega) 4 sqeOk_mk b2 (e := (eCn tag))
    rw [hS1] at h
    rw [hS2]; exact h
  have F2 := (F1 b2).2
  rw [← hS2] at F2
  clear F1
  have hq17 : (ofQ S2.rt 17).length = 1 := of_decide_eq_true F2.1
  have F3 := F2.2
  clear F2
  have hj2 : S2.jn.length ≤ 200000 := by have := W2.fit.jn; have := W2.fit.mm; omega
  refine mv rfl rfl <| L_pur rfl (p_extract rfl rfl) <| L_pur rfl (p_extract rfl rfl) <| L_pur rfl (p_extract rfl rfl) <| ag rfl rfl <| ag rfl rfl <| ag rfl rfl <| nxx ?_
  refine mv rfl rfl <| L_pur rfl (p_not rfl) <| mv rfl rfl <| J_bool (t := 70) (c := false) rfl (rfl) <| L_op <| G_on rfl rfl rfl <| J_pur (p_move rfl) rfl rfl rfl <| L_op <| G_on rfl rfl rfl ?_
  refine xc fc22 (.cons rfl .nil) rfl (coReqs) fun _ => L_op <| G_on rfl rfl rfl <| xc fc26 (.cons rfl (.cons rfl .nil)) rfl (coRqOf (s := S2) (g := 17) PC W2.fit.ids (by have := W2.fit.jn; have := W2.fit.mm; omega)) <| JR fun a73 c73 hw73 hl73 hm73 hz73 => L_op <| G_on rfl rfl rfl <| J_pur (p_len rfl Tryz.underlying54) rfl rfl rfl ?_
  refine J_slot (t := 74) (v := .int .i64 1) rfl (by rw [List.length_map]; congr 1; rw [hq17]; rfl) <| L_op <| G_on rfl rfl rfl <| J_pur (p_neq rfl rfl) rfl rfl rfl <| L_pur rfl (p_pick_f rfl rfl) <| J_slot (t := 76) (v := .bool false) rfl (by first | rfl | (congr 1; simp; done) | (simp; done)) <| nq <| J_bool (t := 76) (c := false) rfl (rfl) ?_
  refine C_false rfl <| J_skip <| Q_then <| J_seq <| sr <| mv rfl rfl <| mv rfl rfl <| L_pur rfl (p_geq rfl rfl) ?_
  refine nq ?_
  refine C_dec rfl (fun h79 => ?_) (fun h79 => ?_)
  have hle : n ≤ tag := by omega
  rw [if_pos hle] at F3
  have hq4 : (ofQ S2.rt 4).length = n := of_decide_eq_true F3
  refine sr <| mv rfl rfl <| mv rfl rfl <| J_bool (t := 81) (c := true) rfl (rfl) <| L_op <| G_on rfl rfl rfl <| J_pur (p_move rfl) rfl rfl rfl <| L_op <| G_on rfl rfl rfl ?_
  refine J_pur (p_eql rfl rfl) rfl rfl rfl <| L_pur rfl (p_pick_t rfl rfl) <| J_slot (t := 84) (v := .bool true) rfl (by first | (rw [if_pos hle]; rfl) | rfl | (congr 1; simp; done) | (simp; done)) <| mv rfl rfl <| J_bool (t := 85) (c := true) rfl (rfl) <| L_op <| G_on rfl rfl rfl <| J_pur (p_move rfl) rfl rfl rfl ?_
  refine L_op <| G_on rfl rfl rfl <| xc fc22 (.cons rfl .nil) rfl (coReqs) fun _ => L_op <| G_on rfl rfl rfl <| xc fc26 (.cons rfl (.cons rfl .nil)) rfl (coRqOf (s := S2) (g := 4) PC W2.fit.ids (by have := W2.fit.jn; have := W2.fit.mm; omega)) <| JR fun a88 c88 hw88 hl88 hm88 hz88 => L_op <| G_on rfl rfl rfl ?_
  refine J_pur (p_len rfl Tryz.underlying54) rfl rfl rfl <| J_slot (t := 89) (v := .int .i64 (n : Int)) rfl (by rw [List.length_map]; congr 1; rw [hq4]) <| L_op <| G_on rfl rfl rfl <| J_pur (p_move rfl) rfl rfl rfl <| L_op <| G_on rfl rfl rfl <| J_pur (p_eql rfl rfl) rfl rfl rfl ?_
  refine L_pur rfl (p_pick_t rfl rfl) <| J_slot (t := 92) (v := .bool true) rfl (by first | rfl | (congr 1; simp; done) | (simp; done)) <| ag rfl rfl <| nq <| J_ret <| Q_then_ret ?_
  refine J_return (()) Tryz.results5 (.tmp rfl .nil) ?_ ?_
  · first | rfl | simp [one]
  · exact SU
  have hle : ¬ n ≤ tag := by omega
  rw [if_neg hle] at F3
  simp only [Bool.and_eq_true, decide_eq_true_eq] at F3
  obtain ⟨hja, hq4, hrc⟩ := F3
  obtain ⟨eb, out, inn, hep, hout, hinn⟩ := rcn_is hrc
  have hq4b : (ofQ S2.rt 4).length = n - 1 := by omega
  refine J_slot (t := 14) (v := .int .i64 0) rfl (by rw [if_neg hle]) <| J_skip <| qx <| mv rfl rfl <| L_op <| xc fc17 (.cons rfl .nil) rfl (coJournal) fun _ => L_op <| xc fc18 (.cons rfl .nil) rfl (coJAll (s := S2) PC hj2) ?_
  refine JR fun a95 c95 hw95 hl95 hm95 hz95 => ?_
  have hml : (S2.jn.map encD).length = S2.jn.length := List.length_map _
  have hmcap : c95 ≤ 9223372036854775807 := hm95
  refine ag rfl rfl <| nx <| mv rfl rfl <| mv rfl rfl <| L_pur rfl (p_add64 rfl rfl (by omega)) <| J_slot (t := 99) (v := .int .i64 (((tag : Int) + 1))) rfl (by first | rfl | (congr 1; omega)) <| L_pur rfl (bld39 (.cons rfl (.cons rfl .nil)) (by repeat constructor)) <| L_op <| xc fc19 (.cons rfl (.cons rfl .nil)) rfl (atC (xs := S2.jn) (i := (4, (tag : Int) + 1)) (fun w H => sep_reads (xs := S2.jn.map encD) HS H) hj2) fun _ => ?_
  obtain ⟨k, hk0⟩ : ∃ k, idxJ S2.jn (4, (tag : Int) + 1) = some k := by
    cases hq : idxJ S2.jn (4, (tag : Int) + 1) with
    | none => rw [idxJ_no hq] at hja; cases hja
    | some y => exact ⟨y, rfl⟩
  obtain ⟨d, hcc, hat⟩ := idxJ_at hk0
  have hd9 : d.2.2.2.1 = -9 := by rw [hat] at hja; exact Option.some.inj hja
  have hlt : k < S2.jn.length := (List.getElem?_eq_some_iff.1 hcc).1
  obtain ⟨bx, ox, rfl⟩ := hz95 (by intro h; rw [h] at hml; simp at hml; omega)
  refine J_slot (t := 101) (v := .tuple #[.int .i64 (k : Int), .bool true]) rfl (by rw [hk0]; rfl) <| mv rfl rfl <| L_pur rfl (p_extract rfl rfl) <| L_pur rfl (p_extract rfl rfl) <| ag rfl rfl <| ag rfl rfl <| nx <| mv rfl rfl ?_
  refine mv rfl rfl <| J_bool (t := 105) (c := true) rfl (rfl) <| L_op <| G_on rfl rfl rfl <| J_pur (p_move rfl) rfl rfl rfl <| L_op <| G_on rfl rfl rfl <| J_pur (p_eql rfl rfl) rfl rfl rfl ?_
  refine L_pur rfl (p_pick_t rfl rfl) <| J_slot (t := 108) (v := .bool true) rfl (by first | rfl | (congr 1; simp; done) | (simp; done)) <| mv rfl rfl <| J_bool (t := 109) (c := true) rfl (rfl) <| L_op <| G_on rfl rfl rfl <| J_pur (p_move rfl) rfl rfl rfl <| L_pur rfl (p_pick_t rfl rfl) ?_
  refine mv rfl rfl <| J_bool (t := 112) (c := true) rfl (rfl) <| L_op <| G_on rfl rfl rfl <| J_pur (p_move rfl) rfl rfl rfl <| L_op <| G_on rfl rfl rfl <| J_pur (p_move rfl) rfl rfl rfl ?_
  refine L_op <| G_on rfl rfl rfl <| J_pur (p_indexAddr rfl rfl Tryz.underlying32 ty41 (by omega) (by omega)) rfl rfl rfl <| L_op <| G_on rfl rfl rfl <| J_pur (p_fieldAddr rfl fa41_3) rfl rfl rfl <| L_op <| G_on rfl rfl rfl ?_
  refine J_val (v_loadF rfl ty3 HS (by first | (simp only [Int.toNat_natCast, List.getElem?_map, hcc]; rfl) | (simp only [Int.toNat_natCast, List.getElem?_map, hcd]; rfl) | simp | rfl) (by exact rfl)) rfl rfl rfl ?_
  refine L_op <| G_on rfl rfl rfl <| J_pur (p_eql rfl rfl) rfl rfl rfl <| L_pur rfl (p_pick_t rfl rfl) <| J_slot (t := 119) (v := .bool true) rfl (by first | (rw [hd9]; rfl) | rfl | (congr 1; simp; done) | (simp; done)) <| mv rfl rfl <| J_bool (t := 120) (c := true) rfl (rfl) <| L_op <| G_on rfl rfl rfl ?_
  refine J_pur (p_move rfl) rfl rfl rfl <| L_op <| G_on rfl rfl rfl <| xc fc22 (.cons rfl .nil) rfl (coReqs) fun _ => L_op <| G_on rfl rfl rfl <| xc fc26 (.cons rfl (.cons rfl .nil)) rfl (coRqOf (s := S2) (g := 4) PC W2.fit.ids (by have := W2.fit.jn; have := W2.fit.mm; omega)) <| JR fun a123 c123 hw123 hl123 hm123 hz123 => ?_
  refine L_op <| G_on rfl rfl rfl <| J_pur (p_len rfl Tryz.underlying54) rfl rfl rfl <| J_slot (t := 124) (v := .int .i64 ((n - 1 : Nat) : Int)) rfl (by rw [List.length_map]; congr 1; rw [hq4b]) <| L_op <| G_on rfl rfl rfl <| J_pur (p_move rfl) rfl rfl rfl <| L_op <| G_on rfl rfl rfl ?_
  refine J_pur (p_sub64 rfl rfl (by omega)) rfl rfl rfl <| J_slot (t := 126) (v := .int .i64 (((n - 1 : Nat) : Int))) rfl (by first | rfl | (congr 1; omega)) <| L_op <| G_on rfl rfl rfl <| J_pur (p_eql rfl rfl) rfl rfl rfl <| L_pur rfl (p_pick_t rfl rfl) <| J_slot (t := 128) (v := .bool true) rfl (by first | rfl | (congr 1; simp; done) | (simp; done)) <| mv rfl rfl ?_
  refine J_bool (t := 129) (c := true) rfl (rfl) <| L_op <| G_on rfl rfl rfl <| J_pur (p_move rfl) rfl rfl rfl <| L_op <| G_on rfl rfl rfl <| xc fc27 (.cons rfl (.cons rfl .nil)) rfl (coEp (s := S2) (u := 27) PC) fun _ => ?_
  refine J_slot (t := 131) (v := .pointer (some ⟨eb, 0, none⟩)) rfl (by rw [look_ptrs, hep]; rfl) <| L_op <| G_on rfl rfl rfl <| J_pur (p_neNilPtr Tryz.underlying57 rfl) rfl rfl rfl <| L_pur rfl (p_pick_t rfl rfl) <| J_slot (t := 133) (v := .bool true) rfl (by first | rfl | (congr 1; simp; done) | (simp; done)) <| mv rfl rfl <| J_bool (t := 134) (c := true) rfl (rfl) ?_
  refine L_op <| G_on rfl rfl rfl <| J_pur (p_move rfl) rfl rfl rfl <| L_op <| G_on rfl rfl rfl <| xc fc27 (.cons rfl (.cons rfl .nil)) rfl (coEp (s := S2) (u := 27) PC) fun _ => ?_
  refine J_slot (t := 136) (v := .pointer (some ⟨eb, 0, none⟩)) rfl (by rw [look_ptrs, hep]; rfl) <| L_op <| G_on rfl rfl rfl <| xc fc28 (.cons rfl .nil) rfl (coEpReceivers (s := S2) (u := 27) PC hep (by omega) (by omega)) <| JR fun a137 c137 hw137 hl137 hm137 hz137 => L_op <| G_on rfl rfl rfl <| J_pur (p_len rfl Tryz.underlying59) rfl rfl rfl ?_
  refine J_slot (t := 138) (v := .int .i64 ((n - 1 : Nat) : Int)) rfl (by rw [List.length_map, hinn]) <| L_op <| G_on rfl rfl rfl <| J_pur (p_move rfl) rfl rfl rfl <| L_op <| G_on rfl rfl rfl <| J_pur (p_sub64 rfl rfl (by omega)) rfl rfl rfl <| J_slot (t := 140) (v := .int .i64 (((n - 1 : Nat) : Int))) rfl (by first | rfl | (congr 1; omega)) ?_
  refine L_op <| G_on rfl rfl rfl <| J_pur (p_eql rfl rfl) rfl rfl rfl <| L_pur rfl (p_pick_t rfl rfl) <| J_slot (t := 142) (v := .bool true) rfl (by first | rfl | (congr 1; simp; done) | (simp; done)) <| ag rfl rfl <| nq <| J_ret ?_
  refine J_return (()) Tryz.results5 (.tmp rfl .nil) ?_ ?_
  · first | rfl | simp [one]
  · exact SU

end Go.Pse
