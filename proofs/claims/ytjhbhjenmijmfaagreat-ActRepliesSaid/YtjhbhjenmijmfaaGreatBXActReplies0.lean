/-
  Own texts, merged: C86a, C86.
-/
import Derived.Test.YtjhbhjenmijmfaaGreatBC4
import Derived.Test.YtjhbhjenmijmfaaGreatBC3
set_option linter.unusedVariables false
set_option linter.unusedSimpArgs false
namespace Go.Pse
open Go.RowKit Go.Proofs

abbrev eCl (i : Nat) : Sqe := ⟨12, 0, (i : Int), atK 9, (i : Int), 0, 0, 0⟩
abbrev eR2 : Sqe := ⟨11, 0, 50, atK 9, 0, atK 8, 0, 0⟩
abbrev eAn (del : Bool) (w : Int) : Sqe := if del = true then ⟨5, 0, 0, atK 8, 0, 0, 0, 0⟩ else ⟨13, 0, 0, atK 8, w, 0, 0, 0⟩
/-- So many calls have been asked, each received by the other thread. -/
def rlF (g : NewG) (bs : List (Nat × Nat)) : KS × Nat := bs.foldl (fun x b => (kAskS (kAskS x.1 4 (eCl x.2) b.1) 17 eR2 b.2, x.2 + 1)) (kNew 2 6 3 4 true g, 0)
theorem rlF_len : ∀ (bs : List (Nat × Nat)) (x : KS × Nat), (bs.foldl (fun x b => (kAskS (kAskS x.1 4 (eCl x.2) b.1) 17 eR2 b.2, x.2 + 1)) x).2 = x.2 + bs.length
  | [], _ => rfl
  | b :: bs, x => by
    rw [List.foldl_cons, rlF_len bs]; simp; omega
theorem rlF_two (g : NewG) (bs : List (Nat × Nat)) : (rlF g bs).2 = bs.length := by unfold rlF; rw [rlF_len]; simp
def rlM (g : NewG) (bs : List (Nat × Nat)) (b : Nat) : KS := kAskS (rlF g bs).1 4 (eCl bs.length) b
theorem rlF_snoc (g : NewG) (bs : List (Nat × Nat)) (b c : Nat) : (rlF g (bs ++ [(b, c)])).1 = kAskS (rlM g bs b) 17 eR2 c := by
  have h := rlF_two g bs
  unfold rlM
  unfold rlF at h ⊢
  rw [List.foldl_append, List.foldl_cons, List.foldl_nil, h]
theorem cl_sqe {i : Nat} (h : i ≤ 10) : SqeOk (eCl i) := sqeOk_mk
theorem r2_sqe : SqeOk eR2 := sqeOk_mk
theorem an_sqe {del : Bool} {w : Int} (h : (Lit.int .u32 w).wf = true) : SqeOk (eAn del w) := by
  have h2 : (decide (IntKind.u32.min ≤ w) && decide (w ≤ IntKind.u32.max)) = true := h
  simp only [Bool.and_eq_true, decide_eq_true_eq] at h2
  have h3 : in32 w := ⟨h2.1, Int.lt_of_le_of_lt h2.2 (by decide)⟩
  cases del
  · exact sqeOk_mk (h2 := h3)
  · exact sqeOk_mk
theorem rlF_well {g : NewG} (n : Nat) : ∀ (bs : List (Nat × Nat)), bs.length = n → n ≤ 10 → Well (rlF g bs).1 (40 + 2 * n) (60 + 2 * n) := by
  induction n with
  | zero => intro bs h _; rw [List.length_eq_zero_iff.1 h]; exact well2 g
  | succ n ih =>
    intro bs h hn
    obtain ⟨cs, c, rfl⟩ : ∃ cs c, bs = cs ++ [c] := ⟨bs.dropLast, bs.getLast (by intro e; rw [e] at h; cases h), (List.dropLast_concat_getLast _).symm⟩
    rw [List.length_append] at h
    have h1 : cs.length = n := by simpa using h
    rw [rlF_snoc]
    exact (((ih cs h1 (by omega)).ask (by omega) (by omega) 4 (cl_sqe (by omega)) c.1).ask (by omega) (by omega) 17 r2_sqe c.2)
def rl1 (g : NewG) (bs : List (Nat × Nat)) (b c : Nat) : Bool := chk (rlF g bs).1 4 (eCl bs.length) b 0 0 false bs.length && chk (rlM g bs b) 17 eR2 c 1 bs.length true bs.length
set_option maxRecDepth 100000 in
theorem rl1_all (g : NewG) (b c b0 c0 b1 c1 b2 c2 b3 c3 : Nat) : (rl1 g [] b c && rl1 g [(b0, c0)] b c && rl1 g [(b0, c0), (b1, c1)] b c && rl1 g [(b0, c0), (b1, c1), (b2, c2)] b c) = true := by kernel_rfl
theorem rl1_ok (g : NewG) : ∀ (bs : List (Nat × Nat)), bs.length < 4 → ∀ b c, rl1 g bs b c = true
  | [], _, b, c => by have h := rl1_all g b c 0 0 0 0 0 0 0 0; simp only [Bool.and_eq_true] at h; exact h.1.1.1
  | [(b0, c0)], _, b, c => by have h := rl1_all g b c b0 c0 0 0 0 0 0 0; simp only [Bool.and_eq_true] at h; exact h.1.1.2
  | [(b0, c0), (b1, c1)], _, b, c => by have h := rl1_all g b c b0 c0 b1 c1 0 0 0 0; simp only [Bool.and_eq_true] at h; exact h.1.2
  | [(b0, c0), (b1, c1), (b2, c2)], _, b, c => by have h := rl1_all g b c b0 c0 b1 c1 b2 c2 0 0; simp only [Bool.and_eq_true] at h; exact h.2
  | _ :: _ :: _ :: _ :: _, h, _, _ => by simp only [List.length_cons] at h; omega
def rlE (g : NewG) (bs : List (Nat × Nat)) (del : Bool) (w : Int) (b : Nat) : KS := kAskS (rlF g bs).1 17 (eAn del w) b
def rl2 (g : NewG) (bs : List (Nat × Nat)) (del : Bool) (w : Int) (b : Nat) : Bool := ((List.range bs.length).all fun i => decide ((atJ (rlF g bs).1.jn (4, (i : Int) + 1)).map (fun d => d.2.2.2.1) = if i + 1 < bs.length then some (-9) else none)) && (chk (rlF g bs).1 17 (eAn del w) b 0 0 true bs.length && (decide ((atJ (rlE g bs del w b).jn (4, (bs.length : Int))).map (fun d => d.2.2.2.1) = some (if del = true then -9 else 0)) && decide (del = true → look (ptrs (rlE g bs del w b).rp) 20 = none)))
set_option maxRecDepth 100000 in
theorem rl2_all (g : NewG) (w : Int) (b b0 c0 b1 c1 b2 c2 b3 c3 : Nat) : ((rl2 g [(b0, c0)] true w b && rl2 g [(b0, c0)] false w b) && (rl2 g [(b0, c0), (b1, c1)] true w b && rl2 g [(b0, c0), (b1, c1)] false w b) && (rl2 g [(b0, c0), (b1, c1), (b2, c2)] true w b && rl2 g [(b0, c0), (b1, c1), (b2, c2)] false w b) && (rl2 g [(b0, c0), (b1, c1), (b2, c2), (b3, c3)] true w b && rl2 g [(b0, c0), (b1, c1), (b2, c2), (b3, c3)] false w b)) = true := by kernel_rfl
theorem rl2_ok (g : NewG) (w : Int) (del : Bool) : ∀ (bs : List (Nat × Nat)), 1 ≤ bs.length → bs.length ≤ 4 → ∀ b, rl2 g bs del w b = true
  | [], h, _, _ => by simp at h
  | [(b0, c0)], _, _, b => by
    have h := rl2_all g w b b0 c0 0 0 0 0 0 0
    simp only [Bool.and_eq_true] at h
    cases del
    · exact h.1.1.1.2
    · exact h.1.1.1.1
  | [(b0, c0), (b1, c1)], _, _, b => by
    have h := rl2_all g w b b0 c0 b1 c1 0 0 0 0
    simp only [Bool.and_eq_true] at h
    cases del
    · exact h.1.1.2.2
    · exact h.1.1.2.1
  | [(b0, c0), (b1, c1), (b2, c2)], _, _, b => by
    have h := rl2_all g w b b0 c0 b1 c1 b2 c2 0 0
    simp only [Bool.and_eq_true] at h
    cases del
    · exact h.1.2.2
    · exact h.1.2.1
  | [(b0, c0), (b1, c1), (b2, c2), (b3, c3)], _, _, b => by
    have h := rl2_all g w b b0 c0 b1 c1 b2 c2 b3 c3
    simp only [Bool.and_eq_true] at h
    cases del
    · exact h.2.2
    · exact h.2.1
  | _ :: _ :: _ :: _ :: _ :: _, _, h, _ => by simp only [List.length_cons] at h; omega
set_option maxRecDepth 100000 in
theorem rl3_ok (g : NewG) (w : Int) : ∀ (bs : List (Nat × Nat)), 1 ≤ bs.length → bs.length ≤ 4 → ∀ b, (atJ (rlE g bs false w b).jn (4, (bs.length : Int))).map (fun d => d.2.2.2.2.1) = some w
  | [], h, _, _ => by simp at h
  | [(b0, c0)], _, _, b => by kernel_rfl
  | [(b0, c0), (b1, c1)], _, _, b => by kernel_rfl
  | [(b0, c0), (b1, c1), (b2, c2)], _, _, b => by kernel_rfl
  | [(b0, c0), (b1, c1), (b2, c2), (b3, c3)], _, _, b => by kernel_rfl
  | _ :: _ :: _ :: _ :: _ :: _, _, h, _ => by simp only [List.length_cons] at h; omega
end Go.Pse
namespace Go.Pse
open Go.RowKit Go.Proofs

theorem at_some {xs : List Deed} {i : ID} {n : Nat} {j : Nat} (h : (atJ xs i).map (fun d => d.2.2.2.1) = if j < n then some (-9) else none) : (idxJ xs i).isSome = true ↔ j < n := by
  cases hq : idxJ xs i with
  | none =>
    rw [idxJ_no hq] at h
    split at h
    · cases h
    · simp; omega
  | some k =>
    obtain ⟨d, _, hat⟩ := idxJ_at hq
    rw [hat] at h
    split at h
    · simp; omega
    · cases h
set_option maxRecDepth 100000 in
set_option maxHeartbeats 4000000 in
theorem actReplies {E W : World} {x w : Int} {del : Bool} (hw : (Lit.int .u32 w).wf = true) :
    Con Tryz.prog 3 #[.int .i64 x, .bool del, .int .u32 w] E [old W] (fun _ : Unit => .bool true) (fun _ => [old W]) := by
  refine Con.body (vs := [.int .i64 x, .bool del, .int .u32 w]) (n := 180) Tryz.func3 rfl rfl [(0, .int .i64 x), (1, .bool del), (2, .int .u32 w)] (env_ok 3 rfl) <| sr <| ag rfl rfl <| nx <| L_op <| xc fc12 .nil rfl (firstG) fun _ => ag rfl rfl <| nxx ?_
  refine mv rfl rfl <| L_pur rfl (p_not rfl) <| nq <| J_bool (t := 29) (c := false) rfl (rfl) <| C_false rfl <| J_skip <| qx <| mv rfl rfl ?_
  refine L_op <| xc fc13 (.cons rfl (.cons rfl .nil)) rfl (number (by omega) (by omega)) fun _ => ?_
  obtain ⟨n0, hn00⟩ : ∃ n0, n0 = num x (4 : Nat) := ⟨_, rfl⟩
  have hn0 : n0 < 4 := by rw [hn00]; exact num_lt' (by omega)
  refine J_slot (t := 31) (v := .int .i64 (n0 : Int)) rfl (by rw [hn00]; rfl) <| L_pur rfl (p_add64 rfl rfl (by omega)) <| J_slot (t := 32) (v := .int .i64 (((n0 + 1 : Nat) : Int))) rfl (by first | rfl | (congr 1; omega)) ?_
  generalize hn : n0 + 1 = n
  have hn4 : 1 ≤ n ∧ n ≤ 4 := by omega
  refine ag rfl rfl <| nx <| L_op <| xc fc14 (.cons rfl .nil) rfl (alone2) fun g => ?_
  have FA := fun bs (hb : bs.length < 4) b c => rl1_ok g bs hb b c
  unfold rl1 at FA
  simp only [Bool.and_eq_true] at FA
  refine J_pick (A := coA g.p _) PC ?_
  refine J_asTo (B := coA g.p (rlF g []).1) (by rfl) <| ag rfl rfl <| nxx <| mv rfl rfl <| L_pur rfl (p_eqNilPtr Tryz.underlying25 rfl) <| nq <| J_bool (t := 35) (c := false) rfl (rfl) <| C_false rfl ?_
  refine J_skip <| Q_then <| J_seq <| sr <| ag rfl rfl <| nq <| J_block <| J_loop (α := List (Nat × Nat)) (fun bs => bs.length ≤ n) (fun bs => [coA g.p (rlF g bs).1, old W]) (fun bs => [(9, .int .i64 (bs.length : Int)), (0, .int .i64 (n : Int)), (1, .bool del), (2, .int .u32 w), (7, .bool true), (8, .pointer (some ⟨g.p, 0, none⟩))]) (fun bs => n - bs.length) [] (by simp) SU KE ?_
  intro bs hbl
  have WS := rlF_well (g := g) bs.length bs rfl (by omega)
  obtain ⟨S, hS⟩ : ∃ S, S = (rlF g bs).1 := ⟨_, rfl⟩
  refine J_asTo (B := coA g.p S) (by rw [hS]) ?_
  rw [← hS] at WS
  refine J_seq <| sr <| mv rfl rfl <| mv rfl rfl <| L_pur rfl (p_lss rfl rfl) <| nq ?_
  refine C_dec rfl (fun h38 => ?_) (fun h38 => ?_)
  have hF := fun b c => FA bs (by omega) b c
  rw [← hS] at hF
  refine J_skip <| Q_then <| J_seq <| J_block <| J_seq <| sr <| mv rfl rfl <| mv rfl rfl ?_
  refine L_pur rfl (p_conv rfl Tryz.underlying3 Tryz.underlying22) <| J_slot (t := 44) (v := .int .u32 ((bs.length : Int))) rfl (by rw [wrap32u_of (by omega)]) <| L_op <| xc fc16 (.cons rfl .nil) rfl (slotC (k := 9) (by omega)) fun _ => mv rfl rfl <| L_pur rfl (p_conv rfl Tryz.underlying3 Tryz.underlying22) <| J_slot (t := 47) (v := .int .u32 ((bs.length : Int))) rfl (by rw [wrap32u_of (by omega)]) <| L_pur rfl (bld31 (.cons rfl (.cons rfl (.cons rfl (.cons rfl .nil)))) (by repeat constructor)) ?_
  refine L_op <| xc fc15 (.cons rfl (.cons rfl (.cons rfl .nil))) rfl (coAskG (s := S) (g := 4) (e := eCl bs.length) (N := 40 + 2 * bs.length) (M := 60 + 2 * bs.length) PC WS (by omega) (by omega) (cl_sqe (by omega)) (tk_is (chk_is (hF 0 0).1).1 (by omega)) (chk_is (hF 0 0).1).2.1 (fun q T hq hG hE => doesC12 hG hE (by rw [hq]))) fun b => ?_
  refine J_slot (t := 49) (v := .tuple #[.int .i64 0, .int .u32 0, .bool false]) rfl (by rw [(chk_is (hF b 0).1).2.2]) ?_
  have WT := WS.ask (by omega) (by omega) 4 (cl_sqe (i := bs.length) (by omega)) b
  have hG2 := fun c => (hF b c).2
  obtain ⟨T1, hT1⟩ : ∃ S : KS, S = rlM g bs b := ⟨_, rfl⟩
  refine J_pick (A := coA g.p _) PC ?_
  refine J_asTo (B := coA g.p T1) (by rw [hT1]; unfold rlM; rw [← hS]) ?_
  rw [← hT1] at hG2
  rw [show kAskS S 4 (eCl bs.length) b = T1 by rw [hT1]; unfold rlM; rw [← hS]] at WT
  refine mv rfl rfl <| L_pur rfl (p_extract rfl rfl) <| L_pur rfl (p_extract rfl rfl) <| L_pur rfl (p_extract rfl rfl) <| ag rfl rfl <| ag rfl rfl <| ag rfl rfl <| nx ?_
  refine mv rfl rfl <| nq <| J_bool (t := 53) (c := false) rfl (rfl) <| C_false rfl <| J_skip <| qx <| mv rfl rfl <| L_op <| xc fc16 (.cons rfl .nil) rfl (slotC (k := 9) (by omega)) fun _ => ?_
  refine L_op <| xc fc16 (.cons rfl .nil) rfl (slotC (k := 8) (by omega)) fun _ => L_pur rfl (bld31 (.cons rfl (.cons rfl (.cons rfl (.cons rfl .nil)))) (by repeat constructor)) <| L_op <| xc fc15 (.cons rfl (.cons rfl (.cons rfl .nil))) rfl (coAskG (s := T1) (g := 17) (e := eR2) (N := 40 + 2 * bs.length + 1) (M := 60 + 2 * bs.length + 1) PC WT (by omega) (by omega) r2_sqe (tk_is (chk_is (hG2 0)).1 (by omega)) (chk_is (hG2 0)).2.1 (fun q T hq hG hE => doesC11 hG hE (by rw [hq]))) fun c => ?_
  refine J_slot (t := 59) (v := .tuple #[.int .i64 1, .int .u32 (bs.length : Int), .bool true]) rfl (by rw [(chk_is (hG2 c)).2.2]) <| J_pick (A := coA g.p _) PC ?_
  refine J_asTo (B := coA g.p (rlF g (bs ++ [(b, c)])).1) (by rw [rlF_snoc, ← hT1]) <| mv rfl rfl <| L_pur rfl (p_extract rfl rfl) <| L_pur rfl (p_extract rfl rfl) <| L_pur rfl (p_extract rfl rfl) <| ag rfl rfl <| ag rfl rfl <| ag rfl rfl ?_
  refine nx <| mv rfl rfl <| L_pur rfl (p_not rfl) <| mv rfl rfl <| J_bool (t := 65) (c := false) rfl (rfl) <| L_op <| G_on rfl rfl rfl <| J_pur (p_move rfl) rfl rfl rfl ?_
  refine L_op <| G_on rfl rfl rfl <| J_pur (p_neq rfl rfl) rfl rfl rfl <| L_pur rfl (p_pick_f rfl rfl) <| J_slot (t := 68) (v := .bool false) rfl (by first | rfl | (congr 1; simp; done) | (simp; done)) <| mv rfl rfl <| J_bool (t := 69) (c := false) rfl (rfl) <| L_op <| G_on rfl rfl rfl ?_
  refine J_pur (p_move rfl) rfl rfl rfl <| L_op <| G_on rfl rfl rfl <| J_pur (p_move rfl) rfl rfl rfl <| L_op <| G_on rfl rfl rfl <| J_pur (p_conv rfl Tryz.underlying3 Tryz.underlying22) rfl rfl rfl <| J_slot (t := 72) (v := .int .u32 ((bs.length : Int))) rfl (by rw [wrap32u_of (by omega)]) ?_
  refine L_op <| G_on rfl rfl rfl <| J_pur (p_neq rfl rfl) rfl rfl rfl <| L_pur rfl (p_pick_f rfl rfl) <| J_slot (t := 74) (v := .bool false) rfl (by first | rfl | (congr 1; simp; done) | (simp; done)) <| nq <| J_bool (t := 74) (c := false) rfl (rfl) <| C_false rfl ?_
  refine J_skip <| Q_blk_normal <| qr <| mv rfl rfl <| L_pur rfl (p_add64 rfl rfl (by omega)) <| ag rfl rfl <| nq <| J_slot (t := 9) (v := .int .i64 (((bs ++ [(b, c)]).length : Nat) : Int)) rfl (by simp) ?_
  exact J_again ((bs ++ [(b, c)])) (by simp; omega) (by simp; omega) SU KE
  have hbn : bs.length = n := by omega
  have FB := fun b => rl2_ok g w del bs (by omega) (by omega) b
  have hval := fun b => rl3_ok g w bs (by omega) (by omega) b
  unfold rl2 at FB
  simp only [Bool.and_eq_true, decide_eq_true_eq, hbn] at FB
  rw [hbn] at hval
  rw [← hS] at FB
  rw [hbn] at WS
  clear FA
  have hfst := fun {i : Nat} (hi : i < n) => of_decide_eq_true (all_range (FB 0).1 hi)
  have hjS : S.jn.length ≤ 200000 := by have := WS.fit.jn; have := WS.fit.mm; omega
  refine J_exit <| Q_then_exit <| Q_then_exit <| Q_blk_this <| Q_then <| J_seq <| sr <| ag rfl rfl ?_
  refine nq <| J_block <| J_loop (α := Nat) (fun i => i ≤ n) (fun _ => [coA g.p S, old W]) (fun i => [(16, .int .i64 (i : Int)), (0, .int .i64 (n : Int)), (1, .bool del), (2, .int .u32 w), (7, .bool true), (8, .pointer (some ⟨g.p, 0, none⟩))]) (fun i => n - i) 0 (by omega) SU KE ?_
  intro i hi
  refine J_seq <| sr <| mv rfl rfl <| mv rfl rfl <| L_pur rfl (p_lss rfl rfl) <| nq ?_
  refine C_dec rfl (fun h77 => ?_) (fun h77 => ?_)
  have hin : i < n := by omega
  have hf := hfst hin
  refine J_skip <| Q_then <| J_seq <| J_block <| sr <| mv rfl rfl <| L_op <| xc fc17 (.cons rfl .nil) rfl (coJournal) fun _ => ?_
  refine L_op <| xc fc18 (.cons rfl .nil) rfl (coJAll (s := S) PC hjS) <| JR fun a82 c82 hw82 hl82 hm82 hz82 => ?_
  have hml82 : (S.jn.map encD).length = S.jn.length := List.length_map _
  have hmcap82 : c82 ≤ 9223372036854775807 := hm82
  refine ag rfl rfl <| nx <| mv rfl rfl <| mv rfl rfl <| L_pur rfl (p_add64 rfl rfl (by omega)) <| L_pur rfl (bld39 (.cons rfl (.cons rfl .nil)) (by repeat constructor)) <| L_op <| xc fc19 (.cons rfl (.cons rfl .nil)) rfl (atC (xs := S.jn) (i := (4, (i : Int) + 1)) (fun w H => sep_reads (xs := S.jn.map encD) HS H) hjS) fun _ => ?_
  refine J_slot (t := 88) (v := .tuple #[.int .i64 (((idxJ S.jn (4, (i : Int) + 1)).getD 0 : Nat) : Int), .bool (decide (i + 1 < n))]) rfl (by rw [show (idxJ S.jn (4, (i : Int) + 1)).isSome = decide (i + 1 < n) by rw [Bool.eq_iff_iff]; simp only [decide_eq_true_eq]; exact at_some hf]) <| mv rfl rfl <| L_pur rfl (p_extract rfl rfl) <| L_pur rfl (p_extract rfl rfl) <| ag rfl rfl <| ag rfl rfl <| nx <| mv rfl rfl ?_
  refine mv rfl rfl <| mv rfl rfl <| L_pur rfl (p_sub64 rfl rfl (by omega)) <| L_pur rfl (p_lss rfl rfl) <| J_slot (t := 95) (v := .bool (decide (i + 1 < n))) rfl (by congr 1; rw [Bool.eq_iff_iff]; simp; omega) <| L_pur rfl (p_neb Tryz.underlying4 rfl rfl) <| J_slot (t := 96) (v := .bool false) rfl (by first | rfl | (congr 1; simp; done) | (simp; done)) <| mv rfl rfl ?_
  refine J_bool (t := 97) (c := false) rfl (rfl) <| L_op <| G_on rfl rfl rfl <| J_pur (p_move rfl) rfl rfl rfl <| L_op <| G_on rfl rfl rfl <| J_pur (p_move rfl) rfl rfl rfl ?_
  refine J_gsplit (t := 99) rfl (fun h99 => ?_) (fun h99 => ?_)
  have hlt1 : i + 1 < n := by first | exact h99 | simpa using h99
  rw [if_pos hlt1] at hf
  obtain ⟨k, hk0⟩ : ∃ k, idxJ S.jn (4, (i : Int) + 1) = some k := by
    cases hq : idxJ S.jn (4, (i : Int) + 1) with
    | none => rw [idxJ_no hq] at hf; cases hf
    | some y => exact ⟨y, rfl⟩
  obtain ⟨d, hcc, hat⟩ := idxJ_at hk0
  have hlt : k < S.jn.length := (List.getElem?_eq_some_iff.1 hcc).1
  obtain ⟨bx, ox, rfl⟩ := hz82 (by intro h; rw [h] at hml82; simp at hml82; omega)
  have hd9 : d.2.2.2.1 = -9 := by rw [hat] at hf; exact Option.some.inj hf
  refine J_slot (t := 18) (v := .int .i64 (k : Int)) rfl (by rw [hk0]; rfl) <| L_op <| G_on rfl rfl rfl <| J_pur (p_move rfl) rfl rfl rfl <| L_op <| G_on rfl rfl rfl <| J_pur (p_move rfl) rfl rfl rfl <| L_op <| G_on rfl rfl rfl ?_
  refine J_pur (p_indexAddr rfl rfl Tryz.underlying32 ty41 (by omega) (by omega)) rfl rfl rfl <| L_op <| G_on rfl rfl rfl <| J_pur (p_fieldAddr rfl fa41_3) rfl rfl rfl <| L_op <| G_on rfl rfl rfl ?_
  refine J_val (v_loadF rfl ty3 HS (by first | (simp only [Int.toNat_natCast, List.getElem?_map, hcc]; rfl) | (simp only [Int.toNat_natCast, List.getElem?_map, hcd]; rfl) | simp | rfl) (by exact rfl)) rfl rfl rfl ?_
  refine L_op <| G_on rfl rfl rfl <| J_pur (p_neq rfl rfl) rfl rfl rfl <| L_op <| G_on rfl rfl rfl <| J_pur (p_pick_t rfl rfl) rfl rfl rfl <| J_slot (t := 106) (v := .bool false) rfl (by first | (rw [hd9]; rfl) | rfl | (congr 1; simp; done) | (simp; done)) <| L_pur rfl (p_pick_f rfl rfl) ?_
  refine J_slot (t := 107) (v := .bool false) rfl (by first | rfl | (congr 1; simp; done) | (simp; done)) <| nq <| J_bool (t := 107) (c := false) rfl (rfl) <| C_false rfl <| J_skip <| Q_blk_normal <| qr <| mv rfl rfl ?_
  refine L_pur rfl (p_add64 rfl rfl (by omega)) <| ag rfl rfl <| nq ?_
  exact J_again ((i + 1)) (by omega) (by omega) SU KE
  refine L_op <| G_off rfl rfl rfl rfl rfl rfl <| L_op <| G_off rfl rfl rfl rfl rfl rfl <| L_op <| G_off rfl rfl rfl rfl rfl rfl <| L_op <| G_off rfl rfl rfl rfl rfl rfl ?_
  refine L_op <| G_off rfl rfl rfl rfl rfl rfl <| L_op <| G_off rfl rfl rfl rfl rfl rfl <| L_op <| G_on rfl rfl rfl <| J_pur (p_pick_f rfl rfl) rfl rfl rfl <| J_slot (t := 106) (v := .bool false) rfl (by first | (rw [hd9]; rfl) | rfl | (congr 1; simp; done) | (simp; done)) ?_
  refine L_pur rfl (p_pick_f rfl rfl) <| J_slot (t := 107) (v := .bool false) rfl (by first | rfl | (congr 1; simp; done) | (simp; done)) <| nq <| C_false rfl <| J_skip <| Q_blk_normal <| qr <| mv rfl rfl ?_
  refine L_pur rfl (p_add64 rfl rfl (by omega)) <| ag rfl rfl <| nq ?_
  exact J_again ((i + 1)) (by omega) (by omega) SU KE
  refine J_exit <| Q_then_exit <| Q_then_exit <| Q_blk_this <| qx <| L_op <| xc fc16 (.cons rfl .nil) rfl (slotC (k := 8) (by omega)) fun _ => mv rfl rfl ?_
  refine L_pur rfl (bld31 (.cons rfl (.cons rfl (.cons rfl .nil))) (by repeat constructor)) <| L_op <| x_alloc ty31 rfl fun b20 => L_op <| x_store rfl rfl ty31 rfl SM SM RO PT ?_
  refine nq ?_
  refine J_cut (α := Unit) (fun _ : Unit => [blk b20 31 [.int .i64 (eAn del w).op, .int .i64 (eAn del w).flags, .int .u32 (eAn del w).tag, .int .u32 (eAn del w).cap, .int .u32 (eAn del w).a, .int .u32 (eAn del w).b, .int .u32 (eAn del w).c, .int .u32 (eAn del w).time], coA g.p S, old W]) (fun _ : Unit => [(0, .int .i64 (n : Int)), (1, .bool del), (2, .int .u32 w), (7, .bool true), (8, .pointer (some ⟨g.p, 0, none⟩)), (20, .pointer (some ⟨b20, 0, none⟩))]) ?_ ?_
  refine sr <| mv rfl rfl <| nq ?_
  refine C_split rfl (fun h111 => ?_) (fun h111 => ?_)
  refine J_region <| L_op <| xc fc16 (.cons rfl .nil) rfl (slotC (k := 8) (by omega)) fun _ => L_pur rfl (bld31 (.cons rfl (.cons rfl .nil)) (by repeat constructor)) <| L_op <| x_store rfl rfl ty31 rfl SM SM RO PT ?_
  refine nq <| J_pick (A := blk b20 _ _) PC ?_
  refine J_asTo (B := blk b20 31 [.int .i64 (eAn del w).op, .int .i64 (eAn del w).flags, .int .u32 (eAn del w).tag, .int .u32 (eAn del w).cap, .int .u32 (eAn del w).a, .int .u32 (eAn del w).b, .int .u32 (eAn del w).c, .int .u32 (eAn del w).time]) (by rw [h111]; rfl) ?_
  exact J_at (L := (fun _ : Unit => [blk b20 31 [.int .i64 (eAn del w).op, .int .i64 (eAn del w).flags, .int .u32 (eAn del w).tag, .int .u32 (eAn del w).cap, .int .u32 (eAn del w).a, .int .u32 (eAn del w).b, .int .u32 (eAn del w).c, .int .u32 (eAn del w).time], coA g.p S, old W])) (G := (fun _ : Unit => [(0, .int .i64 (n : Int)), (1, .bool del), (2, .int .u32 w), (7, .bool true), (8, .pointer (some ⟨g.p, 0, none⟩)), (20, .pointer (some ⟨b20, 0, none⟩))])) () SU KE
  refine J_skip <| Q_then <| J_pick (A := blk b20 _ _) PC ?_
  refine J_asTo (B := blk b20 31 [.int .i64 (eAn del w).op, .int .i64 (eAn del w).flags, .int .u32 (eAn del w).tag, .int .u32 (eAn del w).cap, .int .u32 (eAn del w).a, .int .u32 (eAn del w).b, .int .u32 (eAn del w).c, .int .u32 (eAn del w).time]) (by rw [h111]; rfl) ?_
  exact J_at (L := (fun _ : Unit => [blk b20 31 [.int .i64 (eAn del w).op, .int .i64 (eAn del w).flags, .int .u32 (eAn del w).tag, .int .u32 (eAn del w).cap, .int .u32 (eAn del w).a, .int .u32 (eAn del w).b, .int .u32 (eAn del w).c, .int .u32 (eAn del w).time], coA g.p S, old W])) (G := (fun _ : Unit => [(0, .int .i64 (n : Int)), (1, .bool del), (2, .int .u32 w), (7, .bool true), (8, .pointer (some ⟨g.p, 0, none⟩)), (20, .pointer (some ⟨b20, 0, none⟩))])) () SU KE
  intro _
  refine sr <| mv rfl rfl <| L_val rfl (v_loadA rfl ty31 HS CT) ?_
  refine L_op (xc fc15 (.cons rfl (.cons rfl (.cons rfl .nil))) rfl (coAskG (s := S) (g := 17) (e := (eAn del w)) (N := 40 + 2 * n) (M := 60 + 2 * n) PC WS (by omega) (by omega) (an_sqe hw) (tk_is (chk_is ((fun b => (FB b).2.1) 0)).1 (by omega)) (chk_is ((fun b => (FB b).2.1) 0)).2.1 (fun q T hq hG hE => by
      cases del
      · exact doesC13 hG hE (by rw [hq]; rfl)
      · exact doesC5 hG hE (by rw [hq]; rfl))) fun b1 => ?_)
  refine J_slot (t := 117) (v := .tuple #[.int .i64 0, .int .u32 0, .bool true]) rfl (by rw [(chk_is ((fun b => (FB b).2.1) b1)).2.2]) ?_
  obtain ⟨S2, hS2⟩ : ∃ S : KS, S = (rlE g bs del w b1) := ⟨_, rfl⟩
  refine J_pick (A := coA g.p _) PC ?_
  refine J_asTo (B := coA g.p S2) (by rw [hS2, hS]; rfl) ?_
  have W2 : Well S2 (40 + 2 * n + 1) (60 + 2 * n + 1) := by
    have h := WS.ask (by omega) (by omega) 17 (an_sqe hw) b1 (e := (eAn del w))
    rw [hS] at h
    rw [hS2]; exact h
  have FE := (FB b1).2.2
  have hv := hval b1
  have hdv : del = false → (atJ S2.jn (4, (n : Int))).map (fun d => d.2.2.2.2.1) = some w := by intro h; subst h; rw [hS2]; exact hv
  rw [← hS2] at FE
  clear FB hval hv
  obtain ⟨hres, hrep⟩ := FE
  have hj2 : S2.jn.length ≤ 200000 := by have := W2.fit.jn; have := W2.fit.mm; omega
  refine mv rfl rfl <| L_pur rfl (p_extract rfl rfl) <| L_pur rfl (p_extract rfl rfl) <| L_pur rfl (p_extract rfl rfl) <| ag rfl rfl <| ag rfl rfl <| ag rfl rfl <| nx ?_
  refine mv rfl rfl <| L_op <| xc fc17 (.cons rfl .nil) rfl (coJournal) fun _ => L_op <| xc fc18 (.cons rfl .nil) rfl (coJAll (s := S2) PC hj2) <| JR fun a123 c123 hw123 hl123 hm123 hz123 => ?_
  have hml123 : (S2.jn.map encD).length = S2.jn.length := List.length_map _
  have hmcap123 : c123 ≤ 9223372036854775807 := hm123
  refine ag rfl rfl <| nx <| mv rfl rfl <| mv rfl rfl <| L_pur rfl (bld39 (.cons rfl (.cons rfl .nil)) (by repeat constructor)) <| L_op <| xc fc19 (.cons rfl (.cons rfl .nil)) rfl (atC (xs := S2.jn) (i := (4, (n : Int))) (fun w H => sep_reads (xs := S2.jn.map encD) HS H) hj2) fun _ => ?_
  obtain ⟨k, hk0⟩ : ∃ k, idxJ S2.jn (4, (n : Int)) = some k := by
    cases hq : idxJ S2.jn (4, (n : Int)) with
    | none => rw [idxJ_no hq] at hres; cases hres
    | some y => exact ⟨y, rfl⟩
  obtain ⟨d, hcc, hat⟩ := idxJ_at hk0
  have hlt : k < S2.jn.length := (List.getElem?_eq_some_iff.1 hcc).1
  obtain ⟨bx, ox, rfl⟩ := hz123 (by intro h; rw [h] at hml123; simp at hml123; omega)
  have hd9 : d.2.2.2.1 = (if del = true then -9 else 0) := by rw [hat] at hres; exact Option.some.inj hres
  have hdw : del = false → d.2.2.2.2.1 = w := fun h => by have h2 := hdv h; rw [hat] at h2; exact Option.some.inj h2
  refine J_slot (t := 128) (v := .tuple #[.int .i64 (k : Int), .bool true]) rfl (by rw [hk0]; rfl) <| mv rfl rfl <| L_pur rfl (p_extract rfl rfl) <| L_pur rfl (p_extract rfl rfl) <| ag rfl rfl <| ag rfl rfl <| nxx <| mv rfl rfl ?_
  refine L_pur rfl (p_not rfl) <| mv rfl rfl <| J_bool (t := 133) (c := false) rfl (rfl) <| L_op <| G_on rfl rfl rfl <| J_pur (p_move rfl) rfl rfl rfl <| L_op <| G_on rfl rfl rfl ?_
  refine J_pur (p_neq rfl rfl) rfl rfl rfl <| L_pur rfl (p_pick_f rfl rfl) <| J_slot (t := 136) (v := .bool false) rfl (by first | rfl | (congr 1; simp; done) | (simp; done)) <| mv rfl rfl <| J_bool (t := 137) (c := false) rfl (rfl) <| L_op <| G_on rfl rfl rfl <| J_pur (p_move rfl) rfl rfl rfl ?_
  refine L_op <| G_on rfl rfl rfl <| J_pur (p_not rfl) rfl rfl rfl <| L_pur rfl (p_pick_f rfl rfl) <| J_slot (t := 140) (v := .bool false) rfl (by first | rfl | (congr 1; simp; done) | (simp; done)) <| mv rfl rfl <| J_bool (t := 141) (c := false) rfl (rfl) <| L_op <| G_on rfl rfl rfl ?_
  refine J_pur (p_move rfl) rfl rfl rfl <| L_op <| G_on rfl rfl rfl <| J_pur (p_move rfl) rfl rfl rfl <| L_op <| G_on rfl rfl rfl <| J_pur (p_len rfl Tryz.underlying32) rfl rfl rfl <| L_op <| G_on rfl rfl rfl ?_
  refine J_pur (p_geq rfl rfl) rfl rfl rfl <| J_slot (t := 145) (v := .bool false) rfl (by congr 1; rw [hml123]; simp; omega) <| L_pur rfl (p_pick_f rfl rfl) <| J_slot (t := 146) (v := .bool false) rfl (by first | rfl | (congr 1; simp; done) | (simp; done)) <| nq <| J_bool (t := 146) (c := false) rfl (rfl) <| C_false rfl <| J_skip ?_
  refine Q_then <| J_seq <| sr <| mv rfl rfl <| nq ?_
  refine C_split rfl (fun h147 => ?_) (fun h147 => ?_)
  have hdel : del = true := h147
  rw [if_pos hdel] at hd9
  have hrp := hrep hdel
  refine sr <| mv rfl rfl <| mv rfl rfl <| J_bool (t := 149) (c := true) rfl (rfl) <| L_op <| G_on rfl rfl rfl <| J_pur (p_move rfl) rfl rfl rfl <| L_op <| G_on rfl rfl rfl ?_
  refine J_pur (p_move rfl) rfl rfl rfl <| L_op <| G_on rfl rfl rfl <| J_pur (p_indexAddr rfl rfl Tryz.underlying32 ty41 (by omega) (by omega)) rfl rfl rfl <| L_op <| G_on rfl rfl rfl <| J_pur (p_fieldAddr rfl fa41_3) rfl rfl rfl <| L_op <| G_on rfl rfl rfl ?_
  refine J_val (v_loadF rfl ty3 HS (by first | (simp only [Int.toNat_natCast, List.getElem?_map, hcc]; rfl) | (simp only [Int.toNat_natCast, List.getElem?_map, hcd]; rfl) | simp | rfl) (by exact rfl)) rfl rfl rfl ?_
  refine L_op <| G_on rfl rfl rfl <| J_pur (p_eql rfl rfl) rfl rfl rfl <| L_pur rfl (p_pick_t rfl rfl) <| J_slot (t := 156) (v := .bool true) rfl (by first | (rw [hd9]; rfl) | rfl | (congr 1; simp; done) | (simp; done)) <| mv rfl rfl <| J_bool (t := 157) (c := true) rfl (rfl) <| L_op <| G_on rfl rfl rfl ?_
  refine J_pur (p_move rfl) rfl rfl rfl <| L_op <| G_on rfl rfl rfl <| xc fc20 (.cons rfl (.cons rfl .nil)) rfl (coReply (s := S2) (u := 20) PC) fun _ => ?_
  refine J_slot (t := 159) (v := .pointer none) rfl (by rw [hrp]; rfl) <| L_op <| G_on rfl rfl rfl <| J_pur (p_eqNilPtr Tryz.underlying42 rfl) rfl rfl rfl <| L_pur rfl (p_pick_t rfl rfl) <| J_slot (t := 161) (v := .bool true) rfl (by first | rfl | (congr 1; simp; done) | (simp; done)) <| ag rfl rfl <| nq ?_
  refine J_ret <| Q_then_ret ?_
  refine J_return (()) Tryz.results3 (.tmp rfl .nil) ?_ ?_
  · first | rfl | simp [one]
  · exact SU
  have hdel : del = false := by simpa using h147
  rw [if_neg (by rw [hdel]; simp)] at hd9
  have hdw1 := hdw hdel
  refine J_skip <| qx <| mv rfl rfl <| mv rfl rfl <| J_bool (t := 163) (c := true) rfl (rfl) <| L_op <| G_on rfl rfl rfl <| J_pur (p_move rfl) rfl rfl rfl ?_
  refine L_op <| G_on rfl rfl rfl <| J_pur (p_move rfl) rfl rfl rfl <| L_op <| G_on rfl rfl rfl <| J_pur (p_indexAddr rfl rfl Tryz.underlying32 ty41 (by omega) (by omega)) rfl rfl rfl <| L_op <| G_on rfl rfl rfl ?_
  refine J_pur (p_fieldAddr rfl fa41_3) rfl rfl rfl <| L_op <| G_on rfl rfl rfl ?_
  refine J_val (v_loadF rfl ty3 HS (by first | (simp only [Int.toNat_natCast, List.getElem?_map, hcc]; rfl) | (simp only [Int.toNat_natCast, List.getElem?_map, hcd]; rfl) | simp | rfl) (by exact rfl)) rfl rfl rfl ?_
  refine L_op <| G_on rfl rfl rfl <| J_pur (p_eql rfl rfl) rfl rfl rfl <| L_pur rfl (p_pick_t rfl rfl) <| J_slot (t := 170) (v := .bool true) rfl (by first | (rw [hd9]; rfl) | rfl | (congr 1; simp; done) | (simp; done)) <| mv rfl rfl <| J_bool (t := 171) (c := true) rfl (rfl) <| L_op <| G_on rfl rfl rfl ?_
  refine J_pur (p_move rfl) rfl rfl rfl <| L_op <| G_on rfl rfl rfl <| J_pur (p_move rfl) rfl rfl rfl <| L_op <| G_on rfl rfl rfl <| J_pur (p_indexAddr rfl rfl Tryz.underlying32 ty41 (by omega) (by omega)) rfl rfl rfl <| L_op <| G_on rfl rfl rfl ?_
  refine J_pur (p_fieldAddr rfl fa41_4) rfl rfl rfl <| L_op <| G_on rfl rfl rfl ?_
  refine J_val (v_loadF rfl ty22 HS (by first | (simp only [Int.toNat_natCast, List.getElem?_map, hcc]; rfl) | (simp only [Int.toNat_natCast, List.getElem?_map, hcd]; rfl) | simp | rfl) (by exact rfl)) rfl rfl rfl ?_
  refine L_op <| G_on rfl rfl rfl <| J_pur (p_move rfl) rfl rfl rfl <| L_op <| G_on rfl rfl rfl <| J_pur (p_eql rfl rfl) rfl rfl rfl <| L_pur rfl (p_pick_t rfl rfl) <| J_slot (t := 179) (v := .bool true) rfl (by first | (rw [hdw1]; simp; done) | rfl | (congr 1; simp; done) | (simp; done)) ?_
  refine ag rfl rfl <| nq <| J_ret ?_
  refine J_return (()) Tryz.results3 (.tmp rfl .nil) ?_ ?_
  · first | rfl | simp [one]
  · exact SU

end Go.Pse
