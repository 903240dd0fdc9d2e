/-
  Own texts, merged: C71, C72, C73, C54, C74a, C75, C94, C93, C95a, C96a, C97, C95, C96, C98, C74, C80, C99a, C99, Facts.
-/
import Derived.Test.YtclgdnpndlognaaGreatBC3
import Derived.Test.YtclgdnpndlognaaGreatRows
import Derived.ProofKit
import Derived.WalkKit
set_option linter.unusedVariables false
set_option linter.unusedSimpArgs false
set_option maxRecDepth 100000
set_option maxHeartbeats 4000000
namespace Go.Pse
open Go.RowKit Go.Proofs
variable {E : World} {l m : List As} {a p N M : Nat} {s : KS} {T : Th} {i : ID}
theorem recvsG {q : Rq} (hp : Picks [actA a p T q i, coA p s] l m) (hE : SqeOk q.e) (hF : Fits s N M) (hN : N + 1 ≤ 90000) :
    Con Tryz.prog 161 #[.pointer (some ⟨a, 0, none⟩)] E l (fun _ : Unit => encE (kRecvs s T q.e i).2) (fun _ => actA a p T q i :: coA p (kRecvs s T q.e i).1 :: m) := by
  refine Con.body (n := 109) Tryz.func161 Z Z _ (env_ok 1 Z) <| J_picks2 hp <| sr <| L_op <| x_alloc ty276 Z fun b2 => nx <| mv Z Z <| xo fc224 (A3 Z Z Z) Z (mayG (kind := 4) (r := 1) PX hE) fun _ => mv Z Z <| L_pur Z (p_extract Z Z) <| L_pur Z (p_extract Z Z) <| L_op <| x_alloc ty110 Z fun b3 => L_op <| x_store Z Z ty110 Z SM SM RO PT <| ag Z Z <| nq <| J_seq <| J_seq <| J_pick (A := blk b3 _ _) PC <| J_asTo (B := blk b3 110 (encC (mayS s T q.e 4 1).1)) (by rfl) <| J_region <| mv Z Z <| L_pur Z (p_neq Z Z) <| nq <| C_split Z (fun h18 => ?_) (fun h18 => ?_)
  have hkm : (kRecvs s T q.e i) = (s, failO (mayS s T q.e 4 1).2) := if_pos (by simpa using h18)
  refine sr <| mv Z Z <| xo fc167 (A1 Z) Z (failsC (n := (mayS s T q.e 4 1).2) (by have := mayS_code (s := s) (T := T) (e := q.e) (kind := 4) (r := 1); omega)) fun _ => L_op <| x_store Z Z ty276 Z SM SM RO PT <| nq <| J_ret <| Q_then_ret <| J_pick (A := coA p _) PC <| J_asTo (B := coA p (kRecvs s T q.e i).1) (by rw [hkm]; try rfl) <| J_pick (A := actA a p T q i) PC <| J_return (()) Tryz.results161 (.cellA Z ty276 HS CT .nil) ?_ ?_
  · rw [hkm]; rfl
  · exact SU
  have n1 : ¬ (mayS s T q.e 4 1).2 ≠ 0 := by simpa using h18
  refine J_skip <| qx <| ag Z Z <| nq <| J_cut (α := Int) (fun U : Int => As.pure ((kRecvs s T q.e i) = kRecv1 s (mayS s T q.e 4 1).1 U i) :: blk b3 110 (encC (mayS s T q.e 4 1).1) :: blk b2 276 [.int .i64 0, .int .u32 0, .bool false] :: actA a p T q i :: coA p s :: m) (fun U : Int => [(5, .int .i64 U), (0, .pointer (some ⟨a, 0, none⟩)), (2, .pointer (some ⟨b2, 0, none⟩)), (3, .pointer (some ⟨b3, 0, none⟩))]) ?_ ?_
  refine J_seq <| J_pick (A := actA a p T q i) PC <| J_act <| J_region <| mv Z Z <| nc Z Z <| fa Z Z fa279_2 <| fa Z Z fa122_1 <| fa Z Z fa34_5 <| L_val Z (v_load Z ty22 HS (by exact rfl)) <| L_pur Z (p_neq Z Z) <| nq <| C_split Z (fun h27 => ?_) (fun h27 => ?_)
  have n2 : q.e.b ≠ 0 := by simpa using h27
  refine sr <| mv Z Z <| mv Z Z <| nc Z Z <| fa Z Z fa279_2 <| fa Z Z fa122_1 <| fa Z Z fa34_5 <| L_val Z (v_load Z ty22 HS (by exact rfl)) <| J_pick (A := blk a _ _) PC <| J_asTo (B := actA a p T q i) (by rfl) <| xo fc221 (A3 Z Z Z) Z (foundG (a_ := q.e.b) (kind := 7) PX hE.b) fun _ => mv Z Z <| L_pur Z (p_extract Z Z) <| L_pur Z (p_extract Z Z) <| L_op <| x_alloc ty110 Z fun b6 => L_op <| x_store Z Z ty110 Z SM SM RO PT <| ag Z Z <| nq <| J_seq <| J_seq <| J_pick (A := blk b6 _ _) PC <| J_asTo (B := blk b6 110 (encC (kCap s.sl T.root q.e.b 7).1)) (by rfl) <| J_region <| mv Z Z <| L_pur Z (p_neq Z Z) <| nq <| C_split Z (fun h40 => ?_) (fun h40 => ?_)
  have hkm : (kRecvs s T q.e i) = (s, failO (kCap s.sl T.root q.e.b 7).2.2) := by unfold kRecvs; rw [if_neg n1, if_pos n2, if_pos (by simpa using h40)]
  refine sr <| mv Z Z <| xo fc167 (A1 Z) Z (failsC (n := (kCap s.sl T.root q.e.b 7).2.2) (by have := kCap_code (sl := s.sl) (root := T.root) (a := q.e.b) (kind := 7); omega)) fun _ => L_op <| x_store Z Z ty276 Z SM SM RO PT <| nq <| J_ret <| Q_then_ret <| Q_then_ret <| J_pick (A := coA p _) PC <| J_asTo (B := coA p (kRecvs s T q.e i).1) (by rw [hkm]; try rfl) <| J_pick (A := actA a p T q i) PC <| J_return (()) Tryz.results161 (.cellA Z ty276 HS CT .nil) ?_ ?_
  · rw [hkm]; rfl
  · exact SU
  have n3 : ¬ (kCap s.sl T.root q.e.b 7).2.2 ≠ 0 := by simpa using h40
  refine J_skip <| qr <| fa Z Z fa110_1 <| L_val Z (v_load Z ty3 HS (by exact rfl)) <| ag Z Z <| nq <| J_pure_in (p := (kRecvs s T q.e i) = kRecv1 s (mayS s T q.e 4 1).1 (kCap s.sl T.root q.e.b 7).1.obj i) (by unfold kRecvs; rw [if_neg n1, if_pos n2, if_neg n3]) ?_
  exact J_at ((kCap s.sl T.root q.e.b 7).1.obj) SU KE
  have n2 : ¬ q.e.b ≠ 0 := by simpa using h27
  refine J_skip <| Q_then <| J_pure_in (p := (kRecvs s T q.e i) = kRecv1 s (mayS s T q.e 4 1).1 0 i) (by unfold kRecvs; rw [if_neg n1, if_neg n2]) <| J_pick (A := blk a _ _) PC <| J_asTo (B := actA a p T q i) (by rfl) ?_
  exact J_at 0 SU KE
  intro U
  refine J_pure fun e1 => J_pick (A := actA a p T q i) PC <| J_act <| J_seq <| J_drawT 6 mixed (by kernel_rfl) <| sm Z Z <| sp Z (p_nilCheck Z) <| sp Z (p_fieldAddr Z fa279_0) <| S_val Z (v_load Z ty24 HS (by exact rfl)) <| sp Z (p_fieldAddr Z fa110_1) <| S_val Z (v_load Z ty3 HS (by exact rfl)) <| S_nil <| xo fc60 (A2 Z Z) Z (coEp (s := s) (u := (mayS s T q.e 4 1).1.obj) PC) fun _ => J_slot (t := 51) (v := .pointer ((look (ptrs (KS.ep s)) (mayS s T q.e 4 1).1.obj).map fun b => ⟨b, 0, none⟩)) Z Z <| ag Z Z <| nxx <| mv Z Z <| L_pur Z (p_eqNilPtr Tryz.underlying112 Z) <| nq <| C_split Z (fun h53 => ?_) (fun h53 => ?_)
  have hno : look (KS.ep s) (mayS s T q.e 4 1).1.obj = none := by
    cases hq : look (KS.ep s) (mayS s T q.e 4 1).1.obj with
    | none => rfl
    | some y => rw [look_ptrs, hq] at h53; simp at h53
  have hkm : (kRecvs s T q.e i) = (s, failO 11) := by rw [e1]; unfold kRecv1; rw [hno]
  refine sr <| xo fc167 (A1 Z) Z (failsC (by decide)) fun _ => L_op <| x_store Z Z ty276 Z SM SM RO PT <| nq <| J_ret <| Q_then_ret <| J_pick (A := coA p _) PC <| J_asTo (B := coA p (kRecvs s T q.e i).1) (by rw [hkm]; try rfl) <| J_pick (A := blk a _ _) PC <| J_asTo (B := actA a p T q i) (by rfl) <| J_return (()) Tryz.results161 (.cellA Z ty276 HS CT .nil) ?_ ?_
  · rw [hkm]; rfl
  · exact SU
  obtain ⟨⟨bb, out, inn⟩, hl⟩ : ∃ x, look (KS.ep s) (mayS s T q.e 4 1).1.obj = some x := by
    cases hq : look (KS.ep s) (mayS s T q.e 4 1).1.obj with
    | none => rw [look_ptrs, hq] at h53; simp at h53
    | some y => exact ⟨y, rfl⟩
  refine J_slot (t := 8) (v := .pointer (some ⟨bb, 0, none⟩)) Z (by rw [look_ptrs, hl]; rfl) ?_
  have hb3 := hF.ep _ (mem_look hl)
  dsimp only at hb3
  have hNN := hF.n
  have e2 : (kRecvs s T q.e i) = kRecv2 { s with ep := updO s.ep (mayS s T q.e 4 1).1.obj (recvE (i, U)) } U out := by rw [e1]; unfold kRecv1; rw [hl]
  have hF1 : Fits { s with ep := updO s.ep (mayS s T q.e 4 1).1.obj (recvE (i, U)) } (N + 1) M := hF.epF hN _ fun a => by have := recvE_len (i, U) a; omega
  refine J_skip <| qx <| mv Z Z <| mv Z Z <| nc Z Z <| fa Z Z fa279_3 <| L_val Z (v_loadA Z ty36 HS CT) <| mv Z Z <| L_pur Z (bld246 (.cons Z (.cons Z .nil)) (by repeat constructor)) <| J_slot (t := 62) (v := .agg (encR (i, U)).toArray) Z Z <| xo fc227 (A2 Z Z) Z (coEpRecvG (s := s) (u := (mayS s T q.e 4 1).1.obj) (out := out) (inn := inn) (y := (i, U)) PC hl (by omega) (by omega)) fun _ => mv Z Z <| L_pur Z (p_extract Z Z) <| L_pur Z (p_extract Z Z) <| L_op <| x_alloc ty374 Z fun b9 => L_op <| x_store Z Z ty374 Z SM SM RO PT <| ag Z Z <| nxx <| mv Z Z <| L_pur Z (p_not Z) <| nq <| C_split Z (fun h67 => ?_) (fun h67 => ?_)
  obtain rfl : out = [] := by cases out with | nil => rfl | cons y r => simp at h67
  have hkm : (kRecvs s T q.e i) = ({ s with ep := updO s.ep (mayS s T q.e 4 1).1.obj (recvE (i, U)) }, none) := by rw [e2]; rfl
  refine sr <| L_pur Z (bld276 (.cons Z .nil) (by repeat constructor)) <| L_op <| x_store Z Z ty276 Z SM SM RO PT <| nq <| J_ret <| Q_then_ret <| J_pick (A := coA p _) PC <| J_asTo (B := coA p (kRecvs s T q.e i).1) (by rw [hkm]; try rfl) <| J_pick (A := blk a _ _) PC <| J_asTo (B := actA a p T q i) (by rfl) <| J_return (()) Tryz.results161 (.cellA Z ty276 HS CT .nil) ?_ ?_
  · rw [hkm]; rfl
  · exact SU
  obtain ⟨x, rr, rfl⟩ : ∃ y rr, out = y :: rr := by cases out with | nil => simp at h67 | cons y r => exact ⟨y, r, rfl⟩
  obtain ⟨S1, hS1⟩ : ∃ S1, S1 = { s with ep := updO s.ep (mayS s T q.e 4 1).1.obj (recvE (i, U)) } := ⟨_, rfl⟩
  have e3 : (kRecvs s T q.e i) = (kMet S1 U x, some (x.2.2.1, x.2.1)) := by rw [e2, hS1]; rfl
  rw [← hS1] at hF1
  refine J_pick (A := blk b9 _ _) PC <| J_asTo (B := blk b9 374 (encM x)) (by rfl) <| J_pick (A := coA p _) PC <| J_asTo (B := coA p S1) (by rw [hS1]) <| J_skip <| qx <| mv Z Z <| nc Z Z <| fa Z Z fa279_0 <| L_val Z (v_load Z ty24 HS (by exact rfl)) <| mv Z Z <| xo fc172 (A2 Z Z) Z (coReply (s := S1) (u := U) PC) fun _ => J_slot (t := 74) (v := .pointer ((look (ptrs S1.rp) U).map fun b => ⟨b, 0, none⟩)) Z Z <| ag Z Z <| nq <| J_seq <| J_block <| sr <| fa Z Z fa374_3 <| L_val Z (v_load Z ty4 HS (by exact rfl)) <| mv Z Z <| J_gsplit (t := 85) Z (fun h85 => ?_) (fun h85 => ?_)
  have n4 : x.2.2.2 = true := h85
  refine gp Z Z Z (p_move Z) Z <| gp Z Z Z (p_neNilPtr Tryz.underlying241 Z) Z <| L_pur Z (p_pick_t Z Z) <| ag Z Z <| nq <| C_split Z (fun h82 => ?_) (fun h82 => ?_)
  obtain ⟨⟨b2_, c2⟩, hl2⟩ : ∃ x, look (KS.rp S1) U = some x := by
    cases hq : look (KS.rp S1) U with
    | none => rw [look_ptrs, hq] at h82; simp at h82
    | some y => exact ⟨y, rfl⟩
  refine J_slot (t := 11) (v := .pointer (some ⟨b2_, 0, none⟩)) Z (by rw [look_ptrs, hl2]; rfl) ?_
  have hkm : (kRecvs s T q.e i) = (kBind S1 U x.1, some (x.2.2.1, x.2.1)) := by rw [e3]; unfold kMet; rw [if_pos n4, hl2]
  refine J_region <| mv Z Z <| mv Z Z <| fa Z Z fa374_0 <| L_val Z (v_loadA Z ty36 HS CT) <| J_pick (A := blk a _ _) PC <| J_asTo (B := actA a p T q i) (by rfl) <| xo fc226 (A3 Z Z Z) Z (bindsG (s := S1) (u := U) (b := b2_) (c := c2) (j := x.1) PX hl2 hF1) fun _ => L_nil <| Q_blk_normal <| qx <| fa Z Z fa374_2 <| L_val Z (v_load Z ty3 HS (by exact rfl)) <| fa Z Z fa374_1 <| L_val Z (v_load Z ty22 HS (by exact rfl)) <| L_pur Z (bld276 (.cons Z (.cons Z .nil)) (by repeat constructor)) <| L_op <| x_store Z Z ty276 Z SM SM RO PT <| nq <| J_ret <| J_pick (A := coA p _) PC <| J_asTo (B := coA p (kRecvs s T q.e i).1) (by rw [hkm]; try rfl) <| J_pick (A := actA a p T q i) PC <| J_return (()) Tryz.results161 (.cellA Z ty276 HS CT .nil) ?_ ?_
  · rw [hkm]; rfl
  · exact SU
  have hno : look (KS.rp S1) U = none := by
    cases hq : look (KS.rp S1) U with
    | none => rfl
    | some y => rw [look_ptrs, hq] at h82; simp at h82
  have hkm : (kRecvs s T q.e i) = (kDec S1.rt.length S1 x.1 (-11) 0, some (x.2.2.1, x.2.1)) := by rw [e3]; unfold kMet; rw [if_pos n4, hno]
  refine sr <| fa Z Z fa374_3 <| L_val Z (v_load Z ty4 HS (by exact rfl)) <| ag Z Z <| nq <| C_split Z (fun h94 => ?_) (fun h94 => ?_)
  refine J_drawT 6 mixed (by kernel_rfl) <| sm Z Z <| sp Z (p_nilCheck Z) <| sp Z (p_fieldAddr Z fa279_0) <| S_val Z (v_load Z ty24 HS (by exact rfl)) <| sp Z (p_fieldAddr Z fa374_0) <| S_val Z (v_loadA Z ty36 HS CT) <| S_nil <| xo fc72 (A4 Z Z Z Z) Z (coDecide (s := S1) (i := x.1) (r := -11) (v := 0) PC hF1) fun _ => L_nil <| Q_blk_normal <| qx <| fa Z Z fa374_2 <| L_val Z (v_load Z ty3 HS (by exact rfl)) <| fa Z Z fa374_1 <| L_val Z (v_load Z ty22 HS (by exact rfl)) <| L_pur Z (bld276 (.cons Z (.cons Z .nil)) (by repeat constructor)) <| L_op <| x_store Z Z ty276 Z SM SM RO PT <| nq <| J_ret <| J_pick (A := coA p _) PC <| J_asTo (B := coA p (kRecvs s T q.e i).1) (by rw [hkm]; try rfl) <| J_pick (A := blk a _ _) PC <| J_asTo (B := actA a p T q i) (by rfl) <| J_return (()) Tryz.results161 (.cellA Z ty276 HS CT .nil) ?_ ?_
  · rw [hkm]; rfl
  · exact SU
  rw [n4] at h94; cases h94
  have n4 : ¬ x.2.2.2 = true := by rw [h85]; decide
  refine gz Z Z Z Z Z <| gz Z Z Z Z Z <| L_pur Z (p_pick_f Z Z) <| ag Z Z <| nq <| C_false Z <| sr <| fa Z Z fa374_3 <| L_val Z (v_load Z ty4 HS (by exact rfl)) <| ag Z Z <| nq <| C_split Z (fun h94 => ?_) (fun h94 => ?_)
  exact absurd h94 n4
  have hkm : (kRecvs s T q.e i) = (kDec S1.rt.length S1 x.1 0 0, some (x.2.2.1, x.2.1)) := by rw [e3]; unfold kMet; rw [if_neg n4]
  refine J_drawT 6 mixed (by kernel_rfl) <| sm Z Z <| sp Z (p_nilCheck Z) <| sp Z (p_fieldAddr Z fa279_0) <| S_val Z (v_load Z ty24 HS (by exact rfl)) <| sp Z (p_fieldAddr Z fa374_0) <| S_val Z (v_loadA Z ty36 HS CT) <| S_nil <| xo fc72 (A4 Z Z Z Z) Z (coDecide (s := S1) (i := x.1) (r := 0) (v := 0) PC hF1) fun _ => L_nil <| Q_blk_normal <| qx <| fa Z Z fa374_2 <| L_val Z (v_load Z ty3 HS (by exact rfl)) <| fa Z Z fa374_1 <| L_val Z (v_load Z ty22 HS (by exact rfl)) <| L_pur Z (bld276 (.cons Z (.cons Z .nil)) (by repeat constructor)) <| L_op <| x_store Z Z ty276 Z SM SM RO PT <| nq <| J_ret <| J_pick (A := coA p _) PC <| J_asTo (B := coA p (kRecvs s T q.e i).1) (by rw [hkm]; try rfl) <| J_pick (A := blk a _ _) PC <| J_asTo (B := actA a p T q i) (by rfl) <| J_return (()) Tryz.results161 (.cellA Z ty276 HS CT .nil) ?_ ?_
  · rw [hkm]; rfl
  · exact SU
/-! ### plain: what an entry does -/
def kDoes (s : KS) (T : Th) (q : Rq) (i : ID) (b : Nat) : KS × Out :=
 if q.e.op = 1 then (s, some (0, 0))
 else if q.e.op = 2 ∨ q.e.op = 3 ∨ q.e.op = 4 ∨ q.e.op = 5 ∨ q.e.op = 6 then ((kSlots s T q.e).1, failO (kSlots s T q.e).2)
 else if q.e.op = 7 then (kRetS s T q.e b, some (-(kRetC s T q.e), kRetV s T q.e))
 else if q.e.op = 8 then ((kMaps s T q.e).1, failO (kMaps s T q.e).2)
 else if q.e.op = 9 then ((kUnmap s T q.e).1, failO (kUnmap s T q.e).2)
 else if q.e.op = 10 ∨ q.e.op = 12 then kSends s T q.e i (decide (q.e.op = 12))
 else if q.e.op = 11 then kRecvs s T q.e i
 else if q.e.op = 13 then ((kAnswers s T q.e).1, failO (kAnswers s T q.e).2)
 else if q.e.op = 14 then ((kSignals s T q.e).1, failO (kSignals s T q.e).2)
 else if q.e.op = 15 then kNWaits s T q.e i
 else if q.e.op = 16 ∨ q.e.op = 17 ∨ q.e.op = 18 then ((kThreads s T q.e).1, failO (kThreads s T q.e).2)
 else if q.e.op = 19 then (s, none)
 else if q.e.op = 20 then ((kCancels s q.e i).1, failO (kCancels s q.e i).2)
 else (s, failO 11)
def kOwner (s : KS) (r : Int) : Option Th := (s.th.find? fun e => decide (e.2.ring = r)).map Prod.snd
structure Good (s : KS) (N M : Nat) : Prop where
  fit : Fits s N M
  n1 : N + 1 ≤ 90000
  m2 : M ≤ 45000
  q : s.q.length ≤ N
  mp : s.mp.length ≤ N
  sl : s.sl.length ≤ N
  rg : s.rg.length ≤ 1000
  caps : CapsOk s.sl
  marks : MarksOk s.mr
  rev : ∀ p, RevOk s.sl p
  own : ∀ r x, Owns s r x → x = kOwner s r
  ent : ∀ e ∈ s.rt, SqeOk e.2.e
def DoesC (s : KS) (T : Th) (q : Rq) (i : ID) : Prop := ∀ (E : World) (l m : List As) (a p : Nat), Picks [actA a p T q i, coA p s] l m →
  Con Tryz.prog 118 #[.pointer (some ⟨a, 0, none⟩)] E l (fun b : Nat => encE (kDoes s T q i b).2) (fun b => actA a p T q i :: coA p (kDoes s T q i b).1 :: m)
theorem does11G {q : Rq} (hp : Picks [actA a p T q i, coA p s] l m) (hG : Good s N M) (hE : SqeOk q.e) (hop : q.e.op = 11) :
    Con Tryz.prog 118 #[.pointer (some ⟨a, 0, none⟩)] E l (fun b : Nat => encE (kDoes s T q i b).2) (fun b => actA a p T q i :: coA p (kDoes s T q i b).1 :: m) := by
  refine Con.body (n := 71) Tryz.func118 Z Z _ (env_ok 1 Z) <| J_picks2 hp <| J_act <| sr <| L_op <| x_alloc ty276 Z fun b2 => nxx <| mv Z Z <| nc Z Z <| fa Z Z fa279_2 <| fa Z Z fa122_1 <| fa Z Z fa34_0 <| L_val Z (v_load Z ty3 HS (by exact rfl)) <| J_pick (A := blk a _ _) PC <| J_asTo (B := actA a p T q i) (by rfl) <| ag Z Z <| nx <| mv Z Z <| nq <| J_block <| sr <| L_pur Z (p_eql Z Z) <| ag Z Z <| nq <| J_bool (t := 11) (c := false) Z (by simp [hop]) <| C_false Z <| J_seq <| sr <| L_pur Z (p_eql Z Z) <| ag Z Z <| nq <| J_bool (t := 14) (c := false) Z (by simp [hop]) <| C_false Z <| sr <| L_pur Z (p_eql Z Z) <| ag Z Z <| nq <| J_bool (t := 14) (c := false) Z (by simp [hop]) <| C_false Z <| sr <| L_pur Z (p_eql Z Z) <| ag Z Z <| nq <| J_bool (t := 14) (c := false) Z (by simp [hop]) <| C_false Z <| sr ?_
  refine L_pur Z (p_eql Z Z) <| ag Z Z <| nq <| J_bool (t := 14) (c := false) Z (by simp [hop]) <| C_false Z <| J_region <| L_pur Z (p_eql Z Z) <| ag Z Z <| nq <| J_bool (t := 14) (c := false) Z (by simp [hop]) <| C_false Z <| sr <| L_pur Z (p_eql Z Z) <| ag Z Z <| nq <| J_bool (t := 22) (c := false) Z (by simp [hop]) <| C_false Z <| sr <| L_pur Z (p_eql Z Z) <| ag Z Z <| nq <| J_bool (t := 26) (c := false) Z (by simp [hop]) <| C_false Z <| sr <| L_pur Z (p_eql Z Z) <| ag Z Z <| nq <| J_bool (t := 30) (c := false) Z (by simp [hop]) <| C_false Z <| J_seq <| sr <| L_pur Z (p_eql Z Z) <| ag Z Z <| nq <| J_bool (t := 34) (c := false) Z (by simp [hop]) <| C_false Z <| J_region <| L_pur Z (p_eql Z Z) <| ag Z Z <| nq ?_
  refine J_bool (t := 34) (c := false) Z (by simp [hop]) <| C_false Z <| sr <| L_pur Z (p_eql Z Z) <| ag Z Z <| nq <| J_bool (t := 41) (c := true) Z (by simp [hop]) <| C_true Z <| sr <| mv Z Z <| xo fc161 (A1 Z) Z (recvsG PX hE hG.fit hG.n1) fun _ => L_op <| x_store Z Z ty276 Z SM SM RO PT <| nq <| J_ret <| Q_blk_ret <| Q_then_ret ?_
  have hks : ∀ b, kDoes s T q i b = kRecvs s T q.e i := fun b => by unfold kDoes; simp only [hop]; rfl
  refine J_pick (A := coA p _) PC <| J_asTo (B := coA p (kDoes s T q i 0).1) (by rw [hks]; try rfl) <| J_pick (A := actA a p T q i) PC <| J_return (0) Tryz.results118 (.cellA Z ty276 HS CT .nil) ?_ ?_
  · rw [hks]; rfl
  · exact SU
theorem doesC11 {q : Rq} (hG : Good s N M) (hE : SqeOk q.e) (hop : q.e.op = 11) : DoesC s T q i := fun _ _ _ _ _ hp => does11G hp hG hE hop
theorem does19G {q : Rq} (hp : Picks [actA a p T q i, coA p s] l m) (hG : Good s N M) (hE : SqeOk q.e) (hop : q.e.op = 19) :
    Con Tryz.prog 118 #[.pointer (some ⟨a, 0, none⟩)] E l (fun b : Nat => encE (kDoes s T q i b).2) (fun b => actA a p T q i :: coA p (kDoes s T q i b).1 :: m) := by
  refine Con.body (n := 71) Tryz.func118 Z Z _ (env_ok 1 Z) <| J_picks2 hp <| J_act <| sr <| L_op <| x_alloc ty276 Z fun b2 => nxx <| mv Z Z <| nc Z Z <| fa Z Z fa279_2 <| fa Z Z fa122_1 <| fa Z Z fa34_0 <| L_val Z (v_load Z ty3 HS (by exact rfl)) <| J_pick (A := blk a _ _) PC <| J_asTo (B := actA a p T q i) (by rfl) <| ag Z Z <| nx <| mv Z Z <| nq <| J_block <| sr <| L_pur Z (p_eql Z Z) <| ag Z Z <| nq <| J_bool (t := 11) (c := false) Z (by simp [hop]) <| C_false Z <| J_seq <| sr <| L_pur Z (p_eql Z Z) <| ag Z Z <| nq <| J_bool (t := 14) (c := false) Z (by simp [hop]) <| C_false Z <| sr <| L_pur Z (p_eql Z Z) <| ag Z Z <| nq <| J_bool (t := 14) (c := false) Z (by simp [hop]) <| C_false Z <| sr <| L_pur Z (p_eql Z Z) <| ag Z Z <| nq <| J_bool (t := 14) (c := false) Z (by simp [hop]) <| C_false Z <| sr ?_
  refine L_pur Z (p_eql Z Z) <| ag Z Z <| nq <| J_bool (t := 14) (c := false) Z (by simp [hop]) <| C_false Z <| J_region <| L_pur Z (p_eql Z Z) <| ag Z Z <| nq <| J_bool (t := 14) (c := false) Z (by simp [hop]) <| C_false Z <| sr <| L_pur Z (p_eql Z Z) <| ag Z Z <| nq <| J_bool (t := 22) (c := false) Z (by simp [hop]) <| C_false Z <| sr <| L_pur Z (p_eql Z Z) <| ag Z Z <| nq <| J_bool (t := 26) (c := false) Z (by simp [hop]) <| C_false Z <| sr <| L_pur Z (p_eql Z Z) <| ag Z Z <| nq <| J_bool (t := 30) (c := false) Z (by simp [hop]) <| C_false Z <| J_seq <| sr <| L_pur Z (p_eql Z Z) <| ag Z Z <| nq <| J_bool (t := 34) (c := false) Z (by simp [hop]) <| C_false Z <| J_region <| L_pur Z (p_eql Z Z) <| ag Z Z <| nq ?_
  refine J_bool (t := 34) (c := false) Z (by simp [hop]) <| C_false Z <| sr <| L_pur Z (p_eql Z Z) <| ag Z Z <| nq <| J_bool (t := 41) (c := false) Z (by simp [hop]) <| C_false Z <| sr <| L_pur Z (p_eql Z Z) <| ag Z Z <| nq <| J_bool (t := 45) (c := false) Z (by simp [hop]) <| C_false Z <| sr <| L_pur Z (p_eql Z Z) <| ag Z Z <| nq <| J_bool (t := 49) (c := false) Z (by simp [hop]) <| C_false Z <| sr <| L_pur Z (p_eql Z Z) <| ag Z Z <| nq <| J_bool (t := 53) (c := false) Z (by simp [hop]) <| C_false Z <| J_seq <| sr <| L_pur Z (p_eql Z Z) <| ag Z Z <| nq <| J_bool (t := 57) (c := false) Z (by simp [hop]) <| C_false Z <| sr <| L_pur Z (p_eql Z Z) <| ag Z Z <| nq <| J_bool (t := 57) (c := false) Z (by simp [hop]) <| C_false Z <| J_region <| L_pur Z (p_eql Z Z) <| ag Z Z <| nq <| J_bool (t := 57) (c := false) Z (by simp [hop]) <| C_false Z <| sr <| L_pur Z (p_eql Z Z) <| ag Z Z ?_
  refine nq <| J_bool (t := 63) (c := true) Z (by simp [hop]) <| C_true Z <| sr <| L_pur Z (bld276 (.cons Z .nil) (by repeat constructor)) <| L_op <| x_store Z Z ty276 Z SM SM RO PT <| nq <| J_ret <| Q_blk_ret <| Q_then_ret ?_
  have hks : ∀ b, kDoes s T q i b = (s, none) := fun b => by unfold kDoes; simp only [hop]; rfl
  refine J_pick (A := coA p _) PC <| J_asTo (B := coA p (kDoes s T q i 0).1) (by rw [hks]; try rfl) <| J_pick (A := actA a p T q i) PC <| J_return (0) Tryz.results118 (.cellA Z ty276 HS CT .nil) ?_ ?_
  · rw [hks]; rfl
  · exact SU
theorem doesC19 {q : Rq} (hG : Good s N M) (hE : SqeOk q.e) (hop : q.e.op = 19) : DoesC s T q i := fun _ _ _ _ _ hp => does19G hp hG hE hop
def kAct (s : KS) (i : ID) (b : Nat) : KS × Out := match look s.rt i with
  | none => (s, none)
  | some q => match kOwner s i.1 with
    | none => (s, failO 11)
    | some T => kDoes s T q i b
def kStart (s : KS) (i : ID) (b : Nat) : KS × Bool := match look s.rt i with
  | none => (s, false)
  | some q => if q.started = true then (s, false) else match kAct { s with rt := rtS s.rt i } i b with
    | (t, none) => (t, true)
    | (t, some x) => (kDec t.rt.length t i x.1 x.2, true)
theorem coActG (hp : Pick (coA p s) l m) (hG : Good s N M) (hD : ∀ (q : Rq) (T : Th), look s.rt i = some q → DoesC s T q i) :
    Con Tryz.prog 71 #[.pointer (some ⟨p, 0, none⟩), .agg (encI i).toArray] E l (fun b : Nat => .tuple #[.int .i64 (((kAct s i b).2.getD (0, 0)).1), .int .u32 (((kAct s i b).2.getD (0, 0)).2), .bool (kAct s i b).2.isSome]) (fun b => coA p (kAct s i b).1 :: m) := by
  refine Con.body (n := 42) Tryz.func71 Z Z _ (env_ok 2 Z) <| J_pick hp <| sr <| L_op <| x_box Z Z Z fun b3 => ag Z Z <| ag Z Z <| ag Z Z <| nq <| J_seq <| J_drawL none mixed <| ip 0 Z Z Z Z (p_move Z) <| iv 2 Z Z Z Z (fun _ => v_loadA Z ty36 HS CT) <| I_ready (rs := [1, 7]) SI (by kernel_rfl) (by simp) <| (I_cons Z ?_ (I_cons Z ?_ I_nil))
  refine xc fc16 (A1 Z) Z (coReqs) fun _ => I_ready (rs := [3, 7]) SI (by kernel_rfl) (by simp) <| (I_cons Z ?_ (I_cons Z ?_ I_nil))
  refine xc fc69 (A2 Z Z) Z (coRqGet (s := s) (i := i) PC) fun _ => ip 4 Z Z Z Z (p_move Z) <| ip 5 Z Z Z Z (p_extract Z Z) <| ip 6 Z Z Z Z (p_extract Z Z) <| i1 7 Z <| x_alloc ty122 Z fun b7 => i1 8 Z <| x_store Z Z ty122 Z SM SM RO PT <| ip 9 Z Z Z Z (p_assign Z) <| i0 <| Q_then <| J_seq <| sr <| mv Z Z <| L_pur Z (p_not Z) <| nq <| C_split Z (fun h19 => ?_) (fun h19 => ?_)
  have hq : look s.rt i = none := by
    cases hq : look s.rt i with
    | none => rfl
    | some y => rw [hq] at h19; simp at h19
  have hka : ∀ b, kAct s i b = (s, none) := fun b => by unfold kAct; rw [hq]
  refine sr <| ag Z Z <| ag Z Z <| ag Z Z <| nq <| J_ret <| Q_then_ret <| J_pick (A := coA p _) PC <| J_asTo (B := coA p (kAct s i 0).1) (by rw [hka]) <| J_return (0) Tryz.results71 (.tmp Z (.tmp Z (.tmp Z .nil))) ?_ ?_
  · rw [hka]; rfl
  · exact SU
  obtain ⟨q, hq⟩ : ∃ x, look s.rt i = some x := by
    cases hq : look s.rt i with
    | none => rw [hq] at h19; simp at h19
    | some y => exact ⟨y, rfl⟩
  refine J_pick (A := blk b7 _ _) PC <| J_asTo (B := blk b7 122 (encQ q)) (by rw [hq]; rfl) <| J_skip <| qx <| mv Z Z <| fa Z Z fa36_0 <| L_val Z (v_load Z ty3 HS (by exact rfl)) <| xo fc117 (A2 Z Z) Z (coOwner (s := s) (r := i.1) PC) fun x24 => J_pure fun hO => ?_
  obtain rfl := hG.own _ _ hO
  refine mv Z Z <| L_pur Z (p_extract Z Z) <| L_pur Z (p_extract Z Z) <| L_op <| x_alloc ty213 Z fun b9 => L_op <| x_store Z Z ty213 Z SM SM RO PT <| ag Z Z <| nxx <| mv Z Z <| L_pur Z (p_not Z) <| nq <| C_split Z (fun h28 => ?_) (fun h28 => ?_)
  have hT : kOwner s i.1 = none := by
    cases hq : kOwner s i.1 with
    | none => rfl
    | some y => rw [hq] at h28; simp at h28
  have hka : ∀ b, kAct s i b = (s, failO 11) := fun b => by unfold kAct; rw [hq]; dsimp only; rw [hT]
  refine sr <| ag Z Z <| ag Z Z <| ag Z Z <| nq <| J_ret <| Q_then_ret <| J_pick (A := coA p _) PC <| J_asTo (B := coA p (kAct s i 0).1) (by rw [hka]) <| J_return (0) Tryz.results71 (.tmp Z (.tmp Z (.tmp Z .nil))) ?_ ?_
  · rw [hka]; rfl
  · exact SU
  obtain ⟨T, hT⟩ : ∃ x, kOwner s i.1 = some x := by
    cases hq : kOwner s i.1 with
    | none => rw [hq] at h28; simp at h28
    | some y => exact ⟨y, rfl⟩
  have hka : ∀ b, kAct s i b = kDoes s T q i b := fun b => by unfold kAct; rw [hq]; dsimp only; rw [hT]
  refine J_skip <| qx <| mv Z Z <| L_val Z (v_loadA Z ty213 HS CT) <| L_val Z (v_loadA Z ty122 HS CT) <| L_val Z (v_loadA Z ty36 HS CT) <| L_pur Z (bld279 (.cons Z (.cons Z (.cons Z (.cons Z .nil)))) (by repeat constructor)) <| L_op <| x_box Z Z Z fun b34 => J_pick (A := blk b34 _ _) PC <| J_asTo (B := actA b34 p T q i) (by rw [hT]; rfl) <| xo fc118 (A1 Z) Z (hD q T hq _ _ _ b34 p PX) fun x36 => L_op <| x_alloc ty276 Z fun b10 => L_op <| x_store Z Z ty276 Z SM SM RO PT <| nxx <| fa Z Z fa276_2 <| L_val Z (v_load Z ty4 HS (by exact rfl)) <| nq <| C_split Z (fun h37 => ?_) (fun h37 => ?_)
  refine sr <| ag Z Z <| ag Z Z <| ag Z Z <| nq <| J_ret <| Q_then_ret <| J_pick (A := coA p _) PC <| J_asTo (B := coA p (kAct s i x36).1) (by rw [hka]) <| J_return (x36) Tryz.results71 (.tmp Z (.tmp Z (.tmp Z .nil))) ?_ ?_
  · rw [hka]; cases ho : (kDoes s T q i x36).2 with
    | none => rfl
    | some y => rw [ho] at h37; cases h37
  · exact SU
  refine J_skip <| Q_then <| J_seq <| J_drawS mixed (by kernel_rfl) <| sp Z (p_fieldAddr Z fa276_0) <| S_val Z (v_load Z ty3 HS (by exact rfl)) <| sp Z (p_fieldAddr Z fa276_1) <| S_val Z (v_load Z ty22 HS (by exact rfl)) <| sp Z (p_assign Z) <| sp Z (p_assign Z) <| sp Z (p_assign Z) <| sq <| J_ret <| J_pick (A := coA p _) PC <| J_asTo (B := coA p (kAct s i x36).1) (by rw [hka]) <| J_return (x36) Tryz.results71 (.tmp Z (.tmp Z (.tmp Z .nil))) ?_ ?_
  · rw [hka]; cases ho : (kDoes s T q i x36).2 with
    | none => rw [ho] at h37; cases h37
    | some y => rfl
  · exact SU
  refine x_alloc ty122 Z fun b7 => i1 3 Z <| xc fc69 (A2 Z Z) Z (coRqGet (s := s) (i := i) PC) fun _ => ip 4 Z Z Z Z (p_move Z) <| ip 5 Z Z Z Z (p_extract Z Z) <| ip 6 Z Z Z Z (p_extract Z Z) <| i1 8 Z <| x_store Z Z ty122 Z SM SM RO PT <| ip 9 Z Z Z Z (p_assign Z) <| i0 <| Q_then <| J_seq <| sr <| mv Z Z <| L_pur Z (p_not Z) <| nq <| C_split Z (fun h19 => ?_) (fun h19 => ?_)
  have hq : look s.rt i = none := by
    cases hq : look s.rt i with
    | none => rfl
    | some y => rw [hq] at h19; simp at h19
  have hka : ∀ b, kAct s i b = (s, none) := fun b => by unfold kAct; rw [hq]
  refine sr <| ag Z Z <| ag Z Z <| ag Z Z <| nq <| J_ret <| Q_then_ret <| J_pick (A := coA p _) PC <| J_asTo (B := coA p (kAct s i 0).1) (by rw [hka]) <| J_return (0) Tryz.results71 (.tmp Z (.tmp Z (.tmp Z .nil))) ?_ ?_
  · rw [hka]; rfl
  · exact SU
  obtain ⟨q, hq⟩ : ∃ x, look s.rt i = some x := by
    cases hq : look s.rt i with
    | none => rw [hq] at h19; simp at h19
    | some y => exact ⟨y, rfl⟩
  refine J_pick (A := blk b7 _ _) PC <| J_asTo (B := blk b7 122 (encQ q)) (by rw [hq]; rfl) <| J_skip <| qx <| mv Z Z <| fa Z Z fa36_0 <| L_val Z (v_load Z ty3 HS (by exact rfl)) <| xo fc117 (A2 Z Z) Z (coOwner (s := s) (r := i.1) PC) fun x24 => J_pure fun hO => ?_
  obtain rfl := hG.own _ _ hO
  refine mv Z Z <| L_pur Z (p_extract Z Z) <| L_pur Z (p_extract Z Z) <| L_op <| x_alloc ty213 Z fun b9 => L_op <| x_store Z Z ty213 Z SM SM RO PT <| ag Z Z <| nxx <| mv Z Z <| L_pur Z (p_not Z) <| nq <| C_split Z (fun h28 => ?_) (fun h28 => ?_)
  have hT : kOwner s i.1 = none := by
    cases hq : kOwner s i.1 with
    | none => rfl
    | some y => rw [hq] at h28; simp at h28
  have hka : ∀ b, kAct s i b = (s, failO 11) := fun b => by unfold kAct; rw [hq]; dsimp only; rw [hT]
  refine sr <| ag Z Z <| ag Z Z <| ag Z Z <| nq <| J_ret <| Q_then_ret <| J_pick (A := coA p _) PC <| J_asTo (B := coA p (kAct s i 0).1) (by rw [hka]) <| J_return (0) Tryz.results71 (.tmp Z (.tmp Z (.tmp Z .nil))) ?_ ?_
  · rw [hka]; rfl
  · exact SU
  obtain ⟨T, hT⟩ : ∃ x, kOwner s i.1 = some x := by
    cases hq : kOwner s i.1 with
    | none => rw [hq] at h28; simp at h28
    | some y => exact ⟨y, rfl⟩
  have hka : ∀ b, kAct s i b = kDoes s T q i b := fun b => by unfold kAct; rw [hq]; dsimp only; rw [hT]
  refine J_skip <| qx <| mv Z Z <| L_val Z (v_loadA Z ty213 HS CT) <| L_val Z (v_loadA Z ty122 HS CT) <| L_val Z (v_loadA Z ty36 HS CT) <| L_pur Z (bld279 (.cons Z (.cons Z (.cons Z (.cons Z .nil)))) (by repeat constructor)) <| L_op <| x_box Z Z Z fun b34 => J_pick (A := blk b34 _ _) PC <| J_asTo (B := actA b34 p T q i) (by rw [hT]; rfl) <| xo fc118 (A1 Z) Z (hD q T hq _ _ _ b34 p PX) fun x36 => L_op <| x_alloc ty276 Z fun b10 => L_op <| x_store Z Z ty276 Z SM SM RO PT <| nxx <| fa Z Z fa276_2 <| L_val Z (v_load Z ty4 HS (by exact rfl)) <| nq <| C_split Z (fun h37 => ?_) (fun h37 => ?_)
  refine sr <| ag Z Z <| ag Z Z <| ag Z Z <| nq <| J_ret <| Q_then_ret <| J_pick (A := coA p _) PC <| J_asTo (B := coA p (kAct s i x36).1) (by rw [hka]) <| J_return (x36) Tryz.results71 (.tmp Z (.tmp Z (.tmp Z .nil))) ?_ ?_
  · rw [hka]; cases ho : (kDoes s T q i x36).2 with
    | none => rfl
    | some y => rw [ho] at h37; cases h37
  · exact SU
  refine J_skip <| Q_then <| J_seq <| J_drawS mixed (by kernel_rfl) <| sp Z (p_fieldAddr Z fa276_0) <| S_val Z (v_load Z ty3 HS (by exact rfl)) <| sp Z (p_fieldAddr Z fa276_1) <| S_val Z (v_load Z ty22 HS (by exact rfl)) <| sp Z (p_assign Z) <| sp Z (p_assign Z) <| sp Z (p_assign Z) <| sq <| J_ret <| J_pick (A := coA p _) PC <| J_asTo (B := coA p (kAct s i x36).1) (by rw [hka]) <| J_return (x36) Tryz.results71 (.tmp Z (.tmp Z (.tmp Z .nil))) ?_ ?_
  · rw [hka]; cases ho : (kDoes s T q i x36).2 with
    | none => rw [ho] at h37; cases h37
    | some y => rfl
  · exact SU
  refine x_alloc ty122 Z fun b7 => i1 1 Z <| xc fc16 (A1 Z) Z (coReqs) fun _ => i1 3 Z <| xc fc69 (A2 Z Z) Z (coRqGet (s := s) (i := i) PC) fun _ => ip 4 Z Z Z Z (p_move Z) <| ip 5 Z Z Z Z (p_extract Z Z) <| ip 6 Z Z Z Z (p_extract Z Z) <| i1 8 Z <| x_store Z Z ty122 Z SM SM RO PT <| ip 9 Z Z Z Z (p_assign Z) <| i0 <| Q_then <| J_seq <| sr <| mv Z Z <| L_pur Z (p_not Z) <| nq <| C_split Z (fun h19 => ?_) (fun h19 => ?_)
  have hq : look s.rt i = none := by
    cases hq : look s.rt i with
    | none => rfl
    | some y => rw [hq] at h19; simp at h19
  have hka : ∀ b, kAct s i b = (s, none) := fun b => by unfold kAct; rw [hq]
  refine sr <| ag Z Z <| ag Z Z <| ag Z Z <| nq <| J_ret <| Q_then_ret <| J_pick (A := coA p _) PC <| J_asTo (B := coA p (kAct s i 0).1) (by rw [hka]) <| J_return (0) Tryz.results71 (.tmp Z (.tmp Z (.tmp Z .nil))) ?_ ?_
  · rw [hka]; rfl
  · exact SU
  obtain ⟨q, hq⟩ : ∃ x, look s.rt i = some x := by
    cases hq : look s.rt i with
    | none => rw [hq] at h19; simp at h19
    | some y => exact ⟨y, rfl⟩
  refine J_pick (A := blk b7 _ _) PC <| J_asTo (B := blk b7 122 (encQ q)) (by rw [hq]; rfl) <| J_skip <| qx <| mv Z Z <| fa Z Z fa36_0 <| L_val Z (v_load Z ty3 HS (by exact rfl)) <| xo fc117 (A2 Z Z) Z (coOwner (s := s) (r := i.1) PC) fun x24 => J_pure fun hO => ?_
  obtain rfl := hG.own _ _ hO
  refine mv Z Z <| L_pur Z (p_extract Z Z) <| L_pur Z (p_extract Z Z) <| L_op <| x_alloc ty213 Z fun b9 => L_op <| x_store Z Z ty213 Z SM SM RO PT <| ag Z Z <| nxx <| mv Z Z <| L_pur Z (p_not Z) <| nq <| C_split Z (fun h28 => ?_) (fun h28 => ?_)
  have hT : kOwner s i.1 = none := by
    cases hq : kOwner s i.1 with
    | none => rfl
    | some y => rw [hq] at h28; simp at h28
  have hka : ∀ b, kAct s i b = (s, failO 11) := fun b => by unfold kAct; rw [hq]; dsimp only; rw [hT]
  refine sr <| ag Z Z <| ag Z Z <| ag Z Z <| nq <| J_ret <| Q_then_ret <| J_pick (A := coA p _) PC <| J_asTo (B := coA p (kAct s i 0).1) (by rw [hka]) <| J_return (0) Tryz.results71 (.tmp Z (.tmp Z (.tmp Z .nil))) ?_ ?_
  · rw [hka]; rfl
  · exact SU
  obtain ⟨T, hT⟩ : ∃ x, kOwner s i.1 = some x := by
    cases hq : kOwner s i.1 with
    | none => rw [hq] at h28; simp at h28
    | some y => exact ⟨y, rfl⟩
  have hka : ∀ b, kAct s i b = kDoes s T q i b := fun b => by unfold kAct; rw [hq]; dsimp only; rw [hT]
  refine J_skip <| qx <| mv Z Z <| L_val Z (v_loadA Z ty213 HS CT) <| L_val Z (v_loadA Z ty122 HS CT) <| L_val Z (v_loadA Z ty36 HS CT) <| L_pur Z (bld279 (.cons Z (.cons Z (.cons Z (.cons Z .nil)))) (by repeat constructor)) <| L_op <| x_box Z Z Z fun b34 => J_pick (A := blk b34 _ _) PC <| J_asTo (B := actA b34 p T q i) (by rw [hT]; rfl) <| xo fc118 (A1 Z) Z (hD q T hq _ _ _ b34 p PX) fun x36 => L_op <| x_alloc ty276 Z fun b10 => L_op <| x_store Z Z ty276 Z SM SM RO PT <| nxx <| fa Z Z fa276_2 <| L_val Z (v_load Z ty4 HS (by exact rfl)) <| nq <| C_split Z (fun h37 => ?_) (fun h37 => ?_)
  refine sr <| ag Z Z <| ag Z Z <| ag Z Z <| nq <| J_ret <| Q_then_ret <| J_pick (A := coA p _) PC <| J_asTo (B := coA p (kAct s i x36).1) (by rw [hka]) <| J_return (x36) Tryz.results71 (.tmp Z (.tmp Z (.tmp Z .nil))) ?_ ?_
  · rw [hka]; cases ho : (kDoes s T q i x36).2 with
    | none => rfl
    | some y => rw [ho] at h37; cases h37
  · exact SU
  refine J_skip <| Q_then <| J_seq <| J_drawS mixed (by kernel_rfl) <| sp Z (p_fieldAddr Z fa276_0) <| S_val Z (v_load Z ty3 HS (by exact rfl)) <| sp Z (p_fieldAddr Z fa276_1) <| S_val Z (v_load Z ty22 HS (by exact rfl)) <| sp Z (p_assign Z) <| sp Z (p_assign Z) <| sp Z (p_assign Z) <| sq <| J_ret <| J_pick (A := coA p _) PC <| J_asTo (B := coA p (kAct s i x36).1) (by rw [hka]) <| J_return (x36) Tryz.results71 (.tmp Z (.tmp Z (.tmp Z .nil))) ?_ ?_
  · rw [hka]; cases ho : (kDoes s T q i x36).2 with
    | none => rw [ho] at h37; cases h37
    | some y => rfl
  · exact SU
theorem nodup_length_le {α : Type} [DecidableEq α] : ∀ {l m : List α}, l.Nodup → (∀ x ∈ l, x ∈ m) → l.length ≤ m.length
  | [], _, _, _ => Nat.zero_le _
  | x :: l, m, hn, hm => by
    rw [List.nodup_cons] at hn
    have hx := hm x List.mem_cons_self
    have h1 := nodup_length_le (l := l) (m := m.erase x) hn.2 fun y hy => by
      rw [List.mem_erase_of_ne (fun e => hn.1 (by rw [← e]; exact hy))]
      exact hm y (List.mem_cons_of_mem _ hy)
    rw [List.length_erase_of_mem hx] at h1
    have := List.length_pos_of_mem hx
    simp only [List.length_cons]
    omega
/-! ### plain: the slots are a tree, whatever is asked -/
variable {ps : List (Place × SV)}
theorem kids_mem {p a : Place} (hK : Keyd ps) : a ∈ kids ps p ↔ (look ps p).isSome = true ∧ ∃ s, look ps a = some s ∧ s.2 = p := by
  unfold kids
  split
  · rename_i h
    rw [heirs_mem]
    constructor
    · rintro ⟨s, h1, h2⟩
      exact ⟨h, s, look_mem hK h1, by simpa using h2⟩
    · rintro ⟨_, s, h1, h2⟩
      exact ⟨s, mem_look h1, by simpa using h2⟩
  · rename_i h
    constructor
    · intro e; cases e
    · rintro ⟨e, _⟩; exact absurd e h
theorem turnL_keyd {to : Place} : ∀ {l : List Place} {ps : List (Place × SV)}, Keyd ps → Keyd (turnL ps to l)
  | [], _, h => h
  | _ :: l, _, h => turnL_keyd (l := l) (h.ins _ _)
theorem turnL_look {to x : Place} : ∀ {l : List Place} {ps : List (Place × SV)}, look (turnL ps to l) x = if x ∈ l then some (((look ps x).getD s0).1, to) else look ps x
  | [], _ => rfl
  | k :: l, ps => by
    have h := turnL_look (to := to) (x := x) (l := l) (ps := ins ps k (((look ps k).getD s0).1, to))
    show look (turnL (ins ps k (((look ps k).getD s0).1, to)) to l) x = _
    rw [h, look_ins]
    by_cases h1 : k = x
    · subst h1
      simp
    · have h2 : (x ∈ k :: l) ↔ x ∈ l := by simp [Ne.symm h1]
      simp [h1, h2]
structure TreeOk (ps : List (Place × SV)) : Prop where
  keyd : Keyd ps
  can : ∀ x s, look ps x = some s → canP x = true
  par : ∀ x s, look ps x = some s → s.2 = (0, 0) ∨ (look ps s.2).isSome = true
  caps : ∀ x s, look ps x = some s → checkC s.1 = true
  rank : ∃ rk : Place → Nat, ∀ x s, look ps x = some s → s.2 ≠ (0, 0) → rk s.2 < rk x
theorem TreeOk.capsOk (h : TreeOk ps) : CapsOk ps := fun e he => h.caps e.1 e.2 (look_mem h.keyd he)
theorem canP_zero : canP (0, 0) = false := by decide
theorem TreeOk.nz (h : TreeOk ps) {x : Place} (hx : (look ps x).isSome = true) : x ≠ (0, 0) := fun e => by
  obtain ⟨s, hs⟩ := Option.isSome_iff_exists.1 hx
  have := h.can x s hs
  rw [e, canP_zero] at this; cases this
def maxRk (rk : Place → Nat) (ps : List (Place × SV)) : Nat := ps.foldr (fun e n => max (rk e.1) n) 0
theorem TreeOk.put (h : TreeOk ps) (p : Place) (c : Cap) (q : Place) : TreeOk (slPut ps p c q) := by
  unfold slPut
  split
  · rename_i hok
    unfold slPutOk at hok
    simp only [Bool.and_eq_true, Bool.not_eq_true', Bool.or_eq_true, decide_eq_true_eq] at hok
    obtain ⟨⟨⟨h1, h2⟩, h3⟩, h4⟩ := hok
    have hnone : look ps p = none := by cases hq : look ps p with
      | none => rfl
      | some y => rw [hq] at h2; cases h2
    obtain ⟨rk, hrk⟩ := h.rank
    have hold : ∀ x s, look ps x = some s → x ≠ p := fun x s hx e => by rw [e, hnone] at hx; cases hx
    refine ⟨h.keyd.ins _ _, fun x s hx => ?_, fun x s hx => ?_, fun x s hx => ?_, ⟨fun x => if x = p then maxRk rk ps + rk q + 1 else rk x, fun x s hx hs => ?_⟩⟩
    · rw [look_ins] at hx
      split at hx
      · rename_i e; rw [← e]; exact h1
      · exact h.can x s hx
    · rw [look_ins] at hx ⊢
      split at hx
      · cases hx
        rcases h4 with h4 | h4
        · exact .inl h4
        · right; split
          · rfl
          · exact h4
      · rcases h.par x s hx with h5 | h5
        · exact .inl h5
        · right; split
          · rfl
          · exact h5
    · rw [look_ins] at hx
      split at hx
      · cases hx; exact h3
      · exact h.caps x s hx
    · rw [look_ins] at hx
      split at hx
      · rename_i e
        cases hx
        rcases h4 with h4 | h4
        · exact absurd h4 hs
        · have hqp : q ≠ p := fun e2 => by rw [e2, hnone] at h4; cases h4
          dsimp only
          rw [if_neg hqp, if_pos e.symm]; omega
      · have hsp : s.2 ≠ p := fun e => by
          rcases h.par x s hx with h5 | h5
          · exact hs h5
          · rw [e, hnone] at h5; cases h5
        dsimp only
        rw [if_neg hsp, if_neg (hold x s hx)]
        exact hrk x s hx hs
  · exact h
theorem TreeOk.drop (h : TreeOk ps) (p : Place) : TreeOk (dropS ps p) := by
  unfold dropS
  cases hp : look ps p with
  | none => exact h
  | some s0' =>
    obtain ⟨rk, hrk⟩ := h.rank
    have hsp : s0'.2 ≠ p := fun e => by
      have h1 := h.nz (x := p) (by rw [hp]; rfl)
      have := hrk p s0' hp (by rw [e]; exact h1)
      rw [e] at this; omega
    have hlk : ∀ x s, look (del (turnS ps p s0'.2) p) x = some s → x ≠ p ∧ ∃ t, look ps x = some t ∧ ((t.2 = p ∧ s = (t.1, s0'.2)) ∨ (t.2 ≠ p ∧ s = t)) := fun x s hx => by
      rw [look_del] at hx
      split at hx
      · cases hx
      · rename_i hne
        refine ⟨fun e => hne e.symm, ?_⟩
        unfold turnS at hx
        rw [turnL_look] at hx
        split at hx
        · rename_i hk
          obtain ⟨_, t, h1, h2⟩ := (kids_mem h.keyd).1 hk
          refine ⟨t, h1, .inl ⟨h2, ?_⟩⟩
          rw [h1] at hx; exact (Option.some.inj hx).symm
        · rename_i hk
          refine ⟨s, hx, .inr ⟨fun e => hk ((kids_mem h.keyd).2 ⟨by rw [hp]; rfl, s, hx, e⟩), rfl⟩⟩
    have hsome : ∀ x, x ≠ p → (look ps x).isSome = true → (look (del (turnS ps p s0'.2) p) x).isSome = true := fun x hx h1 => by
      rw [look_del, if_neg (fun e => hx e.symm)]
      unfold turnS
      exact turnL_some h1
    refine ⟨(turnL_keyd h.keyd).del _, fun x s hx => ?_, fun x s hx => ?_, fun x s hx => ?_, ⟨rk, fun x s hx hs => ?_⟩⟩
    · obtain ⟨_, t, h1, _⟩ := hlk x s hx
      exact h.can x t h1
    · obtain ⟨_, t, h1, h2⟩ := hlk x s hx
      rcases h2 with ⟨_, rfl⟩ | ⟨h2, rfl⟩
      · rcases h.par p s0' hp with h3 | h3
        · exact .inl h3
        · exact .inr (hsome _ hsp h3)
      · rcases h.par x s h1 with h3 | h3
        · exact .inl h3
        · exact .inr (hsome _ h2 h3)
    · obtain ⟨_, t, h1, h2⟩ := hlk x s hx
      rcases h2 with ⟨_, rfl⟩ | ⟨_, rfl⟩
      · exact h.caps x t h1
      · exact h.caps x s h1
    · obtain ⟨_, t, h1, h2⟩ := hlk x s hx
      rcases h2 with ⟨h2, rfl⟩ | ⟨_, rfl⟩
      · have h3 := hrk p s0' hp hs
        have h4 := hrk x t h1 (by rw [h2]; exact h.nz (by rw [hp]; rfl))
        rw [h2] at h4
        show rk s0'.2 < rk x
        omega
      · exact hrk x s h1 hs
theorem TreeOk.move (h : TreeOk ps) (a b : Place) : TreeOk (moveS ps a b) := by
  unfold moveS
  split
  · rename_i hok
    unfold moveOk at hok
    simp only [Bool.and_eq_true, Bool.not_eq_true'] at hok
    obtain ⟨⟨h1, h2⟩, h3⟩ := hok
    obtain ⟨sa, ha⟩ := Option.isSome_iff_exists.1 h1
    have hnb : look ps b = none := by cases hq : look ps b with
      | none => rfl
      | some y => rw [hq] at h3; cases h3
    have hab : a ≠ b := fun e => by rw [e, hnb] at ha; cases ha
    rw [ha]
    show TreeOk (ins (del (turnS ps a b) a) b sa)
    obtain ⟨rk, hrk⟩ := h.rank
    have hsa : sa.2 ≠ a := fun e => by
      have := hrk a sa ha (by rw [e]; exact h.nz h1)
      rw [e] at this; omega
    have hsb : sa.2 ≠ b := fun e => by
      rcases h.par a sa ha with h4 | h4
      · rw [e] at h4; rw [h4, canP_zero] at h2; cases h2
      · rw [e, hnb] at h4; cases h4
    have hlk : ∀ x s, look (ins (del (turnS ps a b) a) b sa) x = some s → (x = b ∧ s = sa) ∨ (x ≠ b ∧ x ≠ a ∧ ∃ t, look ps x = some t ∧ ((t.2 = a ∧ s = (t.1, b)) ∨ (t.2 ≠ a ∧ s = t))) := fun x s hx => by
      rw [look_ins] at hx
      split at hx
      · rename_i e; exact .inl ⟨e.symm, (Option.some.inj hx).symm⟩
      · rename_i hne
        rw [look_del] at hx
        split at hx
        · cases hx
        · rename_i hne2
          refine .inr ⟨fun e => hne e.symm, fun e => hne2 e.symm, ?_⟩
          unfold turnS at hx
          rw [turnL_look] at hx
          split at hx
          · rename_i hk
            obtain ⟨_, t, g1, g2⟩ := (kids_mem h.keyd).1 hk
            refine ⟨t, g1, .inl ⟨g2, ?_⟩⟩
            rw [g1] at hx; exact (Option.some.inj hx).symm
          · rename_i hk
            exact ⟨s, hx, .inr ⟨fun e => hk ((kids_mem h.keyd).2 ⟨h1, s, hx, e⟩), rfl⟩⟩
    have hsome : ∀ x, x ≠ a → (look ps x).isSome = true → (look (ins (del (turnS ps a b) a) b sa) x).isSome = true := fun x hx g => by
      rw [look_ins]; split
      · rfl
      · rw [look_del, if_neg (fun e => hx e.symm)]
        unfold turnS
        exact turnL_some g
    have hb : (look (ins (del (turnS ps a b) a) b sa) b).isSome = true := by rw [look_ins, if_pos rfl]; rfl
    refine ⟨((turnL_keyd h.keyd).del _).ins _ _, fun x s hx => ?_, fun x s hx => ?_, fun x s hx => ?_, ⟨fun x => if x = b then rk a else rk x, fun x s hx hs => ?_⟩⟩
    · rcases hlk x s hx with ⟨rfl, _⟩ | ⟨_, _, t, g1, _⟩
      · exact h2
      · exact h.can x t g1
    · rcases hlk x s hx with ⟨rfl, rfl⟩ | ⟨_, _, t, g1, g2⟩
      · rcases h.par a s ha with g | g
        · exact .inl g
        · exact .inr (hsome _ hsa g)
      · rcases g2 with ⟨_, rfl⟩ | ⟨g2, rfl⟩
        · exact .inr hb
        · rcases h.par x s g1 with g | g
          · exact .inl g
          · exact .inr (hsome _ g2 g)
    · rcases hlk x s hx with ⟨rfl, rfl⟩ | ⟨_, _, t, g1, g2⟩
      · exact h.caps a s ha
      · rcases g2 with ⟨_, rfl⟩ | ⟨_, rfl⟩
        · exact h.caps x t g1
        · exact h.caps x s g1
    · rcases hlk x s hx with ⟨rfl, rfl⟩ | ⟨gx, gy, t, g1, g2⟩
      · dsimp only
        rw [if_neg hsb, if_pos rfl]
        exact hrk a s ha hs
      · rcases g2 with ⟨g2, rfl⟩ | ⟨g2, rfl⟩
        · dsimp only
          rw [if_pos rfl, if_neg gx]
          have := hrk x t g1 (by rw [g2]; exact h.nz h1)
          rw [g2] at this; exact this
        · have g3 : s.2 ≠ b := fun e => by
            rcases h.par x s g1 with g | g
            · exact hs g
            · rw [e, hnb] at g; cases g
          dsimp only
          rw [if_neg g3, if_neg gx]
          exact hrk x s g1 hs
  · exact h
theorem dropK_ind {D : List (Place × SV) → Place → List (Place × SV) × List Obj2} {Q : List (Place × SV) → Prop} (hD : ∀ ps p, Q ps → Q (D ps p).1) {u : Int} {x : List (Place × SV) × List Obj2} (hx : Q x.1) : ∀ n, Q (dropK D u n x).1
  | 0 => hx
  | n + 1 => by rw [dropK_succ]; exact hD _ _ (dropK_ind hD hx n)
theorem TreeOk.dropT : ∀ n {ps : List (Place × SV)} (p : Place), TreeOk ps → TreeOk (kDropT n ps p).1
  | 0, _, _, h => h
  | n + 1, ps, p, h => by
    rw [kDropT]
    split
    · exact h
    · split
      · exact h.drop p
      · split
        · exact dropK_ind (Q := TreeOk) (fun ps p h => TreeOk.dropT n p h) (x := (dropS ps p, _)) (h.drop p) 16
        · exact h.drop p
theorem TreeOk.belowL {ps : List (Place × SV)} (h : TreeOk ps) {p : Place} {rk : Place → Nat} (hrk : ∀ x s, look ps x = some s → s.2 ≠ (0, 0) → rk s.2 < rk x) (hp : (look ps p).isSome = true) : ∀ (n : Nat) (done todo : List Place), (done ++ todo).Nodup → (∀ x ∈ done ++ todo, rk p < rk x ∧ ∃ s, look ps x = some s ∧ (s.2 = p ∨ s.2 ∈ done)) → ps.length ≤ n + done.length → ∃ L, belowL ps n done todo = some L ∧ ∀ x ∈ L, (look ps x).isSome = true
  | n, done, [], _, hm, _ => ⟨done, by unfold Go.Pse.belowL; rfl, fun x hx => by
    obtain ⟨_, s, hs, _⟩ := hm x (by simpa using hx)
    rw [hs]; rfl⟩
  | 0, done, a :: ts, hn, hm, hl => by
    exfalso
    have h1 : (done ++ a :: ts).length ≤ (ps.map Prod.fst).length := nodup_length_le hn fun x hx => by
      obtain ⟨_, s, hs, _⟩ := hm x hx
      exact List.mem_map.2 ⟨(x, s), mem_look hs, rfl⟩
    rw [List.length_map] at h1
    simp at h1; omega
  | n + 1, done, a :: ts, hn, hm, hl => by
    rw [Go.Pse.belowL]
    have ha := hm a (by simp)
    obtain ⟨hra, sa, hsa, hpa⟩ := ha
    refine TreeOk.belowL h hrk hp n (done ++ [a]) (ts ++ kids ps a) ?_ ?_ (by simp; omega)
    · have e : done ++ [a] ++ (ts ++ kids ps a) = (done ++ a :: ts) ++ kids ps a := by simp
      rw [e, List.nodup_append]
      refine ⟨hn, ?_, ?_⟩
      · unfold kids
        split
        · unfold heirs
          refine ((sortF_isPerm _).nodup_iff).2 ?_
          exact List.Nodup.sublist (List.Sublist.map _ List.filter_sublist) h.keyd
        · exact List.nodup_nil
      · intro x hx y hy hxy
        subst hxy
        obtain ⟨_, s, hs, h2⟩ := (kids_mem h.keyd).1 hy
        obtain ⟨_, s', hs', h3⟩ := hm x hx
        rw [hs] at hs'
        cases hs'
        rw [h2] at h3
        rcases h3 with h3 | h3
        · rw [h3] at hra; omega
        · have := (List.nodup_append.1 hn).2.2 a h3 a (by simp)
          exact this Z
    · intro x hx
      rw [show done ++ [a] ++ (ts ++ kids ps a) = (done ++ a :: ts) ++ kids ps a by simp] at hx
      rcases List.mem_append.1 hx with hx | hx
      · obtain ⟨h1, s, h2, h3⟩ := hm x hx
        exact ⟨h1, s, h2, h3.imp id fun h => by simp [h]⟩
      · obtain ⟨_, s, h1, h2⟩ := (kids_mem h.keyd).1 hx
        have h3 := hrk x s h1 (by rw [h2]; exact h.nz (by rw [hsa]; rfl))
        rw [h2] at h3
        exact ⟨by omega, s, h1, .inr (by simp [h2])⟩
theorem TreeOk.below (h : TreeOk ps) {p : Place} (hp : (look ps p).isSome = true) : ∃ L, belowS ps p = some L ∧ ∀ x ∈ L, (look ps x).isSome = true := by
 obtain ⟨rk, hrk⟩ := h.rank
 obtain ⟨L, h1, h2⟩ := h.belowL hrk hp ps.length [] (kids ps p) (by
  rw [List.nil_append]
  unfold kids
  rw [if_pos hp]
  unfold heirs
  refine ((sortF_isPerm _).nodup_iff).2 ?_
  exact List.Nodup.sublist (List.Sublist.map _ List.filter_sublist) h.keyd) (fun x hx => by
   rw [List.nil_append] at hx
   obtain ⟨_, s, h1, h2⟩ := (kids_mem h.keyd).1 hx
   have h3 := hrk x s h1 (by rw [h2]; exact h.nz hp)
   rw [h2] at h3
   exact ⟨h3, s, h1, .inl h2⟩) (by simp)
 exact ⟨sortP L, by unfold belowS; rw [h1]; rfl, fun x hx => h2 x (by unfold sortP at hx; exact sortF_mem.1 hx)⟩
theorem belowS_none {p : Place} (hp : look ps p = none) : belowS ps p = some [] := by
  have : kids ps p = [] := by unfold kids; rw [hp]; rfl
  unfold belowS
  rw [this]
  unfold Go.Pse.belowL
  rfl
theorem TreeOk.revL : ∀ {n : Nat} {ps : List (Place × SV)} {p : Place} {out : List Obj2}, TreeOk ps → ps.length < n → (revL p n ps out).isSome = true
 | 0, _, _, _, _, hl => by omega
 | n + 1, ps, p, out, h, hl => by
  have hb : ∃ L, belowS ps p = some L ∧ ∀ x ∈ L, (look ps x).isSome = true := by
   cases hp : look ps p with
   | none => exact ⟨[], belowS_none hp, fun _ hx => by cases hx⟩
   | some s => exact h.below (by rw [hp]; rfl)
  obtain ⟨L, h1, h2⟩ := hb
  cases L with
  | nil => rw [Go.Pse.revL, h1]; rfl
  | cons a ls =>
   rw [revL_step h1]
   obtain ⟨s, hs⟩ := Option.isSome_iff_exists.1 (h2 a List.mem_cons_self)
   obtain ⟨k, hk⟩ : ∃ k, ps.length = k + 1 := ⟨ps.length - 1, by have := del_less hs; omega⟩
   have hless := kDropT_less (n := k) hs
   rw [← hk] at hless
   exact TreeOk.revL (h.dropT _ a) (by omega)
theorem TreeOk.revOk (h : TreeOk ps) (p : Place) : RevOk ps p := fun _ => h.revL (by omega)
theorem TreeOk.revT {p : Place} : ∀ {n : Nat} {ps : List (Place × SV)} {out : List Obj2} {r : List (Place × SV) × List Obj2}, TreeOk ps → Go.Pse.revL p n ps out = some r → TreeOk r.1 ∧ r.1.length ≤ ps.length
  | 0, _, _, _, _, hr => by simp [Go.Pse.revL] at hr
  | n + 1, ps, out, r, h, hr => by
    obtain ⟨L, hb⟩ := revL_below hr
    cases L with
    | nil => rw [Go.Pse.revL, hb] at hr; cases hr; exact ⟨h, Nat.le_refl _⟩
    | cons a ls =>
      rw [revL_step hb] at hr
      have h1 := TreeOk.revT (h.dropT _ a) hr
      exact ⟨h1.1, Nat.le_trans h1.2 (by have := kDropT_len ps.length ps a; omega)⟩
/-! ### plain: what holds of every state, whatever is asked -/
structure WellQ (Q : Sqe → Prop) (s : KS) (N M : Nat) : Prop where
  fit : Fits s N M
  q : s.q.length ≤ N
  mp : s.mp.length ≤ N
  sl : s.sl.length ≤ N
  rg : s.rg.length ≤ 1000
  tree : TreeOk s.sl
  marks : MarksOk s.mr
  thr : (s.th.map fun e => e.2.ring).Nodup
  ent : ∀ e ∈ s.rt, SqeOk e.2.e ∧ Q e.2.e
  rtk : Keyd s.rt
abbrev Well := WellQ fun _ => True
variable {Q : Sqe → Prop}
theorem own_of (h : (s.th.map fun e => e.2.ring).Nodup) {r : Int} {x : Option Th} (ho : Owns s r x) : x = kOwner s r := by
 unfold kOwner
 cases x with
 | none =>
  rw [List.find?_eq_none.2 (fun e he => by simpa using ho e he)]; rfl
 | some t =>
  obtain ⟨k, hk, hr⟩ := ho
  have hm := mem_look hk
  cases hf : s.th.find? (fun e => decide (e.2.ring = r)) with
  | none =>
   have := List.find?_eq_none.1 hf (k, t) hm
   simp [hr] at this
  | some e =>
   have he := List.mem_of_find?_eq_some hf
   have hr2 : e.2.ring = r := by have := List.find?_some hf; simpa using this
   obtain ⟨i, hi⟩ := List.getElem?_of_mem hm
   obtain ⟨j, hj⟩ := List.getElem?_of_mem he
   have hij : i = j := nodup_idx h (x := r) (by rw [List.getElem?_map, hi]; simp [hr]) (by rw [List.getElem?_map, hj]; simp [hr2])
   subst hij
   rw [hi] at hj
   cases hj
   rfl
theorem WellQ.good (h : WellQ Q s N M) (hN : N + 1 ≤ 90000) (hM : M ≤ 45000) : Good s N M :=
  ⟨h.fit, hN, hM, h.q, h.mp, h.sl, h.rg, h.tree.capsOk, h.marks, h.tree.revOk, fun _ _ => own_of h.thr, fun e he => (h.ent e he).1⟩
theorem WellQ.more {s : KS} {N M : Nat} (h : WellQ Q s N M) (hN : N + 1 ≤ 90000) : WellQ Q s (N + 1) M :=
  ⟨h.fit.more hN, Nat.le_succ_of_le h.q, Nat.le_succ_of_le h.mp, Nat.le_succ_of_le h.sl, h.rg, h.tree, h.marks, h.thr, h.ent, h.rtk⟩
theorem WellQ.ended {t : KS} (h : WellQ Q s N M) (hf : Fits t N M) (hq : t.q.length ≤ s.q.length) (hmp : t.mp.length ≤ s.mp.length) (hsl : t.sl = s.sl) (hmr : t.mr = s.mr) (hth : t.th.Sublist s.th) (hrg : t.rg.length ≤ s.rg.length) (hrt : t.rt.Sublist s.rt) : WellQ Q t N M :=
  ⟨hf, Nat.le_trans hq h.q, Nat.le_trans hmp h.mp, by rw [hsl]; exact h.sl, Nat.le_trans hrg h.rg, by rw [hsl]; exact h.tree, by rw [hmr]; exact h.marks, List.Nodup.sublist (hth.map _) h.thr, fun e he => h.ent e (hrt.subset he), h.rtk.sub hrt⟩
theorem kSaid_th (s : KS) (d : Deed) : (kSaid s d).th = s.th := by unfold kSaid kPost; split <;> rfl
theorem tell_th {D : KS → ID → Int → Int → KS} (hD : ∀ s i r v, (D s i r v).th = s.th) (s : KS) (d : Deed) : (kTell D s d).th = s.th := by
  unfold kTell
  split
  · exact kSaid_th s d
  · split
    · exact (hD _ _ _ _).trans (kSaid_th s d)
    · exact kSaid_th s d
theorem dec_th : ∀ n (s : KS) (i : ID) (r v : Int), (kDec n s i r v).th = s.th
  | 0, s, _, _, _ => rfl
  | n + 1, s, i, r, v => by
    cases hq : look s.rt i with
    | none => rw [kDec_none hq]
    | some q =>
      rw [kDec_some hq]
      have h := tell_th (D := kDec n) (fun s i r v => dec_th n s i r v) (kForget { s with rt := del s.rt i } i) (i, q.e.tag, q.e.op, r, v, false)
      unfold kNext
      split
      · exact h
      · split
        · exact (dec_th n _ _ _ _).trans h
        · exact h
theorem ends_th : ∀ (l : List ID) (s : KS), (kEnds s l).th = s.th
  | [], s => rfl
  | i :: l, s => (ends_th l _).trans (dec_th _ _ _ _ _)
theorem kTearL_th : ∀ (l : List Rq) (s : KS), (kTearL s l).th = s.th
  | [], _ => rfl
  | q :: l, s => kTearL_th l (kTear1 s q)
theorem kTear_th (s : KS) (g : Int) : (kTear s g).th = s.th := by
  unfold kTear
  split
  · exact kTearL_th (ofQ s.rt g) s
  · rfl
theorem torn_th (u : Int) : ∀ (l : List Int) (s : KS), (kTorn s u l).th = s.th
  | [], s => rfl
  | g :: l, s => by
    refine (torn_th u l (tornStep u s g)).trans ?_
    unfold tornStep
    split
    · rfl
    · split
      · exact kTear_th s g
      · rfl
theorem gone_th (s : KS) (k u : Int) : (kGone s k u).th.Sublist s.th := by
  unfold kGone
  (repeat' split) <;> first | exact List.Sublist.refl _ | exact List.filter_sublist (l := s.th)
theorem destroy_th (s : KS) (o : Obj2) : (kDestroy s o).th.Sublist s.th := by
  unfold kDestroy
  refine (gone_th _ _ _).trans ?_
  split
  · rw [torn_th, ends_th]; exact List.Sublist.refl _
  · split
    · rw [kTear_th, ends_th]; exact List.Sublist.refl _
    · rw [ends_th]; exact List.Sublist.refl _
theorem destroyL_th : ∀ (l : List Obj2) (s : KS), (kDestroyL s l).th.Sublist s.th
  | [], _ => List.Sublist.refl _
  | o :: l, s => (destroyL_th l _).trans (destroy_th s o)
theorem WellQ.dec {s : KS} {N M : Nat} (h : WellQ Q s N M) (n : Nat) (i : ID) (r v : Int) : WellQ Q (kDec n s i r v) N M := by
  have hk := Kept.dec n s i r v
  exact h.ended (Fits.dec n h.fit).1 (by rw [hk.q]; exact Nat.le_refl _) (by rw [hk.mp]; exact Nat.le_refl _) hk.sl hk.mr (by rw [dec_th]; exact List.Sublist.refl _) (by rw [dec_rglen]; exact Nat.le_refl _) (dec_rt n s i r v)
theorem WellQ.destroyL {s : KS} {N M : Nat} (h : WellQ Q s N M) (l : List Obj2) : WellQ Q (kDestroyL s l) N M := by
  have hl := destroyL_len l s
  exact h.ended (h.fit.destroyL h.rtk) hl.1 hl.2.1 hl.2.2.1 hl.2.2.2 (destroyL_th l s) (destroyL_rglen l s) (destroyL_rt l s)
theorem WellQ.rpU (h : WellQ Q s N M) (u : Int) (f : ID × Bool → ID × Bool) : WellQ Q { s with rp := updO s.rp u f } N M :=
  ⟨h.fit.rpF u f, h.q, h.mp, h.sl, h.rg, h.tree, h.marks, h.thr, h.ent, h.rtk⟩
theorem WellQ.epU (h : WellQ Q s N M) (hN : N + 1 ≤ 90000) (u : Int) {f : List Msg × List Rcv → List Msg × List Rcv} (hf : ∀ a, (f a).1.length ≤ a.1.length + 1 ∧ (f a).2.length ≤ a.2.length + 1) : WellQ Q { s with ep := updO s.ep u f } (N + 1) M :=
  ⟨h.fit.epF hN u hf, Nat.le_succ_of_le h.q, Nat.le_succ_of_le h.mp, Nat.le_succ_of_le h.sl, h.rg, h.tree, h.marks, h.thr, h.ent, h.rtk⟩
theorem WellQ.ntU (h : WellQ Q s N M) (hN : N + 1 ≤ 90000) (u : Int) {f : Int × List ID → Int × List ID} (hf : ∀ a, (f a).2.length ≤ a.2.length + 1) : WellQ Q { s with nt := updO s.nt u f } (N + 1) M :=
  ⟨h.fit.ntF hN u hf, Nat.le_succ_of_le h.q, Nat.le_succ_of_le h.mp, Nat.le_succ_of_le h.sl, h.rg, h.tree, h.marks, h.thr, h.ent, h.rtk⟩
theorem WellQ.slU (h : WellQ Q s N M) (hN : N + 1 ≤ 90000) (ht : TreeOk ps) (hl : ps.length ≤ s.sl.length + 1) : WellQ Q { s with sl := ps } (N + 1) M := by
  have h2 := h.more hN
  have := h.sl
  exact ⟨⟨h2.fit.n, h2.fit.mm, h2.fit.ids, h2.fit.jn, h2.fit.tm, h2.fit.ep, h2.fit.nt, h2.fit.rp, h2.fit.rg, h2.fit.mem⟩, h2.q, h2.mp, (show ps.length ≤ N + 1 by omega), h2.rg, ht, h2.marks, h2.thr, h2.ent, h2.rtk⟩
theorem WellQ.mrU (h : WellQ Q s N M) {mr : List (Place × Int)} (hm : MarksOk mr) : WellQ Q { s with mr := mr } N M :=
  ⟨⟨h.fit.n, h.fit.mm, h.fit.ids, h.fit.jn, h.fit.tm, h.fit.ep, h.fit.nt, h.fit.rp, h.fit.rg, h.fit.mem⟩, h.q, h.mp, h.sl, h.rg, h.tree, hm, h.thr, h.ent, h.rtk⟩
theorem WellQ.mpU (h : WellQ Q s N M) (hN : N + 1 ≤ 90000) {ps : List (Place × M1)} (hl : ps.length ≤ s.mp.length + 1) : WellQ Q { s with mp := ps } (N + 1) M := by
  have h2 := h.more hN
  have := h.mp
  exact ⟨⟨h2.fit.n, h2.fit.mm, h2.fit.ids, h2.fit.jn, h2.fit.tm, h2.fit.ep, h2.fit.nt, h2.fit.rp, h2.fit.rg, h2.fit.mem⟩, h2.q, (show ps.length ≤ N + 1 by omega), h2.sl, h2.rg, h2.tree, h2.marks, h2.thr, h2.ent, h2.rtk⟩
theorem WellQ.qU (h : WellQ Q s N M) (hN : N + 1 ≤ 90000) {q : List (Int × Int)} {pr : List (Int × Int)} (hl : q.length ≤ s.q.length + 1) : WellQ Q { s with q := q, pr := pr } (N + 1) M := by
  have h2 := h.more hN
  have := h.q
  exact ⟨⟨h2.fit.n, h2.fit.mm, h2.fit.ids, h2.fit.jn, h2.fit.tm, h2.fit.ep, h2.fit.nt, h2.fit.rp, h2.fit.rg, h2.fit.mem⟩, (show q.length ≤ N + 1 by omega), h2.mp, h2.sl, h2.rg, h2.tree, h2.marks, h2.thr, h2.ent, h2.rtk⟩
theorem ins_le {κ υ : Type} [DecidableEq κ] (ps : List (κ × υ)) (a : κ) (u : υ) : (ins ps a u).length ≤ ps.length + 1 := by
  unfold Go.Pse.ins; split <;> simp
theorem slPut_le (ps : List (Place × SV)) (p : Place) (c : Cap) (q : Place) : (slPut ps p c q).length ≤ ps.length + 1 := by
  unfold slPut; split
  · exact ins_le _ _ _
  · omega
theorem copyS_tree (h : TreeOk ps) (p q : Place) (r : Int) : TreeOk (copyS ps p q r).1 ∧ (copyS ps p q r).1.length ≤ ps.length + 1 := by
  unfold copyS
  (repeat' split) <;> first | exact ⟨h, Nat.le_succ _⟩ | exact ⟨h.put _ _ _, slPut_le _ _ _ _⟩
theorem mintS_tree (h : TreeOk ps) (p q : Place) (r : Int) : TreeOk (mintS ps p q r).1 ∧ (mintS ps p q r).1.length ≤ ps.length + 1 := by
  unfold mintS
  (repeat' split) <;> first | exact ⟨h, Nat.le_succ _⟩ | exact ⟨h.put _ _ _, slPut_le _ _ _ _⟩
theorem moveS_le (ps : List (Place × SV)) (a b : Place) : (moveS ps a b).length ≤ ps.length + 1 := by
  unfold moveS; split
  · refine Nat.le_trans (ins_le _ _ _) ?_
    have := del_le (ps := turnS ps a b) (i := a)
    rw [turnS_len] at this
    omega
  · omega
theorem dmoveS_tree (h : TreeOk ps) (p q : Place) : TreeOk (dmoveS ps p q).1 ∧ (dmoveS ps p q).1.length ≤ ps.length + 1 := by
  unfold dmoveS
  dsimp only
  split
  · exact ⟨h.move _ _, moveS_le _ _ _⟩
  · exact ⟨h, Nat.le_succ _⟩
theorem deleteS_tree (h : TreeOk ps) (p : Place) : TreeOk (deleteS ps p).1.1 ∧ (deleteS ps p).1.1.length ≤ ps.length + 1 := by
  unfold deleteS
  split
  · exact ⟨h, Nat.le_succ _⟩
  · exact ⟨h.dropT _ _, by have := kDropT_len ps.length ps p; show (kDropT ps.length ps p).1.length ≤ _; omega⟩
theorem revokeS_tree (h : TreeOk ps) (p : Place) : TreeOk (revokeS ps p).1.1 ∧ (revokeS ps p).1.1.length ≤ ps.length + 1 := by
  unfold revokeS
  split
  · exact ⟨h, Nat.le_succ _⟩
  · dsimp only
    cases hr : revL p (ps.length + 1) ps [] with
    | none => exact ⟨h, Nat.le_succ _⟩
    | some r =>
      have := h.revT hr
      exact ⟨this.1, Nat.le_succ_of_le this.2⟩
theorem makeS_tree {mr : List (Place × Int)} (h : TreeOk ps) (hm : MarksOk mr) (p q : Place) (k z : Int) : TreeOk (makeS ps mr p q k z).1.1 ∧ (makeS ps mr p q k z).1.1.length ≤ ps.length + 1 ∧ MarksOk (makeS ps mr p q k z).1.2 := by
  unfold makeS
  split
  · exact ⟨h, Nat.le_succ _, hm⟩
  · rename_i u hu
    have hcu := checkC_is (h.caps p u hu)
    split
    · exact ⟨h, Nat.le_succ _, hm⟩
    · rename_i h1
      split
      · exact ⟨h, Nat.le_succ _, hm⟩
      · split
        · exact ⟨h, Nat.le_succ _, hm⟩
        · split
          · exact ⟨h, Nat.le_succ _, hm⟩
          · split
            · rename_i hto
              refine ⟨h.put _ _ _, slPut_le _ _ _ _, ?_⟩
              show MarksOk (mtkM _ _ _)
              unfold mtkM
              rw [if_pos hto]
              have hr : rangeC u.1 = (u.1.obj, u.1.size) := if_neg h1
              have hus := usedM_is (hm.reset ps u.1) (rangeC u.1)
              unfold mtkOk at hto
              simp only [Bool.and_eq_true, decide_eq_true_eq] at hto
              rw [hr] at hto hus ⊢
              intro e he
              unfold Go.Pse.ins at he
              split at he
              · obtain ⟨x, hx, rfl⟩ := List.mem_map.1 he
                split
                · dsimp only at hto ⊢; omega
                · exact hm.reset ps u.1 x hx
              · rcases List.mem_append.1 he with he | he
                · exact hm.reset ps u.1 e he
                · rw [List.mem_singleton.1 he]; dsimp only at hto ⊢; omega
            · exact ⟨h, Nat.le_succ _, hm.reset _ _⟩
theorem WellQ.two (h : WellQ Q s N M) (hN : N + 1 ≤ 90000) {F : Place → Place → KS × Int} (hF : ∀ x y, WellQ Q (F x y).1 (N + 1) M) (o : Option (Place × Place)) : WellQ Q (twoS s F o).1 (N + 1) M := by
  cases o with
  | none => exact h.more hN
  | some x => exact hF _ _
theorem WellQ.kill (h : WellQ Q s N M) (hN : N + 1 ≤ 90000) {F : Place → (List (Place × SV) × List Obj2) × Int} (hF : ∀ x, TreeOk (F x).1.1 ∧ (F x).1.1.length ≤ s.sl.length + 1) (o : Option Place) : WellQ Q (killS s F o).1 (N + 1) M := by
  cases o with
  | none => exact h.more hN
  | some x => exact (h.slU hN (hF x).1 (hF x).2).destroyL _
theorem WellQ.slots (h : WellQ Q s N M) (hN : N + 1 ≤ 90000) (T : Th) (e : Sqe) : WellQ Q (kSlots s T e).1 (N + 1) M := by
  unfold kSlots
  split
  · exact h.two hN (fun x y => h.slU hN (copyS_tree h.tree x y e.b).1 (copyS_tree h.tree x y e.b).2) _
  · split
    · exact h.two hN (fun x y => h.slU hN (mintS_tree h.tree x y e.b).1 (mintS_tree h.tree x y e.b).2) _
    · split
      · exact h.two hN (fun x y => h.slU hN (dmoveS_tree h.tree x y).1 (dmoveS_tree h.tree x y).2) _
      · split
        · exact h.kill hN (fun x => deleteS_tree h.tree x) _
        · exact h.kill hN (fun x => revokeS_tree h.tree x) _
theorem zrow_len : zrow.length = 512 ∧ Bytes zrow := ⟨List.length_replicate, fun x hx => by
  have := (List.mem_replicate.1 hx).2
  omega⟩
variable {u : Int}
theorem ins_memO {α : Type} {xs : List (Int × α)} {a : α} {x : Int × α} (h : x ∈ ins xs u a) : x ∈ xs ∨ x = (u, a) := by
  unfold Go.Pse.ins at h
  split at h
  · obtain ⟨y, hy, rfl⟩ := List.mem_map.1 h
    split
    · exact .inr Z
    · exact .inl hy
  · rcases List.mem_append.1 h with h | h
    · exact .inl h
    · exact .inr (List.mem_singleton.1 h)
theorem WellQ.made (h : WellQ Q s N M) {c : Cap} (hc : 1 ≤ c.obj ∧ c.obj ≤ 64) (b : Nat) : WellQ Q (kMade s c b) N M := by
  have hf := h.fit
  unfold kMade
  split
  · exact ⟨⟨hf.n, hf.mm, hf.ids, hf.jn, hf.tm, fun x hx => by
      rcases ins_memO hx with hx | rfl
      · exact hf.ep x hx
      · exact ⟨hc, Nat.zero_le _, Nat.zero_le _⟩, hf.nt, hf.rp, hf.rg, hf.mem⟩, h.q, h.mp, h.sl, h.rg, h.tree, h.marks, h.thr, h.ent, h.rtk⟩
  · split
    · exact ⟨⟨hf.n, hf.mm, hf.ids, hf.jn, hf.tm, hf.ep, fun x hx => by
        rcases ins_memO hx with hx | rfl
        · exact hf.nt x hx
        · exact ⟨hc, Nat.zero_le _⟩, hf.rp, hf.rg, hf.mem⟩, h.q, h.mp, h.sl, h.rg, h.tree, h.marks, h.thr, h.ent, h.rtk⟩
    · split
      · exact ⟨⟨hf.n, hf.mm, hf.ids, hf.jn, hf.tm, hf.ep, hf.nt, fun x hx => by
          rcases ins_memO hx with hx | rfl
          · exact hf.rp x hx
          · exact hc, hf.rg, hf.mem⟩, h.q, h.mp, h.sl, h.rg, h.tree, h.marks, h.thr, h.ent, h.rtk⟩
      · split
        · exact ⟨⟨hf.n, hf.mm, hf.ids, hf.jn, hf.tm, hf.ep, hf.nt, hf.rp, hf.rg, hf.mem.put zrow_len⟩, h.q, h.mp, h.sl, h.rg, h.tree, h.marks, h.thr, h.ent, h.rtk⟩
        · exact h
theorem WellQ.ret (h : WellQ Q s N M) (hN : N + 1 ≤ 90000) (T : Th) (e : Sqe) (b : Nat) : WellQ Q (kRetS s T e b) (N + 1) M := by
  have h2 : WellQ Q (twoS s (retF s e) (twoAt s T e)).1 (N + 1) M := h.two hN (fun x y => by
    have := makeS_tree h.tree h.marks x y e.b e.c
    exact (h.slU hN this.1 this.2.1).mrU this.2.2) _
  unfold kRetS
  split
  · rename_i hc
    refine h2.made ?_ b
    unfold kRetC at hc
    unfold kRetK
    cases hq : twoAt s T e with
    | none => rw [hq] at hc; simp [twoS] at hc
    | some x => rw [hq] at hc; exact makeS_obj h.tree.capsOk h.marks hc
  · exact h2
theorem spSet_le (ps : List (Place × M1)) (p : Place) (f : M1) : (spSet ps p f).length ≤ ps.length + 1 := by
  unfold spSet; split
  · exact ins_le _ _ _
  · omega
theorem WellQ.maps (h : WellQ Q s N M) (hN : N + 1 ≤ 90000) (T : Th) (e : Sqe) : WellQ Q (kMaps s T e).1 (N + 1) M := by
  unfold kMaps
  (repeat' split) <;> first | exact h.more hN | exact h.mpU hN (spSet_le _ _ _)
theorem WellQ.unmap (h : WellQ Q s N M) (hN : N + 1 ≤ 90000) (T : Th) (e : Sqe) : WellQ Q (kUnmap s T e).1 (N + 1) M := by
  have hd : (del s.mp (T.space, e.a)).length ≤ s.mp.length + 1 := Nat.le_succ_of_le del_le
  unfold kUnmap
  (repeat' split) <;> first | exact h.more hN | exact h.mpU hN hd
theorem qSet_le (q : List (Int × Int)) (i p : Int) : (qSet q i p).length ≤ q.length + 1 := by
  unfold qSet
  split
  · split
    · omega
    · exact Nat.le_trans (qAdd_len _ _ _) (Nat.succ_le_succ (qRem_len _ _))
  · omega
theorem WellQ.thrS (h : WellQ Q s N M) (hN : N + 1 ≤ 90000) (T : Th) (e : Sqe) : WellQ Q (kThreads s T e).1 (N + 1) M := by
  unfold kThreads
  split
  · exact h.more hN
  · split
    · exact h.more hN
    · show WellQ Q (kThr s e _).1 (N + 1) M
      unfold kThr
      split
      · exact h.qU hN (pr := s.pr) (qSet_le _ _ _)
      · split
        · show WellQ Q (kStop s _) (N + 1) M
          unfold kStop
          split
          · exact h.qU hN (Nat.le_succ_of_le (qRem_len _ _))
          · exact h.more hN
        · show WellQ Q (kGo s _) (N + 1) M
          unfold kGo
          split
          · exact h.qU hN (pr := s.pr) (qAdd_len _ _ _)
          · exact h.more hN
theorem WellQ.bind (h : WellQ Q s N M) (u : Int) (j : ID) : WellQ Q (kBind s u j) N M := by
  unfold kBind
  split
  · exact h
  · split
    · exact (h.rpU _ _).dec _ _ _ _
    · exact h.rpU _ _
theorem WellQ.send1 (h : WellQ Q s N M) (hN : N + 1 ≤ 90000) (c : Cap) (e : Sqe) (i : ID) (call : Bool) : WellQ Q (kSend1 s c e i call).1 (N + 1) M := by
  unfold kSend1
  split
  · exact h.more hN
  · rename_i y _
    obtain ⟨yb, yo, yi⟩ := y
    have h1 := h.epU hN c.obj (f := sendE (i, e.a, c.badge, call)) fun a => by have := sendE_len (i, e.a, c.badge, call) a; omega
    cases yi with
    | nil => exact h1
    | cons z zs =>
      show WellQ Q (kSend3 _ _ _ _).1 (N + 1) M
      unfold kSend3
      split
      · exact h1.dec _ _ _ _
      · split
        · exact h1.dec _ _ _ _
        · exact (h1.dec _ _ _ _).bind _ _
theorem WellQ.sends (h : WellQ Q s N M) (hN : N + 1 ≤ 90000) (T : Th) (e : Sqe) (i : ID) (call : Bool) : WellQ Q (kSends s T e i call).1 (N + 1) M := by
  unfold kSends
  generalize (if call = true then (6 : Int) else 2) = r
  split
  · exact h.more hN
  · exact h.send1 hN _ _ _ _
theorem WellQ.met (h : WellQ Q s N M) (u : Int) (x : Msg) : WellQ Q (kMet s u x) N M := by
  unfold kMet
  split
  · split
    · exact h.dec _ _ _ _
    · exact h.bind _ _
  · exact h.dec _ _ _ _
theorem WellQ.recv1 (h : WellQ Q s N M) (hN : N + 1 ≤ 90000) (c : Cap) (u : Int) (i : ID) : WellQ Q (kRecv1 s c u i).1 (N + 1) M := by
  unfold kRecv1
  split
  · exact h.more hN
  · rename_i y _
    obtain ⟨yb, yo, yi⟩ := y
    have h1 := h.epU hN c.obj (f := recvE (i, u)) fun a => by have := recvE_len (i, u) a; omega
    cases yo with
    | nil => exact h1
    | cons z zs => exact h1.met _ _
theorem WellQ.recvs (h : WellQ Q s N M) (hN : N + 1 ≤ 90000) (T : Th) (e : Sqe) (i : ID) : WellQ Q (kRecvs s T e i).1 (N + 1) M := by
  unfold kRecvs
  (repeat' split) <;> first | exact h.more hN | exact h.recv1 hN _ _ _
theorem WellQ.answers (h : WellQ Q s N M) (hN : N + 1 ≤ 90000) (T : Th) (e : Sqe) : WellQ Q (kAnswers s T e).1 (N + 1) M := by
  unfold kAnswers
  (repeat' split) <;> first | exact h.more hN | exact (h.rpU _ _).more hN | exact ((h.rpU _ _).dec _ _ _ _).more hN
theorem WellQ.sig (h : WellQ Q s N M) (hN : N + 1 ≤ 90000) (u x : Int) : WellQ Q { s with nt := updO s.nt u (ntS x) } (N + 1) M :=
  h.ntU hN u fun a => by have := sigL_len a.1 a.2 x; show (sigL a.1 a.2 x).length ≤ _; omega
theorem WellQ.signals (h : WellQ Q s N M) (hN : N + 1 ≤ 90000) (T : Th) (e : Sqe) : WellQ Q (kSignals s T e).1 (N + 1) M := by
  unfold kSignals
  split
  · exact h.more hN
  · split
    · exact h.more hN
    · dsimp only
      split
      · exact (h.sig hN _ _).dec _ _ _ _
      · exact h.sig hN _ _
theorem WellQ.nwaits (h : WellQ Q s N M) (hN : N + 1 ≤ 90000) (T : Th) (e : Sqe) (i : ID) : WellQ Q (kNWaits s T e i).1 (N + 1) M := by
  unfold kNWaits
  split
  · exact h.more hN
  · split
    · exact h.more hN
    · exact h.ntU hN _ fun a => waitL_len a.1 a.2 i
theorem WellQ.cancels (h : WellQ Q s N M) (hN : N + 1 ≤ 90000) (e : Sqe) (i : ID) : WellQ Q (kCancels s e i).1 (N + 1) M := by
  unfold kCancels
  split
  · exact h.more hN
  · exact (h.dec _ _ _ _).more hN
theorem wif {c : Prop} [Decidable c] {x y : KS × Out} (h1 : WellQ Q x.1 N M) (h2 : WellQ Q y.1 N M) : WellQ Q (if c then x else y).1 N M := by
  by_cases h : c
  · rw [if_pos h]; exact h1
  · rw [if_neg h]; exact h2
theorem WellQ.does (h : WellQ Q s N M) (hN : N + 1 ≤ 90000) (T : Th) (q : Rq) (i : ID) (b : Nat) : WellQ Q (kDoes s T q i b).1 (N + 1) M :=
  wif (h.more hN) <| wif (h.slots hN _ _) <| wif (h.ret hN _ _ _) <| wif (h.maps hN _ _) <| wif (h.unmap hN _ _) <| wif (h.sends hN _ _ _ _) <| wif (h.recvs hN _ _ _) <| wif (h.answers hN _ _) <| wif (h.signals hN _ _) <| wif (h.nwaits hN _ _ _) <| wif (h.thrS hN _ _) <| wif (h.more hN) <| wif (h.cancels hN _ _) <| h.more hN
theorem WellQ.act (h : WellQ Q s N M) (hN : N + 1 ≤ 90000) (i : ID) (b : Nat) : WellQ Q (kAct s i b).1 (N + 1) M := by
  unfold kAct
  split
  · exact h.more hN
  · split
    · exact h.more hN
    · exact h.does hN _ _ _ _
theorem addQ_ids {ps : List (ID × Rq)} {q : Rq} (h : Ids ps) : Ids (addQ ps q) := fun e he => by
  unfold addQ at he
  split at he
  · rename_i h1
    have hn : look ps q.id = none := by
      unfold addOk at h1
      simp at h1
      cases hq : look ps q.id with
      | none => rfl
      | some y => rw [hq] at h1; simp at h1
    unfold Go.Pse.ins at he
    rw [hn] at he
    simp at he
    rcases he with h2 | rfl
    · exact h e h2
    · rfl
  · exact h e he
theorem ins_memK {κ υ : Type} [DecidableEq κ] {xs : List (κ × υ)} {u : κ} {a : υ} {x : κ × υ} (h : x ∈ ins xs u a) : x ∈ xs ∨ x = (u, a) := by
  unfold Go.Pse.ins at h
  split at h
  · obtain ⟨y, hy, rfl⟩ := List.mem_map.1 h
    split
    · exact .inr Z
    · exact .inl hy
  · rcases List.mem_append.1 h with h | h
    · exact .inl h
    · exact .inr (List.mem_singleton.1 h)
variable {Q : Sqe → Prop}
theorem rtS_len {ps : List (ID × Rq)} : (rtS ps i).length = ps.length := by
  unfold rtS
  split
  · rfl
  · rename_i q hq
    unfold Go.Pse.ins
    rw [if_pos (by rw [hq]; rfl), List.length_map]
theorem rtS_mem {ps : List (ID × Rq)} {e : ID × Rq} (h : e ∈ rtS ps i) : ∃ x ∈ ps, e.1 = x.1 ∧ e.2.id = x.2.id ∧ e.2.e = x.2.e := by
  unfold rtS at h
  split at h
  · exact ⟨e, h, rfl, rfl, rfl⟩
  · rename_i q hq
    unfold Go.Pse.ins at h
    rw [if_pos (by rw [hq]; rfl)] at h
    obtain ⟨x, hx, rfl⟩ := List.mem_map.1 h
    split
    · rename_i hi
      exact ⟨(i, q), mem_look hq, rfl, rfl, rfl⟩
    · exact ⟨x, hx, rfl, rfl, rfl⟩
theorem WellQ.start (h : WellQ Q s N M) (i : ID) : WellQ Q { s with rt := rtS s.rt i } N M := by
  have hf := h.fit
  refine ⟨⟨hf.n, hf.mm, fun e he => ?_, by show s.jn.length + (rtS s.rt i).length ≤ M; rw [rtS_len]; exact hf.jn, hf.tm, hf.ep, hf.nt, hf.rp, fun x hx => ⟨(hf.rg x hx).1, by show _ + (rtS s.rt i).length ≤ M; rw [rtS_len]; exact (hf.rg x hx).2⟩, hf.mem⟩, h.q, h.mp, h.sl, h.rg, h.tree, h.marks, h.thr, fun e he => ?_, ?_⟩
  · obtain ⟨x, hx, h1, h2, _⟩ := rtS_mem he
    rw [h2, h1]; exact hf.ids x hx
  · obtain ⟨x, hx, _, _, h3⟩ := rtS_mem he
    rw [h3]; exact h.ent x hx
  · show Keyd (rtS s.rt i)
    unfold rtS
    split
    · exact h.rtk
    · exact h.rtk.ins _ _
theorem WellQ.take (h : WellQ Q s N M) (r n : Int) : WellQ Q (kTake s r n) N M := by
  have hf := h.fit
  unfold kTake
  split
  · exact ⟨⟨hf.n, hf.mm, hf.ids, hf.jn, hf.tm, hf.ep, hf.nt, hf.rp, hf.rg, hf.mem⟩, h.q, h.mp, h.sl, h.rg, h.tree, h.marks, h.thr, h.ent, h.rtk⟩
  · exact h
theorem WellQ.addq (h : WellQ Q s N M) (hM : M + 1 ≤ 90000) {q : Rq} (hq : SqeOk q.e ∧ Q q.e) : WellQ Q { s with rt := addQ s.rt q } N (M + 1) := by
  have hf := h.fit
  have hl : (addQ s.rt q).length ≤ s.rt.length + 1 := by
    unfold addQ; split
    · exact ins_le _ _ _
    · omega
  have hj := hf.jn
  refine ⟨⟨hf.n, hM, addQ_ids hf.ids, by show s.jn.length + (addQ s.rt q).length ≤ M + 1; omega, hf.tm, hf.ep, hf.nt, hf.rp, fun x hx => ⟨(hf.rg x hx).1, by have := (hf.rg x hx).2; show _ + (addQ s.rt q).length ≤ M + 1; omega⟩, hf.mem⟩, h.q, h.mp, h.sl, h.rg, h.tree, h.marks, h.thr, fun e he => ?_, ?_⟩
  · have he2 : e ∈ addQ s.rt q := he
    unfold addQ at he2
    split at he2
    · rcases ins_memK he2 with h1 | rfl
      · exact h.ent e h1
      · exact hq
    · exact h.ent e he2
  · show Keyd (addQ s.rt q)
    unfold addQ; split
    · exact h.rtk.ins _ _
    · exact h.rtk
theorem Well.add (h : Well s N M) (hM : M + 1 ≤ 90000) {q : Rq} (hq : SqeOk q.e) : Well { s with rt := addQ s.rt q } N (M + 1) := WellQ.addq h hM ⟨hq, trivial⟩
variable {b : Nat}
theorem kStart_is {q : Rq} (hq : look s.rt i = some q) (hs : q.started = false) : kStart s i b = match (kAct { s with rt := rtS s.rt i } i b).2 with
    | none => ((kAct { s with rt := rtS s.rt i } i b).1, true)
    | some x => (kDec (kAct { s with rt := rtS s.rt i } i b).1.rt.length (kAct { s with rt := rtS s.rt i } i b).1 i x.1 x.2, true) := by
  unfold kStart
  rw [hq]
  dsimp only
  rw [if_neg (by rw [hs]; decide)]
  cases h : kAct { s with rt := rtS s.rt i } i b with
  | mk t o => cases o <;> rfl
theorem WellQ.started (h : WellQ Q s N M) (hN : N + 1 ≤ 90000) (i : ID) (b : Nat) : WellQ Q (kStart s i b).1 (N + 1) M := by
  unfold kStart
  split
  · exact h.more hN
  · split
    · exact h.more hN
    · have h1 := (h.start i).act hN i b
      cases hk : kAct { s with rt := rtS s.rt i } i b with
      | mk t o =>
        rw [hk] at h1
        cases o with
        | none => exact h1
        | some x => exact h1.dec _ _ _ _
def askId (s : KS) (g : Int) : ID := (g, kTakeV s g 1)
def askT1 (s : KS) (g : Int) (e : Sqe) : KS := { kTake s g 1 with rt := addQ (kTake s g 1).rt (rqN (askId s g) e) }
def kAskS (s : KS) (g : Int) (e : Sqe) (b : Nat) : KS := if addOk (kTake s g 1).rt (rqN (askId s g) e) = true then (kStart (askT1 s g e) (askId s g) b).1 else kTake s g 1
variable {e : Sqe}
theorem WellQ.askq (h : WellQ Q s N M) (hN : N + 1 ≤ 90000) (hM : M + 1 ≤ 90000) (g : Int) (he : SqeOk e ∧ Q e) (b : Nat) : WellQ Q (kAskS s g e b) (N + 1) (M + 1) := by
  unfold kAskS
  split
  · exact ((h.take g 1).addq hM (q := rqN (askId s g) e) he).started hN _ _
  · have h2 := (h.take g 1).more hN
    have hf := h2.fit
    exact ⟨⟨hf.n, hM, hf.ids, Nat.le_succ_of_le hf.jn, hf.tm, hf.ep, hf.nt, hf.rp, fun x hx => ⟨(hf.rg x hx).1, Nat.le_succ_of_le (hf.rg x hx).2⟩, hf.mem⟩, h2.q, h2.mp, h2.sl, h2.rg, h2.tree, h2.marks, h2.thr, h2.ent, h2.rtk⟩
theorem Well.ask (h : Well s N M) (hN : N + 1 ≤ 90000) (hM : M + 1 ≤ 90000) (g : Int) (he : SqeOk e) (b : Nat) : Well (kAskS s g e b) (N + 1) (M + 1) := WellQ.askq h hN hM g ⟨he, trivial⟩ b
theorem coStartG (hp : Pick (coA p s) l m) (hW : WellQ Q s N M) (hN : N + 2 ≤ 90000) (hM : M ≤ 45000) (hD : ∀ (q : Rq) (T : Th), look (rtS s.rt i) i = some q → DoesC { s with rt := rtS s.rt i } T q i) :
    Con Tryz.prog 20 #[.pointer (some ⟨p, 0, none⟩), .agg (encI i).toArray] E l (fun b : Nat => .bool (kStart s i b).2) (fun b => coA p (kStart s i b).1 :: m) := by
  refine Con.body (n := 40) Tryz.func20 Z Z _ (env_ok 2 Z) <| J_pick hp <| sr <| L_op <| x_box Z Z Z fun b3 => ag Z Z <| nq <| J_seq <| J_drawL none mixed <| ip 0 Z Z Z Z (p_move Z) <| iv 2 Z Z Z Z (fun _ => v_loadA Z ty36 HS CT) <| I_ready (rs := [1, 7]) SI (by kernel_rfl) (by simp) <| (I_cons Z ?_ (I_cons Z ?_ I_nil))
  refine xc fc16 (A1 Z) Z (coReqs) fun _ => I_ready (rs := [3, 7]) SI (by kernel_rfl) (by simp) <| (I_cons Z ?_ (I_cons Z ?_ I_nil))
  refine xc fc69 (A2 Z Z) Z (coRqGet (s := s) (i := i) PC) fun _ => ip 4 Z Z Z Z (p_move Z) <| ip 5 Z Z Z Z (p_extract Z Z) <| ip 6 Z Z Z Z (p_extract Z Z) <| i1 7 Z <| x_alloc ty122 Z fun b5 => i1 8 Z <| x_store Z Z ty122 Z SM SM RO PT <| ip 9 Z Z Z Z (p_assign Z) <| i0 <| Q_then <| J_seq <| sr <| mv Z Z <| L_pur Z (p_not Z) <| mv Z Z <| J_gsplit (t := 19) Z (fun h19 => ?_) (fun h19 => ?_)
  have hq : look s.rt i = none := by
    cases hq : look s.rt i with
    | none => rfl
    | some y => rw [hq] at h19; simp at h19
  have hks : ∀ b, kStart s i b = (s, false) := fun b => by unfold kStart; rw [hq]
  refine gz Z Z Z Z Z <| gz Z Z Z Z Z <| L_pur Z (p_pick_t Z Z) <| nq <| C_true Z <| sr <| ag Z Z <| nq <| J_ret <| Q_then_ret <| J_pick (A := coA p _) PC <| J_asTo (B := coA p (kStart s i 0).1) (by rw [hks]) <| J_return (0) Tryz.results20 (.tmp Z .nil) ?_ ?_
  · rw [hks]; rfl
  · exact SU
  obtain ⟨q, hq⟩ : ∃ x, look s.rt i = some x := by
    cases hq : look s.rt i with
    | none => rw [hq] at h19; simp at h19
    | some y => exact ⟨y, rfl⟩
  refine J_pick (A := blk b5 _ _) PC <| J_asTo (B := blk b5 122 (encQ q)) (by rw [hq]; rfl) <| gp Z Z Z (p_fieldAddr Z fa122_4) Z <| L_op <| G_on Z Z Z <| J_val (v_load Z ty4 HS (by exact rfl)) Z Z Z <| L_pur Z (p_pick_f Z Z) <| nq <| C_split Z (fun h22 => ?_) (fun h22 => ?_)
  have hks : ∀ b, kStart s i b = (s, false) := fun b => by unfold kStart; rw [hq]; exact if_pos h22
  refine sr <| ag Z Z <| nq <| J_ret <| Q_then_ret <| J_pick (A := coA p _) PC <| J_asTo (B := coA p (kStart s i 0).1) (by rw [hks]) <| J_return (0) Tryz.results20 (.tmp Z .nil) ?_ ?_
  · rw [hks]; rfl
  · exact SU
  have hst : q.started = false := by simpa using h22
  have hW1 := hW.start i
  refine J_skip <| Q_then <| J_seq <| J_drawL (some 3) mixed <| ip 0 Z Z Z Z (p_move Z) <| iv 2 Z Z Z Z (fun _ => v_loadA Z ty36 HS CT) <| i1 1 Z <| xc fc16 (A1 Z) Z (coReqs) fun _ => i1 3 Z <| xc fc70 (A2 Z Z) Z (coRqStart (s := s) (i := i) PC) fun _ => i0 <| Q_then <| J_seq <| sr <| mv Z Z <| L_val Z (v_loadA Z ty36 HS CT) <| xo fc71 (A2 Z Z) Z (coActG (s := { s with rt := rtS s.rt i }) (i := i) PC (hW1.good (by omega) hM) hD) fun x30 => ?_
  have hF2 : Fits (kAct { s with rt := rtS s.rt i } i x30).1 (N + 1) M := (hW1.act (by omega) i x30).fit
  have hki := kStart_is (b := x30) hq hst
  refine mv Z Z <| L_pur Z (p_extract Z Z) <| L_pur Z (p_extract Z Z) <| L_pur Z (p_extract Z Z) <| ag Z Z <| ag Z Z <| ag Z Z <| nx <| mv Z Z <| nq <| C_split Z (fun h34 => ?_) (fun h34 => ?_)
  obtain ⟨o, ho⟩ : ∃ o, (kAct { s with rt := rtS s.rt i } i x30).2 = some o := Option.isSome_iff_exists.1 h34
  rw [ho] at hki
  refine J_slot (t := 7) (v := .int .i64 o.1) Z (by rw [ho]; rfl) <| J_slot (t := 8) (v := .int .u32 o.2) Z (by rw [ho]; rfl) <| J_region <| mv Z Z <| L_val Z (v_loadA Z ty36 HS CT) <| mv Z Z <| mv Z Z <| xo fc72 (A4 Z Z Z Z) Z (coDecide (s := (kAct { s with rt := rtS s.rt i } i x30).1) (i := i) (r := o.1) (v := o.2) PC hF2) fun _ => nx <| ag Z Z <| nq <| J_ret <| J_pick (A := coA p _) PC <| J_asTo (B := coA p (kStart s i x30).1) (by rw [hki]) <| J_return (x30) Tryz.results20 (.tmp Z .nil) ?_ ?_
  · rw [hki]; rfl
  · exact SU
  have ho : (kAct { s with rt := rtS s.rt i } i x30).2 = none := by
    cases ho : (kAct { s with rt := rtS s.rt i } i x30).2 with
    | none => rfl
    | some y => rw [ho] at h34; cases h34
  rw [ho] at hki
  refine J_skip <| qx <| ag Z Z <| nq <| J_ret <| J_pick (A := coA p _) PC <| J_asTo (B := coA p (kStart s i x30).1) (by rw [hki]) <| J_return (x30) Tryz.results20 (.tmp Z .nil) ?_ ?_
  · rw [hki]; rfl
  · exact SU
  refine x_alloc ty122 Z fun b5 => i1 3 Z <| xc fc69 (A2 Z Z) Z (coRqGet (s := s) (i := i) PC) fun _ => ip 4 Z Z Z Z (p_move Z) <| ip 5 Z Z Z Z (p_extract Z Z) <| ip 6 Z Z Z Z (p_extract Z Z) <| i1 8 Z <| x_store Z Z ty122 Z SM SM RO PT <| ip 9 Z Z Z Z (p_assign Z) <| i0 <| Q_then <| J_seq <| sr <| mv Z Z <| L_pur Z (p_not Z) <| mv Z Z <| J_gsplit (t := 19) Z (fun h19 => ?_) (fun h19 => ?_)
  have hq : look s.rt i = none := by
    cases hq : look s.rt i with
    | none => rfl
    | some y => rw [hq] at h19; simp at h19
  have hks : ∀ b, kStart s i b = (s, false) := fun b => by unfold kStart; rw [hq]
  refine gz Z Z Z Z Z <| gz Z Z Z Z Z <| L_pur Z (p_pick_t Z Z) <| nq <| C_true Z <| sr <| ag Z Z <| nq <| J_ret <| Q_then_ret <| J_pick (A := coA p _) PC <| J_asTo (B := coA p (kStart s i 0).1) (by rw [hks]) <| J_return (0) Tryz.results20 (.tmp Z .nil) ?_ ?_
  · rw [hks]; rfl
  · exact SU
  obtain ⟨q, hq⟩ : ∃ x, look s.rt i = some x := by
    cases hq : look s.rt i with
    | none => rw [hq] at h19; simp at h19
    | some y => exact ⟨y, rfl⟩
  refine J_pick (A := blk b5 _ _) PC <| J_asTo (B := blk b5 122 (encQ q)) (by rw [hq]; rfl) <| gp Z Z Z (p_fieldAddr Z fa122_4) Z <| L_op <| G_on Z Z Z <| J_val (v_load Z ty4 HS (by exact rfl)) Z Z Z <| L_pur Z (p_pick_f Z Z) <| nq <| C_split Z (fun h22 => ?_) (fun h22 => ?_)
  have hks : ∀ b, kStart s i b = (s, false) := fun b => by unfold kStart; rw [hq]; exact if_pos h22
  refine sr <| ag Z Z <| nq <| J_ret <| Q_then_ret <| J_pick (A := coA p _) PC <| J_asTo (B := coA p (kStart s i 0).1) (by rw [hks]) <| J_return (0) Tryz.results20 (.tmp Z .nil) ?_ ?_
  · rw [hks]; rfl
  · exact SU
  have hst : q.started = false := by simpa using h22
  have hW1 := hW.start i
  refine J_skip <| Q_then <| J_seq <| J_drawL (some 3) mixed <| ip 0 Z Z Z Z (p_move Z) <| iv 2 Z Z Z Z (fun _ => v_loadA Z ty36 HS CT) <| i1 1 Z <| xc fc16 (A1 Z) Z (coReqs) fun _ => i1 3 Z <| xc fc70 (A2 Z Z) Z (coRqStart (s := s) (i := i) PC) fun _ => i0 <| Q_then <| J_seq <| sr <| mv Z Z <| L_val Z (v_loadA Z ty36 HS CT) <| xo fc71 (A2 Z Z) Z (coActG (s := { s with rt := rtS s.rt i }) (i := i) PC (hW1.good (by omega) hM) hD) fun x30 => ?_
  have hF2 : Fits (kAct { s with rt := rtS s.rt i } i x30).1 (N + 1) M := (hW1.act (by omega) i x30).fit
  have hki := kStart_is (b := x30) hq hst
  refine mv Z Z <| L_pur Z (p_extract Z Z) <| L_pur Z (p_extract Z Z) <| L_pur Z (p_extract Z Z) <| ag Z Z <| ag Z Z <| ag Z Z <| nx <| mv Z Z <| nq <| C_split Z (fun h34 => ?_) (fun h34 => ?_)
  obtain ⟨o, ho⟩ : ∃ o, (kAct { s with rt := rtS s.rt i } i x30).2 = some o := Option.isSome_iff_exists.1 h34
  rw [ho] at hki
  refine J_slot (t := 7) (v := .int .i64 o.1) Z (by rw [ho]; rfl) <| J_slot (t := 8) (v := .int .u32 o.2) Z (by rw [ho]; rfl) <| J_region <| mv Z Z <| L_val Z (v_loadA Z ty36 HS CT) <| mv Z Z <| mv Z Z <| xo fc72 (A4 Z Z Z Z) Z (coDecide (s := (kAct { s with rt := rtS s.rt i } i x30).1) (i := i) (r := o.1) (v := o.2) PC hF2) fun _ => nx <| ag Z Z <| nq <| J_ret <| J_pick (A := coA p _) PC <| J_asTo (B := coA p (kStart s i x30).1) (by rw [hki]) <| J_return (x30) Tryz.results20 (.tmp Z .nil) ?_ ?_
  · rw [hki]; rfl
  · exact SU
  have ho : (kAct { s with rt := rtS s.rt i } i x30).2 = none := by
    cases ho : (kAct { s with rt := rtS s.rt i } i x30).2 with
    | none => rfl
    | some y => rw [ho] at h34; cases h34
  rw [ho] at hki
  refine J_skip <| qx <| ag Z Z <| nq <| J_ret <| J_pick (A := coA p _) PC <| J_asTo (B := coA p (kStart s i x30).1) (by rw [hki]) <| J_return (x30) Tryz.results20 (.tmp Z .nil) ?_ ?_
  · rw [hki]; rfl
  · exact SU
  refine x_alloc ty122 Z fun b5 => i1 1 Z <| xc fc16 (A1 Z) Z (coReqs) fun _ => i1 3 Z <| xc fc69 (A2 Z Z) Z (coRqGet (s := s) (i := i) PC) fun _ => ip 4 Z Z Z Z (p_move Z) <| ip 5 Z Z Z Z (p_extract Z Z) <| ip 6 Z Z Z Z (p_extract Z Z) <| i1 8 Z <| x_store Z Z ty122 Z SM SM RO PT <| ip 9 Z Z Z Z (p_assign Z) <| i0 <| Q_then <| J_seq <| sr <| mv Z Z <| L_pur Z (p_not Z) <| mv Z Z <| J_gsplit (t := 19) Z (fun h19 => ?_) (fun h19 => ?_)
  have hq : look s.rt i = none := by
    cases hq : look s.rt i with
    | none => rfl
    | some y => rw [hq] at h19; simp at h19
  have hks : ∀ b, kStart s i b = (s, false) := fun b => by unfold kStart; rw [hq]
  refine gz Z Z Z Z Z <| gz Z Z Z Z Z <| L_pur Z (p_pick_t Z Z) <| nq <| C_true Z <| sr <| ag Z Z <| nq <| J_ret <| Q_then_ret <| J_pick (A := coA p _) PC <| J_asTo (B := coA p (kStart s i 0).1) (by rw [hks]) <| J_return (0) Tryz.results20 (.tmp Z .nil) ?_ ?_
  · rw [hks]; rfl
  · exact SU
  obtain ⟨q, hq⟩ : ∃ x, look s.rt i = some x := by
    cases hq : look s.rt i with
    | none => rw [hq] at h19; simp at h19
    | some y => exact ⟨y, rfl⟩
  refine J_pick (A := blk b5 _ _) PC <| J_asTo (B := blk b5 122 (encQ q)) (by rw [hq]; rfl) <| gp Z Z Z (p_fieldAddr Z fa122_4) Z <| L_op <| G_on Z Z Z <| J_val (v_load Z ty4 HS (by exact rfl)) Z Z Z <| L_pur Z (p_pick_f Z Z) <| nq <| C_split Z (fun h22 => ?_) (fun h22 => ?_)
  have hks : ∀ b, kStart s i b = (s, false) := fun b => by unfold kStart; rw [hq]; exact if_pos h22
  refine sr <| ag Z Z <| nq <| J_ret <| Q_then_ret <| J_pick (A := coA p _) PC <| J_asTo (B := coA p (kStart s i 0).1) (by rw [hks]) <| J_return (0) Tryz.results20 (.tmp Z .nil) ?_ ?_
  · rw [hks]; rfl
  · exact SU
  have hst : q.started = false := by simpa using h22
  have hW1 := hW.start i
  refine J_skip <| Q_then <| J_seq <| J_drawL (some 3) mixed <| ip 0 Z Z Z Z (p_move Z) <| iv 2 Z Z Z Z (fun _ => v_loadA Z ty36 HS CT) <| i1 1 Z <| xc fc16 (A1 Z) Z (coReqs) fun _ => i1 3 Z <| xc fc70 (A2 Z Z) Z (coRqStart (s := s) (i := i) PC) fun _ => i0 <| Q_then <| J_seq <| sr <| mv Z Z <| L_val Z (v_loadA Z ty36 HS CT) <| xo fc71 (A2 Z Z) Z (coActG (s := { s with rt := rtS s.rt i }) (i := i) PC (hW1.good (by omega) hM) hD) fun x30 => ?_
  have hF2 : Fits (kAct { s with rt := rtS s.rt i } i x30).1 (N + 1) M := (hW1.act (by omega) i x30).fit
  have hki := kStart_is (b := x30) hq hst
  refine mv Z Z <| L_pur Z (p_extract Z Z) <| L_pur Z (p_extract Z Z) <| L_pur Z (p_extract Z Z) <| ag Z Z <| ag Z Z <| ag Z Z <| nx <| mv Z Z <| nq <| C_split Z (fun h34 => ?_) (fun h34 => ?_)
  obtain ⟨o, ho⟩ : ∃ o, (kAct { s with rt := rtS s.rt i } i x30).2 = some o := Option.isSome_iff_exists.1 h34
  rw [ho] at hki
  refine J_slot (t := 7) (v := .int .i64 o.1) Z (by rw [ho]; rfl) <| J_slot (t := 8) (v := .int .u32 o.2) Z (by rw [ho]; rfl) <| J_region <| mv Z Z <| L_val Z (v_loadA Z ty36 HS CT) <| mv Z Z <| mv Z Z <| xo fc72 (A4 Z Z Z Z) Z (coDecide (s := (kAct { s with rt := rtS s.rt i } i x30).1) (i := i) (r := o.1) (v := o.2) PC hF2) fun _ => nx <| ag Z Z <| nq <| J_ret <| J_pick (A := coA p _) PC <| J_asTo (B := coA p (kStart s i x30).1) (by rw [hki]) <| J_return (x30) Tryz.results20 (.tmp Z .nil) ?_ ?_
  · rw [hki]; rfl
  · exact SU
  have ho : (kAct { s with rt := rtS s.rt i } i x30).2 = none := by
    cases ho : (kAct { s with rt := rtS s.rt i } i x30).2 with
    | none => rfl
    | some y => rw [ho] at h34; cases h34
  rw [ho] at hki
  refine J_skip <| qx <| ag Z Z <| nq <| J_ret <| J_pick (A := coA p _) PC <| J_asTo (B := coA p (kStart s i x30).1) (by rw [hki]) <| J_return (x30) Tryz.results20 (.tmp Z .nil) ?_ ?_
  · rw [hki]; rfl
  · exact SU
/-! ### plain: what an entry's doing leaves of deadlines, requests, the journal -/
structure Ebb (s t : KS) : Prop where
  tm : t.tm.Sublist s.tm := by exact List.Sublist.refl _
  rt : t.rt.Sublist s.rt := by exact List.Sublist.refl _
  jn : s.jn <+: t.jn := by exact List.prefix_refl _
  tk : t.tk = s.tk := by rfl
  be : t.be = s.be := by rfl
  now : t.now = s.now := by rfl
  cf : (t.ct, t.cu, t.cs, t.cc, t.sh) = (s.ct, s.cu, s.cs, s.cc, s.sh) := by rfl
theorem Ebb.refl (s : KS) : Ebb s s := {}
theorem Ebb.trans {s t u : KS} (h : Ebb s t) (g : Ebb t u) : Ebb s u := ⟨g.tm.trans h.tm, g.rt.trans h.rt, h.jn.trans g.jn, g.tk.trans h.tk, g.be.trans h.be, g.now.trans h.now, g.cf.trans h.cf⟩
theorem Ebb.said (s : KS) (d : Deed) : Ebb s (kSaid s d) := by
  unfold kSaid kPost
  split <;> exact { jn := List.prefix_append _ _ }
theorem Ebb.tell {D : KS → ID → Int → Int → KS} (hD : ∀ s i r v, Ebb s (D s i r v)) (s : KS) (d : Deed) : Ebb s (kTell D s d) := by
  unfold kTell
  split
  · exact .said s d
  · split
    · exact (Ebb.said s d).trans (Ebb.trans (t := kRung (kSaid s d) d.1.1) {} (hD _ _ _ _))
    · exact (Ebb.said s d).trans {}
theorem Ebb.gone1 (s : KS) (i : ID) : Ebb s (kForget { s with rt := del s.rt i } i) := { tm := List.filter_sublist, rt := List.filter_sublist }
theorem Ebb.dec : ∀ n (s : KS) (i : ID) (r v : Int), Ebb s (kDec n s i r v)
  | 0, s, _, _, _ => .refl s
  | n + 1, s, i, r, v => by
    cases hq : look s.rt i with
    | none => rw [kDec_none hq]; exact .refl s
    | some q =>
      rw [kDec_some hq]
      have h := (Ebb.gone1 s i).trans (Ebb.tell (D := kDec n) (fun s i r v => Ebb.dec n s i r v) _ (i, q.e.tag, q.e.op, r, v, false))
      unfold kNext
      split
      · exact h
      · split
        · exact h.trans (Ebb.dec n _ _ _ _)
        · exact h
theorem Ebb.ends : ∀ (l : List ID) (s : KS), Ebb s (kEnds s l)
  | [], s => .refl s
  | i :: l, s => (Ebb.dec _ _ _ _ _).trans (Ebb.ends l _)
theorem Ebb.gone (s : KS) (k u : Int) : Ebb s (kGone s k u) := by
  unfold kGone
  (repeat' split) <;> exact {}
theorem Ebb.tearL : ∀ (l : List Rq) (s : KS), Ebb s (kTearL s l)
  | [], s => .refl s
  | q :: l, s => ((Ebb.gone1 s q.id).trans (t := kForget { s with rt := del s.rt q.id } q.id) (u := kTear1 s q) { jn := List.prefix_append _ _ }).trans (Ebb.tearL l (kTear1 s q))
theorem Ebb.tear (s : KS) (g : Int) : Ebb s (kTear s g) := by
  unfold kTear
  split
  · exact (Ebb.tearL _ s).trans (Ebb.trans (t := kCleared (kTearL s (ofQ s.rt g)) g) {} (Ebb.gone _ _ _))
  · exact .refl s
theorem Ebb.torn (u : Int) : ∀ (l : List Int) (s : KS), Ebb s (kTorn s u l)
  | [], s => .refl s
  | g :: l, s => by
    refine Ebb.trans (t := tornStep u s g) ?_ (Ebb.torn u l _)
    unfold tornStep
    split
    · exact .refl s
    · split
      · exact .tear s g
      · exact .refl s
theorem Ebb.destroy (s : KS) (o : Obj2) : Ebb s (kDestroy s o) := by
  unfold kDestroy
  refine Ebb.trans ?_ (Ebb.gone _ _ _)
  split
  · exact (Ebb.ends _ _).trans (Ebb.torn _ _ _)
  · split
    · exact (Ebb.ends _ _).trans (Ebb.tear _ _)
    · exact .ends _ _
theorem Ebb.destroyL : ∀ (l : List Obj2) (s : KS), Ebb s (kDestroyL s l)
  | [], s => .refl s
  | o :: l, s => (Ebb.destroy s o).trans (Ebb.destroyL l _)
theorem Ebb.two {F : Place → Place → KS × Int} (hF : ∀ x y, Ebb s (F x y).1) (o : Option (Place × Place)) : Ebb s (twoS s F o).1 := by
  cases o with
  | none => exact .refl s
  | some x => exact hF _ _
theorem Ebb.kill {F : Place → (List (Place × SV) × List Obj2) × Int} (o : Option Place) : Ebb s (killS s F o).1 := by
  cases o with
  | none => exact .refl s
  | some x => exact Ebb.trans (t := { s with sl := (F x).1.1 }) {} (Ebb.destroyL _ _)
theorem Ebb.slots (s : KS) (T : Th) (e : Sqe) : Ebb s (kSlots s T e).1 := by
  unfold kSlots
  split
  · exact .two (fun _ _ => {}) _
  · split
    · exact .two (fun _ _ => {}) _
    · split
      · exact .two (fun _ _ => {}) _
      · split
        · exact .kill _
        · exact .kill _
theorem Ebb.made (s : KS) (c : Cap) (b : Nat) : Ebb s (kMade s c b) := by
  unfold kMade
  (repeat' split) <;> exact {}
theorem Ebb.ret (s : KS) (T : Th) (e : Sqe) (b : Nat) : Ebb s (kRetS s T e b) := by
  have h : Ebb s (twoS s (retF s e) (twoAt s T e)).1 := .two (fun _ _ => {}) _
  unfold kRetS
  split
  · exact h.trans (.made _ _ _)
  · exact h
theorem Ebb.maps (s : KS) (T : Th) (e : Sqe) : Ebb s (kMaps s T e).1 := by
  unfold kMaps
  (repeat' split) <;> exact {}
theorem Ebb.unmap (s : KS) (T : Th) (e : Sqe) : Ebb s (kUnmap s T e).1 := by
  unfold kUnmap
  (repeat' split) <;> exact {}
theorem Ebb.thrs (s : KS) (T : Th) (e : Sqe) : Ebb s (kThreads s T e).1 := by
  unfold kThreads
  split
  · exact {}
  · split
    · exact {}
    · show Ebb s (kThr s e _).1
      unfold kThr kStop kGo
      (repeat' split) <;> exact {}
theorem Ebb.bind (s : KS) (u : Int) (j : ID) : Ebb s (kBind s u j) := by
  unfold kBind
  split
  · exact {}
  · split
    · exact Ebb.trans (t := { s with rp := updO s.rp u (fun _ => (j, true)) }) {} (.dec _ _ _ _ _)
    · exact {}
theorem Ebb.sends (s : KS) (T : Th) (e : Sqe) (i : ID) (call : Bool) : Ebb s (kSends s T e i call).1 := by
  unfold kSends
  generalize (if call = true then (6 : Int) else 2) = r
  split
  · exact {}
  · unfold kSend1
    split
    · exact {}
    · rename_i y _
      obtain ⟨yb, yo, yi⟩ := y
      have h1 : Ebb s { s with ep := updO s.ep (mayS s T e 4 r).1.obj (sendE (i, e.a, (mayS s T e 4 r).1.badge, call)) } := {}
      cases yi with
      | nil => exact h1
      | cons z zs =>
        refine h1.trans ?_
        show Ebb _ (kSend3 _ _ _ _).1
        unfold kSend3
        split
        · exact .dec _ _ _ _ _
        · split
          · exact .dec _ _ _ _ _
          · exact (Ebb.dec _ _ _ _ _).trans (.bind _ _ _)
theorem Ebb.recv1 (s : KS) (c : Cap) (u : Int) (i : ID) : Ebb s (kRecv1 s c u i).1 := by
  unfold kRecv1
  split
  · exact {}
  · rename_i y _
    obtain ⟨yb, yo, yi⟩ := y
    have h1 : Ebb s { s with ep := updO s.ep c.obj (recvE (i, u)) } := {}
    cases yo with
    | nil => exact h1
    | cons z zs =>
      refine h1.trans ?_
      show Ebb _ (kMet _ _ _)
      unfold kMet
      split
      · split
        · exact .dec _ _ _ _ _
        · exact .bind _ _ _
      · exact .dec _ _ _ _ _
theorem Ebb.recvs (s : KS) (T : Th) (e : Sqe) (i : ID) : Ebb s (kRecvs s T e i).1 := by
  unfold kRecvs
  (repeat' split) <;> first | exact {} | exact .recv1 _ _ _ _
theorem Ebb.answers (s : KS) (T : Th) (e : Sqe) : Ebb s (kAnswers s T e).1 := by
  unfold kAnswers
  (repeat' split) <;> first | exact {} | exact Ebb.trans (t := { s with rp := _ }) {} (.dec _ _ _ _ _)
theorem Ebb.signals (s : KS) (T : Th) (e : Sqe) : Ebb s (kSignals s T e).1 := by
  unfold kSignals
  split
  · exact {}
  · split
    · exact {}
    · dsimp only
      split
      · exact Ebb.trans (t := { s with nt := _ }) {} (.dec _ _ _ _ _)
      · exact {}
theorem Ebb.nwaits (s : KS) (T : Th) (e : Sqe) (i : ID) : Ebb s (kNWaits s T e i).1 := by
  unfold kNWaits
  (repeat' split) <;> exact {}
theorem Ebb.cancels (s : KS) (e : Sqe) (i : ID) : Ebb s (kCancels s e i).1 := by
  unfold kCancels
  split
  · exact {}
  · exact .dec _ _ _ _ _
theorem eif {c : Prop} [Decidable c] {x y : KS × Out} (h1 : Ebb s x.1) (h2 : Ebb s y.1) : Ebb s (if c then x else y).1 := by
  by_cases h : c
  · rw [if_pos h]; exact h1
  · rw [if_neg h]; exact h2
theorem Ebb.does (s : KS) (T : Th) (q : Rq) (i : ID) (b : Nat) : Ebb s (kDoes s T q i b).1 :=
  eif {} <| eif (.slots _ _ _) <| eif (.ret _ _ _ _) <| eif (.maps _ _ _) <| eif (.unmap _ _ _) <| eif (.sends _ _ _ _ _) <| eif (.recvs _ _ _ _) <| eif (.answers _ _ _) <| eif (.signals _ _ _) <| eif (.nwaits _ _ _ _) <| eif (.thrs _ _ _) <| eif {} <| eif (.cancels _ _ _) {}
theorem Ebb.act (s : KS) (i : ID) (b : Nat) : Ebb s (kAct s i b).1 := by
  unfold kAct
  split
  · exact {}
  · split
    · exact {}
    · exact .does _ _ _ _ _
theorem Ebb.start (s : KS) (i : ID) (b : Nat) : ∃ r, (r = s.rt ∨ r = rtS s.rt i) ∧ Ebb { s with rt := r } (kStart s i b).1 := by
  unfold kStart
  split
  · exact ⟨s.rt, .inl rfl, .refl s⟩
  · split
    · exact ⟨s.rt, .inl rfl, .refl s⟩
    · refine ⟨rtS s.rt i, .inr rfl, ?_⟩
      have h1 := Ebb.act { s with rt := rtS s.rt i } i b
      cases hk : kAct { s with rt := rtS s.rt i } i b with
      | mk t o =>
        rw [hk] at h1
        cases o with
        | none => exact h1
        | some x => exact h1.trans (.dec _ _ _ _ _)
theorem start_tk (s : KS) (i : ID) (b : Nat) : (kStart s i b).1.tk = s.tk ∧ (kStart s i b).1.tm.Sublist s.tm := by
  obtain ⟨r, _, h⟩ := Ebb.start s i b
  exact ⟨h.tk, h.tm⟩
variable {Q : Sqe → Prop}
theorem WellQ.tell {s : KS} {N M : Nat} (h : WellQ Q s N M) (hM : M + 1 ≤ 90000) (n : Nat) (d : Deed) : WellQ Q (kTell (kDec n) s d) N (M + 1) := by
  have hf := h.fit
  have h2 : WellQ Q s N (M + 1) := ⟨⟨hf.n, hM, hf.ids, Nat.le_succ_of_le hf.jn, hf.tm, hf.ep, hf.nt, hf.rp, fun x hx => ⟨(hf.rg x hx).1, Nat.le_succ_of_le (hf.rg x hx).2⟩, hf.mem⟩, h.q, h.mp, h.sl, h.rg, h.tree, h.marks, h.thr, h.ent, h.rtk⟩
  have hk := Kept.tell (D := kDec n) (fun s i r v => Kept.dec n s i r v) s d
  exact h2.ended (hf.tell (D := kDec n) (fun s i r v h => Fits.dec n h) hM d).1 (by rw [hk.q]; exact Nat.le_refl _) (by rw [hk.mp]; exact Nat.le_refl _) hk.sl hk.mr (by rw [tell_th (fun s i r v => dec_th n s i r v)]; exact List.Sublist.refl _) (by rw [tell_rglen (fun s i r v => dec_rglen n s i r v)]; exact Nat.le_refl _) (Ebb.tell (fun s i r v => Ebb.dec n s i r v) s d).rt
variable {r : Rg}
theorem coRgWait (hp : Pick (coA p s) l m) (hl : look s.rg u = some (b, r)) (hR : RgOk r) (hM : MemOk s.mem) :
  Con Tryz.prog 46 #[.pointer (some ⟨b, 0, none⟩)] E l (fun _ : Unit => .tuple #[.int .i64 (rgWait r s.mem), .bool (rgWaitOk r s.mem)]) (fun _ => coA p s :: m) := by
 refine J_con0 ?_
 obtain ⟨j, hj⟩ := look_ix hl
 have hjl := (List.getElem?_eq_some_iff.1 hj).1
 refine J_pick hp <| J_coO fun bn be br bg bt bs bp bl bk _ => J_keyd (ps := ptrs s.rg) HS fun hK => J_pick (A := each (rgF s.mb) s.rg) PC <| J_eachOut hj ?_
 skip
 refine J_asTo (B := rgA b s.mb r) (by rfl) <| J_con (rgaWait (r := r) (ms := s.mem) PX hR hM) fun x => J_pick (A := rgA b s.mb r) PC <| J_asTo (B := (rgF s.mb) (u, b, r)) (by rfl) <| J_pick (A := each (rgF s.mb) _) PC <| J_pick (A := (rgF s.mb) (u, b, _)) PC <| J_eachIn (u, b, r) hjl ?_
 skip
 refine J_asTo (B := each (rgF s.mb) s.rg) (by rw [lset_same hj]) <| J_coS (p := p) (s := s) bn be br bg bt bs bp bl bk PX trivial ?_
 exact J_end SU
theorem coRgValid (hp : Pick (coA p s) l m) (hl : look s.rg u = some (b, r)) (hR : RgOk r) (hM : MemOk s.mem) :
  Con Tryz.prog 88 #[.pointer (some ⟨b, 0, none⟩)] E l (fun _ : Unit => .bool (rgValid r s.mem)) (fun _ => coA p s :: m) := by
 refine J_con0 ?_
 obtain ⟨j, hj⟩ := look_ix hl
 have hjl := (List.getElem?_eq_some_iff.1 hj).1
 refine J_pick hp <| J_coO fun bn be br bg bt bs bp bl bk _ => J_keyd (ps := ptrs s.rg) HS fun hK => J_pick (A := each (rgF s.mb) s.rg) PC <| J_eachOut hj ?_
 skip
 refine J_asTo (B := rgA b s.mb r) (by rfl) <| J_con (rgaValid (r := r) (ms := s.mem) PX hR hM) fun x => J_pick (A := rgA b s.mb r) PC <| J_asTo (B := (rgF s.mb) (u, b, r)) (by rfl) <| J_pick (A := each (rgF s.mb) _) PC <| J_pick (A := (rgF s.mb) (u, b, _)) PC <| J_eachIn (u, b, r) hjl ?_
 skip
 refine J_asTo (B := each (rgF s.mb) s.rg) (by rw [lset_same hj]) <| J_coS (p := p) (s := s) bn be br bg bt bs bp bl bk PX trivial ?_
 exact J_end SU
theorem coRgFetch (hp : Pick (coA p s) l m) (hl : look s.rg u = some (b, r)) (hR : RgOk r) (hM : MemOk s.mem) {i : Nat} (hi : i ≤ 1000) :
  Con Tryz.prog 135 #[.pointer (some ⟨b, 0, none⟩), .int .i64 (i : Int)] E l (fun x : Value => x) (fun x => row 5 1 x ((fetchB r s.mem i).map encU) :: coA p s :: m) := by
 refine J_con0 ?_
 obtain ⟨j, hj⟩ := look_ix hl
 have hjl := (List.getElem?_eq_some_iff.1 hj).1
 refine J_pick hp <| J_coO fun bn be br bg bt bs bp bl bk _ => J_keyd (ps := ptrs s.rg) HS fun hK => J_pick (A := each (rgF s.mb) s.rg) PC <| J_eachOut hj ?_
 skip
 refine J_asTo (B := rgA b s.mb r) (by rfl) <| J_con (rgaFetch (r := r) (ms := s.mem) (i := i) PX hi hR hM) fun x => J_pick (A := rgA b s.mb r) PC <| J_asTo (B := (rgF s.mb) (u, b, r)) (by rfl) <| J_pick (A := each (rgF s.mb) _) PC <| J_pick (A := (rgF s.mb) (u, b, _)) PC <| J_eachIn (u, b, r) hjl ?_
 skip
 refine J_asTo (B := each (rgF s.mb) s.rg) (by rw [lset_same hj]) <| J_coS (p := p) (s := s) bn be br bg bt bs bp bl bk PX trivial ?_
 exact J_end SU
theorem coRgTail (hp : Pick (coA p s) l m) (hl : look s.rg u = some (b, r)) :
  Con Tryz.prog 44 #[.pointer (some ⟨b, 0, none⟩)] E l (fun _ : Unit => .int .u32 r.tail) (fun _ => coA p s :: m) := by
 refine J_con0 ?_
 obtain ⟨j, hj⟩ := look_ix hl
 have hjl := (List.getElem?_eq_some_iff.1 hj).1
 refine J_pick hp <| J_coO fun bn be br bg bt bs bp bl bk _ => J_keyd (ps := ptrs s.rg) HS fun hK => J_pick (A := each (rgF s.mb) s.rg) PC <| J_eachOut hj ?_
 skip
 refine J_asTo (B := rgA b s.mb r) (by rfl) <| J_con (ringTail (r := r) PC) fun x => J_pick (A := rgA b s.mb r) PC <| J_asTo (B := (rgF s.mb) (u, b, r)) (by rfl) <| J_pick (A := each (rgF s.mb) _) PC <| J_pick (A := (rgF s.mb) (u, b, _)) PC <| J_eachIn (u, b, r) hjl ?_
 skip
 refine J_asTo (B := each (rgF s.mb) s.rg) (by rw [lset_same hj]) <| J_coS (p := p) (s := s) bn be br bg bt bs bp bl bk PX trivial ?_
 exact J_end SU
theorem coRgOver (hp : Pick (coA p s) l m) (hl : look s.rg u = some (b, r)) (hb : r.over.length ≤ 100000) :
  Con Tryz.prog 48 #[.pointer (some ⟨b, 0, none⟩)] E l (fun x : Value => x) (fun x => row 93 4 x (r.over.map encX) :: coA p s :: m) := by
 refine J_con0 ?_
 obtain ⟨j, hj⟩ := look_ix hl
 have hjl := (List.getElem?_eq_some_iff.1 hj).1
 refine J_pick hp <| J_coO fun bn be br bg bt bs bp bl bk _ => J_keyd (ps := ptrs s.rg) HS fun hK => J_pick (A := each (rgF s.mb) s.rg) PC <| J_eachOut hj ?_
 skip
 refine J_asTo (B := rgA b s.mb r) (by rfl) <| J_con (rgaOver (r := r) PC hb) fun x => J_pick (A := rgA b s.mb r) PC <| J_asTo (B := (rgF s.mb) (u, b, r)) (by rfl) <| J_pick (A := each (rgF s.mb) _) PC <| J_pick (A := (rgF s.mb) (u, b, _)) PC <| J_eachIn (u, b, r) hjl ?_
 skip
 refine J_asTo (B := each (rgF s.mb) s.rg) (by rw [lset_same hj]) <| J_coS (p := p) (s := s) bn be br bg bt bs bp bl bk PX trivial ?_
 exact J_end SU
variable {n : Int}
theorem coRgAdv (hp : Pick (coA p s) l m) (hl : look s.rg u = some (b, r)) (hR : RgOk r) (hM : MemOk s.mem) :
  Con Tryz.prog 136 #[.pointer (some ⟨b, 0, none⟩), .int .i64 n] E l (fun _ : Unit => .tuple #[]) (fun _ => coA p { s with rg := updO s.rg u (fun r => advR r n), mem := advM r s.mem n } :: m) := by
 refine J_con0 ?_
 obtain ⟨j, hj⟩ := look_ix hl
 have hjl := (List.getElem?_eq_some_iff.1 hj).1
 refine J_pick hp <| J_coO fun bn be br bg bt bs bp bl bk _ => J_keyd (ps := ptrs s.rg) HS fun hK => J_pick (A := each (rgF s.mb) s.rg) PC <| J_eachOut hj ?_
 skip
 refine J_asTo (B := rgA b s.mb r) (by rfl) <| J_con (rgaAdv (r := r) (ms := s.mem) (n := n) PX hR hM) fun x => J_pick (A := rgA b s.mb (advR r n)) PC <| J_asTo (B := (rgF s.mb) (u, b, ((fun r => advR r n)) (r))) (by rfl) <| J_pick (A := each (rgF s.mb) _) PC <| J_pick (A := (rgF s.mb) (u, b, _)) PC <| J_eachIn (u, b, ((fun r => advR r n)) (r)) hjl ?_
 skip
 refine J_asTo (B := each (rgF s.mb) (updO s.rg u (fun r => advR r n))) (by rw [updO_set hK hj]) <| J_pick (A := mapV kZ evA (.map (some bg)) (ptrs s.rg)) PC <| J_mapEq (qs := ptrs (updO s.rg u (fun r => advR r n))) ptrs_updO.symm <| J_coS (p := p) (s := { s with rg := updO s.rg u (fun r => advR r n), mem := advM r s.mem n }) bn be br bg bt bs bp bl bk PX trivial ?_
 exact J_end SU
theorem coRgFlush (hp : Pick (coA p s) l m) (hl : look s.rg u = some (b, r)) (hR : RgOk r) (hM : MemOk s.mem) (hb : r.over.length ≤ 100000) :
  Con Tryz.prog 89 #[.pointer (some ⟨b, 0, none⟩)] E l (fun x : Nat => .int .i64 (x : Int)) (fun x => coA p { s with rg := updO s.rg u (fun r => (flushR r s.mem).1), mem := (flushR r s.mem).2 } :: m) := by
 refine J_con0 ?_
 obtain ⟨j, hj⟩ := look_ix hl
 have hjl := (List.getElem?_eq_some_iff.1 hj).1
 refine J_pick hp <| J_coO fun bn be br bg bt bs bp bl bk _ => J_keyd (ps := ptrs s.rg) HS fun hK => J_pick (A := each (rgF s.mb) s.rg) PC <| J_eachOut hj ?_
 skip
 refine J_asTo (B := rgA b s.mb r) (by rfl) <| J_con (rgaFlush (r := r) (ms := s.mem) PX hb hR hM) fun x => J_pick (A := rgA b s.mb (flushR r s.mem).1) PC <| J_asTo (B := (rgF s.mb) (u, b, ((fun r => (flushR r s.mem).1)) (r))) (by rfl) <| J_pick (A := each (rgF s.mb) _) PC <| J_pick (A := (rgF s.mb) (u, b, _)) PC <| J_eachIn (u, b, ((fun r => (flushR r s.mem).1)) (r)) hjl ?_
 skip
 refine J_asTo (B := each (rgF s.mb) (updO s.rg u (fun r => (flushR r s.mem).1))) (by rw [updO_set hK hj]) <| J_pick (A := mapV kZ evA (.map (some bg)) (ptrs s.rg)) PC <| J_mapEq (qs := ptrs (updO s.rg u (fun r => (flushR r s.mem).1))) ptrs_updO.symm <| J_coS (p := p) (s := { s with rg := updO s.rg u (fun r => (flushR r s.mem).1), mem := (flushR r s.mem).2 }) bn be br bg bt bs bp bl bk PX trivial ?_
 exact J_end SU
/-! ### plain: what hangs on what -/
def encSq (e : Sqe) : List Value := [.int .i64 e.op, .int .i64 e.flags, .int .u32 e.tag, .int .u32 e.cap, .int .u32 e.a, .int .u32 e.b, .int .u32 e.c, .int .u32 e.time]
def rightAt (gs : List Bool) (k : Int) : Bool := decide (0 ≤ k) && gs.getD k.toNat true
def prevP (first : Int) (p : Option Sqe) (k : Nat) : Int := match p with
  | none => 0
  | some d => if bits .and .i64 d.flags 3 ≠ 0 then first + k - 1 else 0
def softP (p : Option Sqe) : Bool := match p with
  | none => false
  | some d => decide (bits .and .i64 d.flags 1 ≠ 0)
def reqP (g first : Int) (p : Option Sqe) (k : Nat) (e : Sqe) : Rq := ⟨(g, first + k), e, prevP first p k, softP p, false⟩
def planP (g first : Int) : Option Sqe → Nat → List (Bool × Sqe) → List Rq
  | _, _, [] => []
  | p, k, z :: r => if z.1 = true then reqP g first p k z.2 :: planP g first (some z.2) (k + 1) r else planP g first none (k + 1) r
def nextP (z : Bool × Sqe) : Option Sqe := if z.1 = true then some z.2 else none
def lastP : Option Sqe → List (Bool × Sqe) → Option Sqe
  | p, [] => p
  | _, z :: r => lastP (nextP z) r
theorem lastP_snoc {z : Bool × Sqe} : ∀ (r : List (Bool × Sqe)) (p : Option Sqe), lastP p (r ++ [z]) = nextP z
  | [], _ => rfl
  | y :: r, _ => lastP_snoc r (nextP y)
theorem planP_snoc {g first : Int} {z : Bool × Sqe} : ∀ (r : List (Bool × Sqe)) (p : Option Sqe) (k : Nat), planP g first p k (r ++ [z]) = planP g first p k r ++ (if z.1 = true then [reqP g first (lastP p r) (k + r.length) z.2] else [])
  | [], p, k => by
    show planP g first p k [z] = _
    unfold planP planP
    split <;> rfl
  | y :: r, p, k => by
    rw [List.cons_append, planP, planP]
    by_cases h : y.1 = true
    · rw [if_pos h, if_pos h, planP_snoc r]
      simp only [lastP, nextP, if_pos h, List.cons_append, List.length_cons, Nat.add_assoc, Nat.add_comm 1]
    · rw [if_neg h, if_neg h, planP_snoc r]
      simp only [lastP, nextP, if_neg h, List.length_cons, Nat.add_assoc, Nat.add_comm 1]
theorem planP_len {g first : Int} : ∀ (r : List (Bool × Sqe)) (p : Option Sqe) (k : Nat), (planP g first p k r).length ≤ r.length
  | [], _, _ => Nat.le_refl _
  | y :: r, p, k => by
    rw [planP]
    split
    · exact Nat.succ_le_succ (planP_len r _ _)
    · exact Nat.le_succ_of_le (planP_len r _ _)
variable {zs : List (Bool × Sqe)} {k : Nat}
theorem rightAt_is {z : Bool × Sqe} (h : zs[k]? = some z) : rightAt (zs.map Prod.fst) (k : Int) = z.1 := by
  unfold rightAt
  rw [decide_eq_true (by omega), Int.toNat_natCast, List.getD_eq_getElem?_getD, List.getElem?_map, h]; rfl
theorem last_right (hk : k ≤ zs.length) : (rightAt (zs.map Prod.fst) ((k : Int) - 1) = true ∧ ∃ d, zs[((k : Int) - 1).toNat]? = some d ∧ 1 ≤ k ∧ lastP none (zs.take k) = some d.2) ∨ (rightAt (zs.map Prod.fst) ((k : Int) - 1) = false ∧ lastP none (zs.take k) = none) := by
  cases k with
  | zero => exact .inr ⟨rfl, rfl⟩
  | succ k =>
    obtain ⟨d, hd⟩ : ∃ d, zs[k]? = some d := ⟨_, List.getElem?_eq_getElem (by omega)⟩
    have e1 : ((k + 1 : Nat) : Int) - 1 = (k : Int) := by omega
    have e2 : lastP none (zs.take (k + 1)) = nextP d := by rw [List.take_add_one, hd]; exact lastP_snoc _ _
    rw [e1, rightAt_is hd, e2]
    cases h : d.1 with
    | true => exact .inl ⟨rfl, d, hd, by omega, if_pos h⟩
    | false => exact .inr ⟨rfl, if_neg (by rw [h]; decide)⟩
variable {v : Value}
theorem right {gs : List Bool} {k : Int} (hc : Has (blk b 71 [v]) l) (hr : ∀ w, Sep E w l → Reads w 1 v (gs.map fun b => [Value.bool b])) :
    Con Tryz.prog 198 #[.int .i64 k, .pointer (some ⟨b, 0, none⟩)] E l (fun _ : Unit => .bool (rightAt gs k)) (fun _ => l) := by
  refine Con.body (n := 18) Tryz.func198 Z Z _ (env_ok 2 Z) <| J_readsB hr fun hw a cap hv h1 h2 h3 => ?_
  subst hv
  have hm : cap ≤ 9223372036854775807 := h2
  have hml : (gs.map fun b => [Value.bool b]).length = gs.length := List.length_map _
  refine sr <| ag Z Z <| nx <| mv Z Z <| L_pur Z (p_geq Z Z) <| mv Z Z <| J_gsplit (t := 6) Z (fun h6 => ?_) (fun h6 => ?_)
  refine gp Z Z Z (p_move Z) Z <| L_op <| G_on Z Z Z <| J_val (v_load Z ty71 HS (by exact rfl)) Z Z Z <| gp Z Z Z (p_len Z Tryz.underlying71) Z <| gp Z Z Z (p_geq Z Z) Z <| L_op <| G_on Z Z Z <| J_pur (p_move Z) Z Z Z <| J_gsplit (t := 11) Z (fun h11 => ?_) (fun h11 => ?_)
  refine gz Z Z Z Z Z <| gz Z Z Z Z Z <| gz Z Z Z Z Z <| gz Z Z Z Z Z <| gp Z Z Z (p_pick_t Z Z) Z <| L_pur Z (p_pick_t Z Z) <| ag Z Z <| nq <| J_ret <| J_return (()) Tryz.results198 (.tmp Z .nil) ?_ ?_
  · show one _ = Value.bool (rightAt gs k)
    simp at h6 h11
    have e : gs[k.toNat]? = none := List.getElem?_eq_none (by omega)
    simp [one, rightAt, h6, List.getD, e]
  · exact SU
  simp at h6 h11
  have hlt : k.toNat < gs.length := by omega
  obtain ⟨bx, ox, rfl⟩ := h3 (by intro h; rw [h] at hml; simp at hml; omega)
  obtain ⟨c, hcc⟩ : ∃ c, gs[k.toNat]? = some c := ⟨_, List.getElem?_eq_getElem hlt⟩
  refine L_op <| G_on Z Z Z <| J_val (v_load Z ty71 HS (by exact rfl)) Z Z Z <| gp Z Z Z (p_move Z) Z <| gp Z Z Z (p_indexAddr Z Z Tryz.underlying71 ty4 (by omega) (by omega)) Z <| L_op <| G_on Z Z Z <| J_val (v_loadR1 Z ty4 (fun w H => hr w (Sub.sep SU H)) (by rw [List.getElem?_map, hcc]; rfl)) Z Z Z ?_
  refine gp Z Z Z (p_pick_f Z Z) Z <| L_pur Z (p_pick_t Z Z) <| ag Z Z <| nq <| J_ret <| J_return (()) Tryz.results198 (.tmp Z .nil) ?_ ?_
  · show one _ = Value.bool (rightAt gs k)
    simp [one, rightAt, h6, List.getD, hcc]
  · exact SU
  refine gz Z Z Z Z Z <| gz Z Z Z Z Z <| gz Z Z Z Z Z <| gz Z Z Z Z Z <| gz Z Z Z Z Z <| L_op <| G_offU Z Z Z Z Z <| L_op <| G_offU Z Z Z Z Z <| L_op <| G_offU Z Z Z Z Z <| L_op <| G_offU Z Z Z Z Z <| gz Z Z Z Z Z <| L_pur Z (p_pick_f Z Z) <| ag Z Z <| nq <| J_ret <| J_return (()) Tryz.results198 (.tmp Z .nil) ?_ ?_
  · show one _ = Value.bool (rightAt gs k)
    simp at h6
    unfold rightAt
    rw [decide_eq_false (by omega)]; rfl
  · exact SU
theorem planC {u : Value} {ring seq : Int} (hr : ∀ w, Sep E w l → Reads w 1 v ((zs.map Prod.fst).map fun b => [Value.bool b])) (hs : ∀ w, Sep E w l → Reads w 8 u ((zs.map Prod.snd).map encSq)) (he : zs.length ≤ 1000) (hq : 0 ≤ seq) (hq2 : seq ≤ 10000000000) :
  Con Tryz.prog 138 #[.int .i64 ring, .int .i64 seq, v, u] E l (fun v' : Value => v') (fun v' => row 122 13 v' ((planP ring seq none 0 zs).map encQ) :: l) := by
 refine Con.body (n := 62) Tryz.func138 Z Z _ (env_ok 4 Z) <| J_readsB hr fun hwg aG cg hv hg1 hg2 hg3 => ?_
 subst hv
 refine J_readsB hs fun hw a cap hv h1 h2 h3 => ?_
 subst hv
 have hm : cap ≤ 9223372036854775807 := h2
 have hml : ((zs.map Prod.snd).map encSq).length = zs.length := by simp
 refine sr <| L_op <| x_box Z Z Z fun b6 => ag Z Z <| nx <| L_pur Z (p_makeFunc (.cons Z .nil)) <| ag Z Z <| nx <| ag Z Z <| nxx <| mv Z Z <| L_pur Z (p_len Z Tryz.underlying54) <| mv Z Z <| nq <| J_block <| J_nil (el := 122) (sz := 13) <| J_loop2 (fun k v' => k ≤ zs.length) (fun k v' => row 122 13 v' ((planP ring seq none 0 (zs.take k)).map encQ) :: blk b6 71 [.slice aG ((zs.map Prod.fst).map fun b => [Value.bool b]).length cg] :: l) (fun k v' => [(18, .int .i64 (k : Int)), (10, v'), (9, .func (.func 198) #[] #[.pointer (some ⟨b6, 0, none⟩)]), (17, .int .i64 (((zs.map Prod.snd).map encSq).length : Int)), (16, .slice a ((zs.map Prod.snd).map encSq).length cap), (3, .slice a ((zs.map Prod.snd).map encSq).length cap), (0, .int .i64 ring), (1, .int .i64 seq)]) (fun k v' => zs.length - k) 0 (.slice none 0 0) (by omega) SU KE ?_
 intro k v' hk
 refine sr <| L_pur Z (p_lss Z Z) <| nq <| J_seq <| C_dec Z (fun h19 => ?_) (fun h19 => ?_)
 have hlt : k < zs.length := by simpa using h19
 obtain ⟨bx, ox, rfl⟩ := h3 (by intro h; have := congrArg List.length h; simp at this; subst this; simp at hlt)
 obtain ⟨c, hcc⟩ : ∃ c, zs[k]? = some c := ⟨_, List.getElem?_eq_getElem hlt⟩
 have hpl := planP_len (g := ring) (first := seq) (zs.take k) none 0
 have htl : (zs.take k).length = k := by rw [List.length_take]; omega
 have htk : zs.take (k + 1) = zs.take k ++ [c] := by rw [List.take_add_one, hcc]; rfl
 have hri := rightAt_is hcc
 refine J_skip <| Q_then <| J_seq <| J_block <| sr <| mv Z Z <| L_pur Z (p_indexAddr Z Z Tryz.underlying54 ty34 (by omega) (by simp; omega)) <| L_val Z (v_loadR Z ty34 (fun w H => hs w (Sub.sep SU H)) (by simp only [Int.toNat_natCast, List.getElem?_map, hcc]; rfl)) ?_
 refine L_op <| x_alloc ty34 Z fun b12 => ag Z Z <| L_op <| x_store Z Z ty34 Z SM SM RO PT <| nxx <| mv Z Z <| mv Z Z <| L_op <| x_callc Z Tryz.func198 nm198 bd198 (.cons Z .nil) Z (right (gs := (zs.map Prod.fst)) (k := (k : Int)) HS (fun w H => hr w (Sub.sep SU H))) fun _ => L_pur Z (p_not Z) <| nq <| C_split Z (fun h26 => ?_) (fun h26 => ?_)
 refine J_exit <| Q_then_exit <| Q_blk_this <| qr <| L_pur Z (p_add64 Z Z (by omega)) <| mv Z Z <| nq <| J_pick (A := row 122 13 v' ((planP ring seq none 0 (zs.take k)).map encQ)) PC <| J_rowEq (ys := ((planP ring seq none 0 (zs.take (k + 1))).map encQ)) (by rw [htk, planP_snoc, if_neg (by rw [← hri]; simpa using h26), List.append_nil]) ?_
 exact J_again2 (k + 1) _ (by omega) (by omega) SU KE
 have hc1 : c.1 = true := by rw [← hri]; simpa using h26
 refine J_skip <| qx <| mv Z Z <| mv Z Z <| mv Z Z <| L_pur Z (p_add64 Z Z (by omega)) <| L_pur Z (bld36 (.cons Z (.cons Z .nil)) (by repeat constructor)) <| L_val Z (v_loadA Z ty34 HS CT) <| L_pur Z (bld122 (.cons Z (.cons Z .nil)) (by repeat constructor)) <| L_op <| x_alloc ty122 Z fun b13 => L_op <| x_store Z Z ty122 Z SM SM RO PT <| nxx <| mv Z Z <| mv Z Z <| L_pur Z (p_sub64 Z Z (by omega)) <| L_op <| x_callc Z Tryz.func198 nm198 bd198 (.cons Z .nil) Z (right (gs := (zs.map Prod.fst)) (k := (k : Int) - 1) HS (fun w H => hr w (Sub.sep SU H))) fun _ => nq <| C_split Z (fun h37 => ?_) (fun h37 => ?_)
 obtain ⟨_, d, hdd, hk1, hla⟩ := (last_right hk).resolve_right (fun e => by rw [h37] at e; cases e.1)
 have hsf : softP (lastP none (zs.take k)) = decide (bits .and .i64 d.2.flags 1 ≠ 0) := by rw [hla]; rfl
 refine sr <| mv Z Z <| mv Z Z <| L_pur Z (p_sub64 Z Z (by omega)) <| L_pur Z (p_indexAddr Z Z Tryz.underlying54 ty34 (by omega) (by simp; omega)) <| fa Z Z fa34_1 <| L_val Z (v_loadRF Z ty3 (fun w H => hs w (Sub.sep SU H)) (by rw [List.getElem?_map, List.getElem?_map, hdd]; rfl) (by exact rfl)) ?_
 refine ag Z Z <| nx <| mv Z Z <| L_pur Z (p_and Z Z) <| L_pur Z (p_neq Z Z) <| fa Z Z fa122_3 <| L_op <| x_store Z Z ty4 Z SM SM RO PT <| nx <| mv Z Z <| L_pur Z (p_and Z Z) <| L_pur Z (p_neq Z Z) <| nq <| C_dec Z (fun h50 => ?_) (fun h50 => ?_)
 have hpv : prevP seq (lastP none (zs.take k)) k = seq + k - 1 := by rw [hla]; exact if_pos (by simpa using h50)
 refine J_region <| mv Z Z <| mv Z Z <| L_pur Z (p_add64 Z Z (by omega)) <| L_pur Z (p_sub64 Z Z (by omega)) <| fa Z Z fa122_2 <| L_op <| x_store Z Z ty3 Z SM SM RO PT <| ny <| mv Z Z <| L_val Z (v_loadA Z ty122 HS CT) <| L_op <| x_lit (vals := [_]) Tryz.underlying46 ty122 Z (.cons Z .nil) (.agg .nil) (Wf.cons Z Z Wf.nil) Z (by decide) Z Z <| JR fun a58 c58 hw58 hl58 hm58 hz58 => L_op <| x_app Z Z Tryz.underlying46 ty122 Z Z PC (fun w H => sep_reads HS H) (by simp; omega) (by simp; omega) Z <| JE (((planP ring seq none 0 (zs.take (k + 1))).map encQ)) (by rw [htk, planP_snoc, if_pos hc1, List.map_append, htl, Nat.zero_add]; simp [reqP, encQ, hpv, hsf]) fun a59 c59 hw59 hl59 hm59 hz59 => ag Z Z <| L_nil <| Q_blk_normal <| qr <| L_pur Z (p_add64 Z Z (by omega)) <| mv Z Z <| nq ?_
 
 exact J_again2 (k + 1) _ (by omega) (by omega) SU KE
 have hpv : prevP seq (lastP none (zs.take k)) k = 0 := by rw [hla]; exact if_neg (by simpa using h50)
 refine J_skip <| qr <| mv Z Z <| L_val Z (v_loadA Z ty122 HS CT) <| L_op <| x_lit (vals := [_]) Tryz.underlying46 ty122 Z (.cons Z .nil) (.agg .nil) (Wf.cons Z Z Wf.nil) Z (by decide) Z Z <| JR fun a58 c58 hw58 hl58 hm58 hz58 => L_op <| x_app Z Z Tryz.underlying46 ty122 Z Z PC (fun w H => sep_reads HS H) (by simp; omega) (by simp; omega) Z <| JE (((planP ring seq none 0 (zs.take (k + 1))).map encQ)) (by rw [htk, planP_snoc, if_pos hc1, List.map_append, htl, Nat.zero_add]; simp [reqP, encQ, hpv, hsf]) fun a59 c59 hw59 hl59 hm59 hz59 => ag Z Z <| L_nil <| Q_blk_normal <| qr <| L_pur Z (p_add64 Z Z (by omega)) <| mv Z Z <| nq ?_
 
 exact J_again2 (k + 1) _ (by omega) (by omega) SU KE
 obtain ⟨_, hla⟩ := (last_right hk).resolve_left (fun e => by rw [h37] at e; cases e.1)
 have hsf : softP (lastP none (zs.take k)) = false := by rw [hla]; rfl
 have hpv : prevP seq (lastP none (zs.take k)) k = 0 := by rw [hla]; rfl
 refine J_skip <| qr <| mv Z Z <| L_val Z (v_loadA Z ty122 HS CT) <| L_op <| x_lit (vals := [_]) Tryz.underlying46 ty122 Z (.cons Z .nil) (.agg .nil) (Wf.cons Z Z Wf.nil) Z (by decide) Z Z <| JR fun a58 c58 hw58 hl58 hm58 hz58 => L_op <| x_app Z Z Tryz.underlying46 ty122 Z Z PC (fun w H => sep_reads HS H) (by simp; omega) (by simp; omega) Z <| JE (((planP ring seq none 0 (zs.take (k + 1))).map encQ)) (by rw [htk, planP_snoc, if_pos hc1, List.map_append, htl, Nat.zero_add]; simp [reqP, encQ, hpv, hsf]) fun a59 c59 hw59 hl59 hm59 hz59 => ag Z Z <| L_nil <| Q_blk_normal <| qr <| L_pur Z (p_add64 Z Z (by omega)) <| mv Z Z <| nq ?_
 
 exact J_again2 (k + 1) _ (by omega) (by omega) SU KE
 have hke : k = zs.length := by simp at h19; omega
 refine J_pick (A := row 122 13 v' _) PC <| J_rowEq (ys := (planP ring seq none 0 zs).map encQ) (by rw [hke, List.take_length]) <| J_exit <| Q_then_exit <| Q_then_exit <| Q_blk_this <| qx <| mv Z Z <| ag Z Z <| nq <| J_ret ?_
 exact J_return (_) Tryz.results138 (.tmp Z .nil) Z SU
/-! ### plain: entries are taken -/
def minI (a b : Int) : Int := if b < a then b else a
def maxI (a b : Int) : Int := if b > a then b else a
variable {P : Program} {F : Env}
theorem p_min3 {n : Nat} {dst : Option Tmp} {T : TypeId} {p : String} {e : Array Edge} {g : Option (Nat × Bool)} {x y z : Operand} {k : IntKind} {a b c : Int} {ats : Array TypeId} (hx : evl F x = some (.int k a)) (hy : evl F y = some (.int k b)) (hz : evl F z = some (.int k c)) : Pur P ⟨dst, .call { callee := .builtin .min, args := #[x, y, z], argTypes := ats }, T, p, e, g⟩ F n (.int k (minI (minI a b) c)) := fun A hF w => by
  simp [execOp, resolve, invoke, builtin, hF.evl hx, hF.evl hy, hF.evl hz, Builtin.min_, Builtin.min2, minI]
  rfl
def addT (s : KS) (q : Rq) : KS := match deadE q.e s.now with
  | none => { s with rt := addQ s.rt q }
  | some d => { s with rt := addQ s.rt q, tm := hpush s.tm (d, q.id) }
def badD (g first : Int) (k : Nat) (bs : List Int) : Deed := ((g, first + k), getN bs 4 4, 0, -1, 0, false)
def takeF (g first : Int) : Option Sqe → Nat → List (List Int) → KS → KS
  | _, _, [], s => s
  | p, k, bs :: r, s => if goodE bs = true then takeF g first (some (entE bs)) (k + 1) r (addT s (reqP g first p k (entE bs))) else takeF g first none (k + 1) r (kTell (kDec s.rt.length) s (badD g first k bs))
def takeN (s : KS) (g most : Int) (r : Rg) : Int := maxI (minI (minI (rgWait r s.mem) most) (16 - (ofQ s.rt g).length)) 0
def takeRaw (s : KS) (r : Rg) (n : Nat) : List (List Int) := (List.range n).map (fetchB r s.mem)
def kAdv (s : KS) (g : Int) (r : Rg) (n : Int) : KS := { s with rg := updO s.rg g (fun r => advR r n), mem := advM r s.mem n }
def kTaken (s : KS) (g : Int) (r : Rg) (n : Int) : KS := takeF g (kTakeV (kAdv s g r n) g n) none 0 (takeRaw s r n.toNat) (kTake (kAdv s g r n) g n)
def kTakeIn (s : KS) (g most : Int) : KS × Int := match look s.rg g with
  | none => (s, 0)
  | some x => if rgValid x.2 s.mem = true then (kTaken s g x.2 (takeN s g most x.2), takeN s g most x.2) else (s, 0)
def zOf (bs : List Int) : Bool × Sqe := (goodE bs, entE bs)
theorem takeF_snoc {g first : Int} {bs : List Int} : ∀ (r : List (List Int)) (p : Option Sqe) (k : Nat) (s : KS), takeF g first p k (r ++ [bs]) s = (let t := takeF g first p k r s; if goodE bs = true then addT t (reqP g first (lastP p (r.map zOf)) (k + r.length) (entE bs)) else kTell (kDec t.rt.length) t (badD g first (k + r.length) bs))
  | [], p, k, s => by
    show takeF g first p k [bs] s = _
    unfold takeF
    split <;> rfl
  | y :: r, p, k, s => by
    rw [List.cons_append, takeF, takeF]
    by_cases h : goodE y = true
    · rw [if_pos h, if_pos h, takeF_snoc r]
      simp only [List.map_cons, lastP, nextP, zOf, if_pos h, List.length_cons, Nat.add_assoc, Nat.add_comm 1]
    · rw [if_neg h, if_neg h, takeF_snoc r]
      simp only [List.map_cons, lastP, nextP, zOf, if_neg h, List.length_cons, Nat.add_assoc, Nat.add_comm 1]
variable {g most : Int}
theorem takeN_in (h : RgOk r) : 0 ≤ takeN s g most r ∧ takeN s g most r ≤ 8 := by
  have := rgWait_in (ms := s.mem) h
  unfold takeN maxI minI
  (repeat' split) <;> omega
variable {ms : List (List Int)}
theorem fetchB_ok (h : RgOk r) (hM : MemOk ms) (i : Nat) : (fetchB r ms i).length = 32 ∧ Bytes (fetchB r ms i) := by
  obtain ⟨_, h2, h3⟩ := hM.at h.sq
  have h4 := pow_sb h.sb
  have h5 := wrap32_in (r.head + IntKind.u32.wrap (i : Int))
  have h6 := Int.emod_lt_of_pos (IntKind.u32.wrap (r.head + IntKind.u32.wrap (i : Int))) (b := 2 ^ r.sb.toNat) (by omega)
  have h7 := Int.emod_nonneg (IntKind.u32.wrap (r.head + IntKind.u32.wrap (i : Int))) (b := 2 ^ r.sb.toNat) (by omega)
  refine ⟨?_, part_bytes h3⟩
  unfold fetchB
  rw [List.length_take, List.length_drop, h2]
  omega
variable {bs : List Int}
theorem entE_ok (h : Bytes bs) : SqeOk (entE bs) := by
  have hn : ∀ a, in32 (getN bs a 4) := fun a => getN_is h a 4
  unfold entE
  split
  · exact ⟨hn _, hn _, hn _, hn _⟩
  · exact ⟨⟨by decide, by decide⟩, ⟨by decide, by decide⟩, ⟨by decide, by decide⟩, ⟨by decide, by decide⟩⟩
theorem entE_time (h : Bytes bs) : 0 ≤ (entE bs).time ∧ (entE bs).time < 4294967296 := by
  unfold entE
  split
  · exact getN_is h 24 4
  · exact ⟨by decide, by decide⟩
variable {Q : Sqe → Prop}
theorem hpush_le (xs : List Tm) (x : Tm) : (hpush xs x).length ≤ xs.length + 1 := by
  have := hdrop_len xs x.2
  unfold hpush putT
  simp only [List.length_append, List.length_cons, List.length_take, List.length_drop]
  omega
theorem WellQ.addT {s : KS} {N M : Nat} (h : WellQ Q s N M) (hN : N + 1 ≤ 90000) (hM : M + 1 ≤ 90000) {q : Rq} (hq : SqeOk q.e ∧ Q q.e) : WellQ Q (addT s q) (N + 1) (M + 1) := by
  have h1 := (h.addq hM hq).more hN
  unfold Go.Pse.addT
  split
  · exact h1
  · have hf := h1.fit
    have hl := hpush_le s.tm
    have ht := h.fit.tm
    exact ⟨⟨hf.n, hf.mm, hf.ids, hf.jn, Nat.le_trans (hl _) (Nat.succ_le_succ ht), hf.ep, hf.nt, hf.rp, hf.rg, hf.mem⟩, h1.q, h1.mp, h1.sl, h1.rg, h1.tree, h1.marks, h1.thr, h1.ent, h1.rtk⟩
theorem addT_srt {q : Rq} (h : Srt s.tm) : Srt (addT s q).tm := by
  unfold addT
  split
  · exact h
  · exact h.push _
theorem WellQ.takeF {g first : Int} : ∀ (r : List (List Int)) {p : Option Sqe} {k : Nat} {s : KS} {N M : Nat}, WellQ Q s N M → N + r.length ≤ 90000 → M + r.length ≤ 90000 → Srt s.tm → (∀ bs ∈ r, Bytes bs ∧ (goodE bs = true → Q (entE bs))) → WellQ Q (takeF g first p k r s) (N + r.length) (M + r.length) ∧ Srt (takeF g first p k r s).tm
  | [], _, _, _, _, _, h, _, _, hs, _ => ⟨h, hs⟩
  | bs :: r, p, k, s, N, M, h, hN, hM, hs, hQ => by
    rw [List.length_cons] at hN hM
    have hb := hQ bs (List.mem_cons_self)
    have hr := fun b hb => hQ b (List.mem_cons_of_mem _ hb)
    rw [Go.Pse.takeF, List.length_cons, Nat.add_comm r.length 1, ← Nat.add_assoc, ← Nat.add_assoc]
    split
    · rename_i hg
      exact WellQ.takeF r (h.addT (by omega) (by omega) (q := reqP g first p k (entE bs)) ⟨entE_ok hb.1, hb.2 hg⟩) (by omega) (by omega) (addT_srt hs) hr
    · exact WellQ.takeF r ((h.tell (by omega) _ _).more (by omega)) (by omega) (by omega) (List.Pairwise.sublist (Ebb.tell (fun s i r v => Ebb.dec _ s i r v) s _).tm hs) hr
theorem WellQ.adv (h : WellQ Q s N M) (hl : look s.rg g = some (b, r)) (n : Int) : WellQ Q (kAdv s g r n) N M := by
  have hf := h.fit
  have hr : RgOk r := (hf.rg _ (mem_look hl)).1
  refine ⟨⟨hf.n, hf.mm, hf.ids, hf.jn, hf.tm, hf.ep, hf.nt, hf.rp, fun x hx => ?_, advM_ok hr hf.mem n⟩, h.q, h.mp, h.sl, by show (updO s.rg g (fun r => advR r n)).length ≤ 1000; unfold updO; rw [List.length_map]; exact h.rg, h.tree, h.marks, h.thr, h.ent, h.rtk⟩
  obtain ⟨y, hy, h1, h2⟩ := updO_mem (show x ∈ updO s.rg g (fun r => advR r n) from hx)
  obtain ⟨g1, g2⟩ := hf.rg y hy
  rcases h2 with h2 | h2 <;> rw [h2]
  · exact ⟨g1, g2⟩
  · exact ⟨advR_ok g1 n, g2⟩
theorem takeRaw_len (s : KS) (r : Rg) (n : Nat) : (takeRaw s r n).length = n := by unfold takeRaw; rw [List.length_map, List.length_range]
theorem takeRaw_mem {n : Nat} (h : RgOk r) (hM : MemOk s.mem) : ∀ bs ∈ takeRaw s r n, bs.length = 32 ∧ Bytes bs := fun bs hb => by
  obtain ⟨i, _, rfl⟩ := List.mem_map.1 hb
  exact fetchB_ok h hM i
theorem kTake_tm (s : KS) (g n : Int) : (kTake s g n).tm = s.tm ∧ (kTake s g n).rt = s.rt := by unfold kTake; split <;> exact ⟨rfl, rfl⟩
theorem WellQ.taken (h : WellQ Q s N M) (hN : N + 8 ≤ 90000) (hM : M + 8 ≤ 90000) (hs : Srt s.tm) (hl : look s.rg g = some (b, r)) (hQ : ∀ bs ∈ takeRaw s r (takeN s g most r).toNat, goodE bs = true → Q (entE bs)) :
  WellQ Q (kTaken s g r (takeN s g most r)) (N + (takeN s g most r).toNat) (M + (takeN s g most r).toNat) ∧ Srt (kTaken s g r (takeN s g most r)).tm := by
 have hr : RgOk r := (h.fit.rg _ (mem_look hl)).1
 have hn := takeN_in (s := s) (g := g) (most := most) hr
 have hm := takeRaw_mem (n := (takeN s g most r).toNat) hr h.fit.mem
 obtain ⟨n, hnn⟩ : ∃ n : Nat, takeN s g most r = (n : Int) := ⟨(takeN s g most r).toNat, by omega⟩
 rw [hnn] at hn hm hQ ⊢
 rw [Int.toNat_natCast] at hm hQ ⊢
 have hln := takeRaw_len s r n
 have h1 := WellQ.takeF (g := g) (first := kTakeV (kAdv s g r n) g n) (takeRaw s r n) (p := none) (k := 0) ((h.adv hl n).take g n) (by rw [hln]; omega) (by rw [hln]; omega) (by rw [(kTake_tm _ _ _).1]; exact hs) (fun bs hb => ⟨(hm bs hb).2, hQ bs hb⟩)
 rw [hln] at h1
 unfold kTaken
 rw [Int.toNat_natCast]
 exact h1
/-! ### plain: requests begin; the kernel is entered; time has come -/
variable {Q : Sqe → Prop}
def kRunN (g : Int) (β : Nat → Nat) : Nat → Nat → KS → KS × Nat
  | 0, _, s => (s, 0)
  | n + 1, j, s => match nextQ s.rt g with
    | none => (s, 0)
    | some i => ((kRunN g β n (j + 1) (kStart s i (β j)).1).1, (kRunN g β n (j + 1) (kStart s i (β j)).1).2 + 1)
def runS (g : Int) : List Nat → KS → KS
  | [], s => s
  | b :: bs, s => match nextQ s.rt g with
    | none => s
    | some i => runS g bs (kStart s i b).1
def okS (g : Int) : List Nat → KS → Bool
  | [], _ => true
  | b :: bs, s => match nextQ s.rt g with
    | none => false
    | some i => okS g bs (kStart s i b).1
theorem runS_snoc {g : Int} {b : Nat} {i : ID} : ∀ {bs : List Nat} {s : KS}, okS g bs s = true → nextQ (runS g bs s).rt g = some i → okS g (bs ++ [b]) s = true ∧ runS g (bs ++ [b]) s = (kStart (runS g bs s) i b).1
 | [], s, _, h => by
  have h2 : nextQ s.rt g = some i := h
  show okS g [b] s = true ∧ runS g [b] s = _
  unfold okS runS
  rw [h2]
  exact ⟨rfl, rfl⟩
 | c :: bs, s, ho, h => by
  rw [List.cons_append]
  unfold okS at ho ⊢
  unfold runS at h ⊢
  cases hn : nextQ s.rt g with
  | none => rw [hn] at ho; cases ho
  | some k =>
   rw [hn] at ho h
   exact runS_snoc (bs := bs) ho h
theorem kRunN_is {g : Int} : ∀ {bs : List Nat} {s : KS} {off B : Nat} {β : Nat → Nat}, okS g bs s = true → bs.length ≤ B → (B = bs.length ∨ nextQ (runS g bs s).rt g = none) → (∀ k, k < bs.length → β (off + k) = bs.getD k 0) → kRunN g β B off s = (runS g bs s, bs.length)
  | [], s, off, B, β, _, _, h, _ => by
    rcases h with h | h
    · rw [show B = 0 from h]; rfl
    · have h2 : nextQ s.rt g = none := h
      cases B with
      | zero => rfl
      | succ B => unfold kRunN; rw [h2]; rfl
  | b :: bs, s, off, B, β, ho, hl, h, hb => by
    obtain ⟨B, rfl⟩ : ∃ B', B = B' + 1 := ⟨B - 1, by rw [List.length_cons] at hl; omega⟩
    unfold okS at ho
    unfold runS at h
    unfold kRunN runS
    cases hn : nextQ s.rt g with
    | none => rw [hn] at ho; cases ho
    | some i =>
      rw [hn] at ho h
      have h0 : β off = b := hb 0 (by simp)
      have ih := kRunN_is (bs := bs) (s := (kStart s i b).1) (off := off + 1) (B := B) (β := β) ho (by rw [List.length_cons] at hl; omega) (by
        rcases h with h | h
        · rw [List.length_cons] at h; exact .inl (by omega)
        · exact .inr h) (fun k hk => by
        have := hb (k + 1) (by rw [List.length_cons]; omega)
        rw [show off + 1 + k = off + (k + 1) by omega, this]; rfl)
      dsimp only
      rw [h0, ih, List.length_cons]
theorem WellQ.runS {g : Int} : ∀ {bs : List Nat} {s : KS} {N M : Nat}, WellQ Q s N M → N + bs.length ≤ 90000 → WellQ Q (runS g bs s) (N + bs.length) M
  | [], _, _, _, h, _ => h
  | b :: bs, s, N, M, h, hN => by
    rw [List.length_cons] at hN ⊢
    unfold Go.Pse.runS
    split
    · have h1 : ∀ n, N + n ≤ 90000 → WellQ Q s (N + n) M := fun n => by
        induction n with
        | zero => exact fun _ => h
        | succ n ih => exact fun hn => (ih (by omega)).more (by omega)
      exact h1 _ hN
    · rename_i i _
      have := WellQ.runS (g := g) (bs := bs) (h.started (by omega) i b) (by omega)
      rw [show N + 1 + bs.length = N + (bs.length + 1) by omega] at this
      exact this
def clampB (n : Int) : Int := minI (maxI n 0) 64
def flushS (s : KS) (g : Int) (r : Rg) : KS := { s with rg := updO s.rg g (fun r => (flushR r s.mem).1), mem := (flushR r s.mem).2 }
def kGoOn (s : KS) (g n : Int) (β : Nat → Nat) : KS × Int := ((kRunN g β n.toNat 0 (kTakeIn s g n).1).1, (kTakeIn s g n).2)
def kEnter (s : KS) (t n : Int) (β : Nat → Nat) : KS × Int := match look s.th t with
  | none => (s, -11)
  | some T => match look s.rg T.ring with
    | none => (s, -15)
    | some x => if rgValid x.2 s.mem = false then (s, -14) else if (flushR x.2 s.mem).1.over.length ≥ 8 then (flushS s T.ring x.2, -13) else kGoOn (flushS s T.ring x.2) T.ring (clampB n) β
def kExpL : List ID → KS → KS × Nat
  | [], s => (s, 0)
  | i :: l, s => match look s.rt i with
    | none => kExpL l s
    | some q => ((kExpL l (kDec s.rt.length s i (if q.e.op = 19 then 0 else -10) 0)).1, (kExpL l (kDec s.rt.length s i (if q.e.op = 19 then 0 else -10) 0)).2 + 1)
def dueS (s : KS) : KS := { s with tm := late s.tm s.now }
def kExpire (s : KS) : KS × Nat := kExpL ((due s.tm s.now).map Prod.snd) (dueS s)
theorem kExpL_snoc {i : ID} : ∀ (l : List ID) (s : KS), kExpL (l ++ [i]) s = match look (kExpL l s).1.rt i with
  | none => kExpL l s
  | some q => (kDec (kExpL l s).1.rt.length (kExpL l s).1 i (if q.e.op = 19 then 0 else -10) 0, (kExpL l s).2 + 1)
 | [], s => by
  show kExpL [i] s = _
  unfold kExpL kExpL
  cases look s.rt i <;> rfl
 | k :: l, s => by
  rw [List.cons_append]
  unfold kExpL
  cases h : look s.rt k with
  | none => exact kExpL_snoc l s
  | some q =>
   dsimp only
   rw [kExpL_snoc l]
   cases look (kExpL l (kDec s.rt.length s k (if q.e.op = 19 then 0 else -10) 0)).1.rt i <;> rfl
theorem WellQ.expL : ∀ (l : List ID) {s : KS} {N M : Nat}, WellQ Q s N M → WellQ Q (kExpL l s).1 N M
  | [], _, _, _, h => h
  | i :: l, s, N, M, h => by
    unfold kExpL
    split
    · exact WellQ.expL l h
    · exact WellQ.expL l (h.dec _ _ _ _)
theorem expL_cnt : ∀ (l : List ID) (s : KS), (kExpL l s).2 ≤ l.length
  | [], _ => Nat.le_refl _
  | i :: l, s => by
    unfold kExpL
    split
    · exact Nat.le_succ_of_le (expL_cnt l s)
    · exact Nat.succ_le_succ (expL_cnt l _)
theorem due_le (xs : List Tm) (now : Int) : (due xs now).length ≤ xs.length ∧ (late xs now).length ≤ xs.length := by
  have := due_len xs now
  omega
theorem WellQ.dueS (h : WellQ Q s N M) : WellQ Q (dueS s) N M := by
  have hf := h.fit
  exact ⟨⟨hf.n, hf.mm, hf.ids, hf.jn, Nat.le_trans (due_le _ _).2 hf.tm, hf.ep, hf.nt, hf.rp, hf.rg, hf.mem⟩, h.q, h.mp, h.sl, h.rg, h.tree, h.marks, h.thr, h.ent, h.rtk⟩
theorem WellQ.flush (h : WellQ Q s N M) (hl : look s.rg g = some (b, r)) : WellQ Q (flushS s g r) N M := by
  have hf := h.fit
  have hr : RgOk r := (hf.rg _ (mem_look hl)).1
  refine ⟨⟨hf.n, hf.mm, hf.ids, hf.jn, hf.tm, hf.ep, hf.nt, hf.rp, fun x hx => ?_, (flush_ok r.over hr hf.mem).2.1⟩, h.q, h.mp, h.sl, by show (updO s.rg g (fun r => (flushR r s.mem).1)).length ≤ 1000; unfold updO; rw [List.length_map]; exact h.rg, h.tree, h.marks, h.thr, h.ent, h.rtk⟩
  obtain ⟨y, hy, h1, h2⟩ := updO_mem (show x ∈ updO s.rg g (fun r => (flushR r s.mem).1) from hx)
  obtain ⟨g1, g2⟩ := hf.rg y hy
  rcases h2 with h2 | h2 <;> rw [h2]
  · exact ⟨g1, g2⟩
  · have := flush_ok y.2.2.over g1 hf.mem
    exact ⟨this.1, by have h3 := this.2.2; show (flushX y.2.2 s.mem y.2.2.over).1.over.length + s.rt.length ≤ M; omega⟩
theorem look_updS {α : Type} : ∀ {xs : List (Int × Nat × α)} {u : Int} {b : Nat} {a : α} {f : α → α}, look xs u = some (b, a) → look (updO xs u f) u = some (b, f a)
  | [], _, _, _, _, h => by cases h
  | x :: xs, u, b, a, f, h => by
    obtain ⟨k, c⟩ := x
    rw [look_cons] at h
    show look ((if k = u then (k, c.1, f c.2) else (k, c)) :: updO xs u f) u = _
    by_cases hk : k = u
    · rw [if_pos hk] at h
      rw [if_pos hk, look_cons, if_pos hk]
      cases h; rfl
    · rw [if_neg hk] at h
      rw [if_neg hk, look_cons, if_neg hk]
      exact look_updS h
theorem coExpireG (hp : Pick (coA p s) l m) (hW : WellQ Q s N M) :
    Con Tryz.prog 56 #[.pointer (some ⟨p, 0, none⟩)] E l (fun _ : Unit => .int .i64 ((kExpire s).2 : Int)) (fun _ => coA p (kExpire s).1 :: m) := by
  refine Con.body (n := 40) Tryz.func56 Z Z _ (env_ok 1 Z) <| J_pick hp <| sr <| ag Z Z <| nx <| ag Z Z <| nxx <| mv Z Z <| xo fc62 (A1 Z) Z (coTimers) fun _ => mv Z Z <| xo fc100 (A1 Z) Z (coNow (s := s) PC) fun _ => xo fc99 (A2 Z Z) Z (coTmDue (s := s) (now := s.now) PC (by have := hW.fit.tm; have := hW.fit.n; omega)) <| JR fun a13 c13 hw13 hl13 hm13 hz13 => L_pur Z (p_len Z Tryz.underlying224) ?_
  obtain ⟨ids, hids⟩ : ∃ ids, ids = ((due s.tm s.now).map Prod.snd) := ⟨_, rfl⟩
  have hil : ids.length ≤ 90000 := by rw [hids, List.length_map]; have := (due_le s.tm s.now).1; have := hW.fit.tm; have := hW.fit.n; omega
  refine J_pick (A := row 36 2 _ _) PC <| J_rowTo (ys := ids.map encI) (v' := .slice a13 (ids.map encI).length c13) (by rw [hids]) (by rw [hids]) <| J_slot (t := 13) (v := .slice a13 (ids.map encI).length c13) Z (by rw [hids]) <| J_slot (t := 14) (v := .int .i64 (ids.length : Int)) Z (by rw [hids, List.length_map]) ?_
  rw [← hids] at hz13
  have hml : (ids.map encI).length = ids.length := List.length_map _
  have hWd := hW.dueS
  refine J_pick (A := coA p _) PC <| J_asTo (B := coA p (kExpL (ids.take 0) (dueS s)).1) (by rfl) <| mv Z Z <| nq <| J_block <| J_loop (α := Nat) (fun k => k ≤ ids.length) (fun k => row 36 2 (.slice a13 (ids.map encI).length c13) (ids.map encI) :: coA p (kExpL (ids.take k) (dueS s)).1 :: m) (fun k => [(15, .int .i64 (k : Int)), (14, .int .i64 (ids.length : Int)), (13, .slice a13 (ids.map encI).length c13), (3, .int .i64 ((kExpL (ids.take k) (dueS s)).2 : Int)), (0, .pointer (some ⟨p, 0, none⟩))]) (fun k => ids.length - k) 0 (by omega) SU KE ?_
  intro k hk
  obtain ⟨S, hS⟩ : ∃ S, S = (kExpL (ids.take k) (dueS s)) := ⟨_, rfl⟩
  have hWS : WellQ Q S.1 N M := by rw [hS]; exact hWd.expL _
  have hct : S.2 ≤ k := by rw [hS]; exact Nat.le_trans (expL_cnt _ _) (by rw [List.length_take]; omega)
  rw [← hS]
  refine sr <| L_pur Z (p_lss Z Z) <| nq <| J_seq <| C_dec Z (fun h16 => ?_) (fun h16 => ?_)
  have hlt : k < ids.length := by omega
  obtain ⟨bx, ox, rfl⟩ := hz13 (by intro h; rw [h] at hml; simp at hml; omega)
  obtain ⟨i, hcc⟩ : ∃ c, ids[k]? = some c := ⟨_, List.getElem?_eq_getElem hlt⟩
  have hsn0 := kExpL_snoc (i := i) (ids.take k) (dueS s)
  rw [← hS, show ids.take k ++ [i] = ids.take (k + 1) by rw [List.take_add_one, hcc]; rfl] at hsn0
  refine J_skip <| Q_then <| J_seq <| J_block <| sr <| L_pur Z (p_indexAddr Z Z Tryz.underlying224 ty36 (by omega) (by omega)) <| L_val Z (v_loadE Z ty36 HS (by simp only [Int.toNat_natCast, List.getElem?_map, hcc]; rfl)) ?_
  refine L_op <| x_alloc ty36 Z fun b5 => L_op <| x_store Z Z ty36 Z SM SM RO PT <| nq <| J_seq <| J_drawL none mixed <| ip 0 Z Z Z Z (p_move Z) <| iv 2 Z Z Z Z (fun _ => v_loadA Z ty36 HS CT) <| I_ready (rs := [1, 7]) SI (by kernel_rfl) (by simp) <| (I_cons Z ?_ (I_cons Z ?_ I_nil))
  refine xc fc16 (A1 Z) Z (coReqs) fun _ => I_ready (rs := [3, 7]) SI (by kernel_rfl) (by simp) <| (I_cons Z ?_ (I_cons Z ?_ I_nil))
  refine xc fc69 (A2 Z Z) Z (coRqGet (s := S.1) (i := i) PC) fun _ => ip 4 Z Z Z Z (p_move Z) <| ip 5 Z Z Z Z (p_extract Z Z) <| ip 6 Z Z Z Z (p_extract Z Z) <| i1 7 Z <| x_alloc ty122 Z fun b6 => i1 8 Z <| x_store Z Z ty122 Z SM SM RO PT <| ip 9 Z Z Z Z (p_assign Z) <| i0 <| Q_then <| J_seq <| sr <| mv Z Z <| L_pur Z (p_not Z) <| nq <| C_split Z (fun h27 => ?_) (fun h27 => ?_)
  have hno : look S.1.rt i = none := by
    cases hq : look S.1.rt i with
    | none => rfl
    | some y => rw [hq] at h27; simp at h27
  have hsn : kExpL (ids.take (k + 1)) (dueS s) = S := by rw [hsn0, hno]
  refine J_exit <| Q_then_exit <| Q_blk_this <| qr <| L_pur Z (p_add64 Z Z (by omega)) <| mv Z Z <| nq <| J_pick (A := coA p _) PC <| J_asTo (B := coA p (kExpL (ids.take (k + 1)) (dueS s)).1) (by rw [hsn]) <| J_slot (t := 3) (v := .int .i64 ((kExpL (ids.take (k + 1)) (dueS s)).2 : Int)) Z (by rw [hsn]) ?_
  exact J_again (k + 1) (by omega) (by omega) SU KE
  obtain ⟨q, hq⟩ : ∃ x, look S.1.rt i = some x := by
    cases hq : look S.1.rt i with
    | none => rw [hq] at h27; simp at h27
    | some y => exact ⟨y, rfl⟩
  have hsn : kExpL (ids.take (k + 1)) (dueS s) = (kDec S.1.rt.length S.1 i (if q.e.op = 19 then 0 else -10) 0, S.2 + 1) := by rw [hsn0, hq]
  refine J_pick (A := blk b6 _ _) PC <| J_asTo (B := blk b6 122 (encQ q)) (by rw [hq]; rfl) <| J_skip <| qx <| ag Z Z <| nxx <| fa Z Z fa122_1 <| fa Z Z fa34_0 <| L_val Z (v_load Z ty3 HS (by exact rfl)) <| L_pur Z (p_eql Z Z) <| nq <| C_dec Z (fun h31 => ?_) (fun h31 => ?_)
  refine J_region <| ag Z Z <| nq <| J_seq <| J_slot (t := 8) (v := .int .i64 (if q.e.op = 19 then 0 else -10)) Z (by rw [if_pos h31]) <| J_region <| mv Z Z <| L_val Z (v_loadA Z ty36 HS CT) <| mv Z Z <| xo fc72 (A4 Z Z Z Z) Z (coDecide (s := S.1) (i := i) (r := if q.e.op = 19 then 0 else -10) (v := 0) PC hWS.fit) fun _ => ny <| mv Z Z <| L_pur Z (p_add64 Z Z (by omega)) <| ag Z Z <| L_nil <| Q_blk_normal <| qr <| L_pur Z (p_add64 Z Z (by omega)) <| mv Z Z <| nq <| J_pick (A := coA p _) PC <| J_asTo (B := coA p (kExpL (ids.take (k + 1)) (dueS s)).1) (by rw [hsn]) <| J_slot (t := 3) (v := .int .i64 ((kExpL (ids.take (k + 1)) (dueS s)).2 : Int)) Z (by rw [hsn]; rfl) ?_
  exact J_again (k + 1) (by omega) (by omega) SU KE
  refine J_skip <| Q_then <| J_seq <| J_slot (t := 8) (v := .int .i64 (if q.e.op = 19 then 0 else -10)) Z (by rw [if_neg h31]) <| J_region <| mv Z Z <| L_val Z (v_loadA Z ty36 HS CT) <| mv Z Z <| xo fc72 (A4 Z Z Z Z) Z (coDecide (s := S.1) (i := i) (r := if q.e.op = 19 then 0 else -10) (v := 0) PC hWS.fit) fun _ => ny <| mv Z Z <| L_pur Z (p_add64 Z Z (by omega)) <| ag Z Z <| L_nil <| Q_blk_normal <| qr <| L_pur Z (p_add64 Z Z (by omega)) <| mv Z Z <| nq <| J_pick (A := coA p _) PC <| J_asTo (B := coA p (kExpL (ids.take (k + 1)) (dueS s)).1) (by rw [hsn]) <| J_slot (t := 3) (v := .int .i64 ((kExpL (ids.take (k + 1)) (dueS s)).2 : Int)) Z (by rw [hsn]; rfl) ?_
  exact J_again (k + 1) (by omega) (by omega) SU KE
  refine x_alloc ty122 Z fun b6 => i1 3 Z <| xc fc69 (A2 Z Z) Z (coRqGet (s := S.1) (i := i) PC) fun _ => ip 4 Z Z Z Z (p_move Z) <| ip 5 Z Z Z Z (p_extract Z Z) <| ip 6 Z Z Z Z (p_extract Z Z) <| i1 8 Z <| x_store Z Z ty122 Z SM SM RO PT <| ip 9 Z Z Z Z (p_assign Z) <| i0 <| Q_then <| J_seq <| sr <| mv Z Z <| L_pur Z (p_not Z) <| nq <| C_split Z (fun h27 => ?_) (fun h27 => ?_)
  have hno : look S.1.rt i = none := by
    cases hq : look S.1.rt i with
    | none => rfl
    | some y => rw [hq] at h27; simp at h27
  have hsn : kExpL (ids.take (k + 1)) (dueS s) = S := by rw [hsn0, hno]
  refine J_exit <| Q_then_exit <| Q_blk_this <| qr <| L_pur Z (p_add64 Z Z (by omega)) <| mv Z Z <| nq <| J_pick (A := coA p _) PC <| J_asTo (B := coA p (kExpL (ids.take (k + 1)) (dueS s)).1) (by rw [hsn]) <| J_slot (t := 3) (v := .int .i64 ((kExpL (ids.take (k + 1)) (dueS s)).2 : Int)) Z (by rw [hsn]) ?_
  exact J_again (k + 1) (by omega) (by omega) SU KE
  obtain ⟨q, hq⟩ : ∃ x, look S.1.rt i = some x := by
    cases hq : look S.1.rt i with
    | none => rw [hq] at h27; simp at h27
    | some y => exact ⟨y, rfl⟩
  have hsn : kExpL (ids.take (k + 1)) (dueS s) = (kDec S.1.rt.length S.1 i (if q.e.op = 19 then 0 else -10) 0, S.2 + 1) := by rw [hsn0, hq]
  refine J_pick (A := blk b6 _ _) PC <| J_asTo (B := blk b6 122 (encQ q)) (by rw [hq]; rfl) <| J_skip <| qx <| ag Z Z <| nxx <| fa Z Z fa122_1 <| fa Z Z fa34_0 <| L_val Z (v_load Z ty3 HS (by exact rfl)) <| L_pur Z (p_eql Z Z) <| nq <| C_dec Z (fun h31 => ?_) (fun h31 => ?_)
  refine J_region <| ag Z Z <| nq <| J_seq <| J_slot (t := 8) (v := .int .i64 (if q.e.op = 19 then 0 else -10)) Z (by rw [if_pos h31]) <| J_region <| mv Z Z <| L_val Z (v_loadA Z ty36 HS CT) <| mv Z Z <| xo fc72 (A4 Z Z Z Z) Z (coDecide (s := S.1) (i := i) (r := if q.e.op = 19 then 0 else -10) (v := 0) PC hWS.fit) fun _ => ny <| mv Z Z <| L_pur Z (p_add64 Z Z (by omega)) <| ag Z Z <| L_nil <| Q_blk_normal <| qr <| L_pur Z (p_add64 Z Z (by omega)) <| mv Z Z <| nq <| J_pick (A := coA p _) PC <| J_asTo (B := coA p (kExpL (ids.take (k + 1)) (dueS s)).1) (by rw [hsn]) <| J_slot (t := 3) (v := .int .i64 ((kExpL (ids.take (k + 1)) (dueS s)).2 : Int)) Z (by rw [hsn]; rfl) ?_
  exact J_again (k + 1) (by omega) (by omega) SU KE
  refine J_skip <| Q_then <| J_seq <| J_slot (t := 8) (v := .int .i64 (if q.e.op = 19 then 0 else -10)) Z (by rw [if_neg h31]) <| J_region <| mv Z Z <| L_val Z (v_loadA Z ty36 HS CT) <| mv Z Z <| xo fc72 (A4 Z Z Z Z) Z (coDecide (s := S.1) (i := i) (r := if q.e.op = 19 then 0 else -10) (v := 0) PC hWS.fit) fun _ => ny <| mv Z Z <| L_pur Z (p_add64 Z Z (by omega)) <| ag Z Z <| L_nil <| Q_blk_normal <| qr <| L_pur Z (p_add64 Z Z (by omega)) <| mv Z Z <| nq <| J_pick (A := coA p _) PC <| J_asTo (B := coA p (kExpL (ids.take (k + 1)) (dueS s)).1) (by rw [hsn]) <| J_slot (t := 3) (v := .int .i64 ((kExpL (ids.take (k + 1)) (dueS s)).2 : Int)) Z (by rw [hsn]; rfl) ?_
  exact J_again (k + 1) (by omega) (by omega) SU KE
  refine x_alloc ty122 Z fun b6 => i1 1 Z <| xc fc16 (A1 Z) Z (coReqs) fun _ => i1 3 Z <| xc fc69 (A2 Z Z) Z (coRqGet (s := S.1) (i := i) PC) fun _ => ip 4 Z Z Z Z (p_move Z) <| ip 5 Z Z Z Z (p_extract Z Z) <| ip 6 Z Z Z Z (p_extract Z Z) <| i1 8 Z <| x_store Z Z ty122 Z SM SM RO PT <| ip 9 Z Z Z Z (p_assign Z) <| i0 <| Q_then <| J_seq <| sr <| mv Z Z <| L_pur Z (p_not Z) <| nq <| C_split Z (fun h27 => ?_) (fun h27 => ?_)
  have hno : look S.1.rt i = none := by
    cases hq : look S.1.rt i with
    | none => rfl
    | some y => rw [hq] at h27; simp at h27
  have hsn : kExpL (ids.take (k + 1)) (dueS s) = S := by rw [hsn0, hno]
  refine J_exit <| Q_then_exit <| Q_blk_this <| qr <| L_pur Z (p_add64 Z Z (by omega)) <| mv Z Z <| nq <| J_pick (A := coA p _) PC <| J_asTo (B := coA p (kExpL (ids.take (k + 1)) (dueS s)).1) (by rw [hsn]) <| J_slot (t := 3) (v := .int .i64 ((kExpL (ids.take (k + 1)) (dueS s)).2 : Int)) Z (by rw [hsn]) ?_
  exact J_again (k + 1) (by omega) (by omega) SU KE
  obtain ⟨q, hq⟩ : ∃ x, look S.1.rt i = some x := by
    cases hq : look S.1.rt i with
    | none => rw [hq] at h27; simp at h27
    | some y => exact ⟨y, rfl⟩
  have hsn : kExpL (ids.take (k + 1)) (dueS s) = (kDec S.1.rt.length S.1 i (if q.e.op = 19 then 0 else -10) 0, S.2 + 1) := by rw [hsn0, hq]
  refine J_pick (A := blk b6 _ _) PC <| J_asTo (B := blk b6 122 (encQ q)) (by rw [hq]; rfl) <| J_skip <| qx <| ag Z Z <| nxx <| fa Z Z fa122_1 <| fa Z Z fa34_0 <| L_val Z (v_load Z ty3 HS (by exact rfl)) <| L_pur Z (p_eql Z Z) <| nq <| C_dec Z (fun h31 => ?_) (fun h31 => ?_)
  refine J_region <| ag Z Z <| nq <| J_seq <| J_slot (t := 8) (v := .int .i64 (if q.e.op = 19 then 0 else -10)) Z (by rw [if_pos h31]) <| J_region <| mv Z Z <| L_val Z (v_loadA Z ty36 HS CT) <| mv Z Z <| xo fc72 (A4 Z Z Z Z) Z (coDecide (s := S.1) (i := i) (r := if q.e.op = 19 then 0 else -10) (v := 0) PC hWS.fit) fun _ => ny <| mv Z Z <| L_pur Z (p_add64 Z Z (by omega)) <| ag Z Z <| L_nil <| Q_blk_normal <| qr <| L_pur Z (p_add64 Z Z (by omega)) <| mv Z Z <| nq <| J_pick (A := coA p _) PC <| J_asTo (B := coA p (kExpL (ids.take (k + 1)) (dueS s)).1) (by rw [hsn]) <| J_slot (t := 3) (v := .int .i64 ((kExpL (ids.take (k + 1)) (dueS s)).2 : Int)) Z (by rw [hsn]; rfl) ?_
  exact J_again (k + 1) (by omega) (by omega) SU KE
  refine J_skip <| Q_then <| J_seq <| J_slot (t := 8) (v := .int .i64 (if q.e.op = 19 then 0 else -10)) Z (by rw [if_neg h31]) <| J_region <| mv Z Z <| L_val Z (v_loadA Z ty36 HS CT) <| mv Z Z <| xo fc72 (A4 Z Z Z Z) Z (coDecide (s := S.1) (i := i) (r := if q.e.op = 19 then 0 else -10) (v := 0) PC hWS.fit) fun _ => ny <| mv Z Z <| L_pur Z (p_add64 Z Z (by omega)) <| ag Z Z <| L_nil <| Q_blk_normal <| qr <| L_pur Z (p_add64 Z Z (by omega)) <| mv Z Z <| nq <| J_pick (A := coA p _) PC <| J_asTo (B := coA p (kExpL (ids.take (k + 1)) (dueS s)).1) (by rw [hsn]) <| J_slot (t := 3) (v := .int .i64 ((kExpL (ids.take (k + 1)) (dueS s)).2 : Int)) Z (by rw [hsn]; rfl) ?_
  exact J_again (k + 1) (by omega) (by omega) SU KE
  have hkn : k = ids.length := by omega
  have hke : kExpire s = S := by unfold kExpire; rw [← hids, hS, hkn, List.take_length]
  refine J_exit <| Q_then_exit <| Q_then_exit <| Q_blk_this <| qx <| mv Z Z <| ag Z Z <| nq <| J_ret <| J_pick (A := coA p _) PC <| J_asTo (B := coA p (kExpire s).1) (by rw [hke]) <| J_return (()) Tryz.results56 (.tmp Z .nil) ?_ ?_
  · rw [hke]; rfl
  · exact SU
def rawP (v : Value) (ms : List (List Int)) (xs : List (Value × List Int)) : Prop := xs.map Prod.snd = ms
def rawL (v : Value) (ms : List (List Int)) (xs : List (Value × List Int)) : List As := [row 73 1 v (xs.map fun x => [x.1]), each memF xs]
def rawA (v : Value) (ms : List (List Int)) : As := As.ex fun g : (List (Value × List Int)) => As.all (As.pure (rawP v ms g) :: rawL v ms g)
theorem J_rawO {n : Nat} {K : Act → World → Prop} (k : ∀ xs, rawP v ms xs → Jk E (row 73 1 v (xs.map fun x => [x.1]) :: each memF xs :: l) n F K) : Jk E (rawA v ms :: l) n F K := J_unfold (f := fun g : (List (Value × List Int)) => As.all (As.pure (rawP v ms g) :: rawL v ms g)) (fun _ => rfl) (fun g h => k g h)
theorem J_rawS {n : Nat} {K : Act → World → Prop} (xs : List (Value × List Int)) (hs : Picks [row 73 1 v (xs.map fun x => [x.1]), each memF xs] l m) (h : rawP v ms xs) (k : Jk E (rawA v ms :: m) n F K) : Jk E l n F K := J_fold (f := fun g : (List (Value × List Int)) => As.all (As.pure (rawP v ms g) :: rawL v ms g)) (xs) rfl hs h k
theorem takeRaw_succ (s : KS) (r : Rg) (k : Nat) : takeRaw s r (k + 1) = takeRaw s r k ++ [fetchB r s.mem k] := by unfold takeRaw; rw [List.range_succ, List.map_append]; rfl
theorem takeF_take {first : Int} {raw : List (List Int)} {t : KS} (h : raw[k]? = some bs) (ht : t = takeF g first none 0 (raw.take k) s) : takeF g first none 0 (raw.take (k + 1)) s = if goodE bs = true then addT t (reqP g first (lastP none ((raw.map zOf).take k)) k (entE bs)) else kTell (kDec t.rt.length) t (badD g first k bs) := by
  have hl : (raw.take k).length = k := by
    have := (List.getElem?_eq_some_iff.1 h).1
    rw [List.length_take]; omega
  rw [List.take_add_one, h, Option.toList_some, takeF_snoc, hl, Nat.zero_add, List.map_take, ← ht]
theorem coTakeIn (hp : Pick (coA p s) l m) (hW : WellQ Q s N M) (hN : N + 9 ≤ 90000) (hM : M + 9 ≤ 90000) (hS : Srt s.tm) (htk : 0 ≤ (look s.tk g).getD 0 ∧ (look s.tk g).getD 0 ≤ 1000000000) (hQ : ∀ b r, look s.rg g = some (b, r) → ∀ bs ∈ takeRaw s r (takeN s g most r).toNat, goodE bs = true → Q (entE bs)) :
    Con Tryz.prog 90 #[.pointer (some ⟨p, 0, none⟩), .int .i64 g, .int .i64 most] E l (fun _ : Unit => .int .i64 (kTakeIn s g most).2) (fun _ => coA p (kTakeIn s g most).1 :: m) := by
  refine Con.body (n := 143) Tryz.func90 Z Z _ (env_ok 3 Z) <| J_pick hp <| sr <| ag Z Z <| nx <| mv Z Z <| mv Z Z <| xo fc43 (A2 Z Z) Z (coRing (s := s) (u := g) PC) fun _ => J_slot (t := 26) (v := .pointer ((look (ptrs (KS.rg s)) g).map fun b => ⟨b, 0, none⟩)) Z Z <| ag Z Z <| nxx <| mv Z Z <| L_pur Z (p_eqNilPtr Tryz.underlying80 Z) <| mv Z Z <| J_gsplit (t := 29) Z (fun h29 => ?_) (fun h29 => ?_)
  have hno : look (KS.rg s) g = none := by
    cases hq : look (KS.rg s) g with
    | none => rfl
    | some y => rw [look_ptrs, hq] at h29; simp at h29
  have hki : (kTakeIn s g most) = (s, 0) := by unfold kTakeIn; rw [hno]
  refine gz Z Z Z Z Z <| gz Z Z Z Z Z <| gz Z Z Z Z Z <| L_pur Z (p_pick_t Z Z) <| nq <| C_true Z <| J_seq <| J_pick (A := coA p _) PC <| J_asTo (B := coA p (kTakeIn s g most).1) (by rw [hki]) <| J_region <| ag Z Z <| nq <| J_ret <| Q_then_ret <| J_return (()) Tryz.results90 (.tmp Z .nil) ?_ ?_
  · rw [hki]; rfl
  · exact SU
  obtain ⟨⟨b, r⟩, hl⟩ : ∃ x, look (KS.rg s) g = some x := by
    cases hq : look (KS.rg s) g with
    | none => rw [look_ptrs, hq] at h29; simp at h29
    | some y => exact ⟨y, rfl⟩
  have hR : RgOk r := (hW.fit.rg _ (mem_look hl)).1
  have hov : r.over.length + s.rt.length ≤ M := (hW.fit.rg _ (mem_look hl)).2
  have hMm := hW.fit.mem
  have hQ1 := hQ b r hl
  clear hQ
  refine J_slot (t := 7) (v := .pointer (some ⟨b, 0, none⟩)) Z (by rw [look_ptrs, hl]; rfl) <| gp Z Z Z (p_move Z) Z <| L_op <| G_on Z Z Z <| xc fc88 (A1 Z) Z (coRgValid (s := s) (u := g) PC hl hR hMm) fun _ => gp Z Z Z (p_not Z) Z <| L_pur Z (p_pick_f Z Z) <| nq <| C_split Z (fun h33 => ?_) (fun h33 => ?_)
  have hki : (kTakeIn s g most) = (s, 0) := by unfold kTakeIn; rw [hl]; exact if_neg (by simpa using h33)
  refine J_seq <| J_pick (A := coA p _) PC <| J_asTo (B := coA p (kTakeIn s g most).1) (by rw [hki]) <| J_region <| ag Z Z <| nq <| J_ret <| Q_then_ret <| J_return (()) Tryz.results90 (.tmp Z .nil) ?_ ?_
  · rw [hki]; rfl
  · exact SU
  have hvl : rgValid r s.mem = true := by simpa using h33
  have hki : (kTakeIn s g most) = (kTaken s g r (takeN s g most r), takeN s g most r) := by unfold kTakeIn; rw [hl]; exact if_pos hvl
  refine J_skip <| qx <| mv Z Z <| xo fc46 (A1 Z) Z (coRgWait (s := s) (u := g) PC hl hR hMm) fun _ => mv Z Z <| L_pur Z (p_extract Z Z) <| L_pur Z (p_extract Z Z) <| ag Z Z <| ag Z Z <| nx <| mv Z Z <| mv Z Z <| mv Z Z <| xo fc16 (A1 Z) Z (coReqs) fun _ => mv Z Z <| xo fc23 (A2 Z Z) Z (coRqOf (s := s) (g := g) PC hW.fit.ids (by have := hW.fit.jn; omega)) <| JR fun a44 c44 hw44 hl44 hm44 hz44 => ?_
  have hol := ofQ_len s.rt g
  have hjn := hW.fit.jn
  refine L_pur Z (p_len Z Tryz.underlying46) <| J_slot (t := 45) (v := .int .i64 ((ofQ s.rt g).length : Int)) Z (by rw [List.length_map]) <| L_pur Z (p_sub64 Z Z (by omega)) <| L_pur Z (p_min3 Z Z Z) <| L_pur Z (p_max Z Z) ?_
  have hni := takeN_in (s := s) (g := g) (most := most) hR
  obtain ⟨n, hn⟩ : ∃ n : Nat, takeN s g most r = (n : Int) := ⟨(takeN s g most r).toNat, by omega⟩
  have hki : (kTakeIn s g most) = (kTaken s g r (n : Int), (n : Int)) := by rw [hki, hn]
  rw [hn] at hni hQ1
  rw [Int.toNat_natCast] at hQ1
  refine J_slot (t := 48) (v := .int .i64 (n : Int)) Z (by rw [← hn]; rfl) <| ag Z Z <| nx <| ag Z Z <| nq <| J_seq <| J_seq <| J_nil (el := 73) (sz := 1) <| J_rowEq (ys := ([] : List (Value × List Int)).map fun x : Value × List Int => [x.1]) (by rfl) <| J_eachNil memF <| J_rawS (v := .slice none 0 0) (ms := takeRaw s r 0) [] PX Z <| J_region <| mv Z Z <| mv Z Z <| nq <| J_block <| J_loop2 (fun k v => k ≤ n) (fun k v => rawA v (takeRaw s r k) :: coA p s :: m) (fun k v => [(50, .int .i64 (k : Int)), (49, .int .i64 (n : Int)), (10, v), (7, .pointer (some ⟨b, 0, none⟩)), (8, .int .i64 (n : Int)), (0, .pointer (some ⟨p, 0, none⟩)), (1, .int .i64 g)]) (fun k v => n - k) 0 _ (by omega) SU KE ?_
  intro k v hk
  refine sr <| L_pur Z (p_lss Z Z) <| nq <| J_seq <| C_dec Z (fun h51 => ?_) (fun h51 => ?_)
  refine J_pick (A := rawA v _) PC <| J_rawO fun xs hxs => ?_
  have hxl : xs.length = k := by have := congrArg List.length (show xs.map Prod.snd = _ from hxs); rw [List.length_map, takeRaw_len] at this; exact this
  refine J_row .here fun hwv av cv hvv h1v h2v h3v => ?_
  subst hvv
  have hml : (xs.map fun x : Value × List Int => [x.1]).length = xs.length := List.length_map _
  have hmv : cv ≤ 9223372036854775807 := h2v
  refine J_skip <| Q_then <| J_seq <| J_block <| sr <| mv Z Z <| ag Z Z <| ny <| mv Z Z <| mv Z Z <| mv Z Z <| xo fc135 (A2 Z Z) Z (coRgFetch (s := s) (u := g) (i := k) PC hl hR hMm (by omega)) <| JR fun a56 c56 hw56 hl56 hm56 hz56 => L_op <| x_lit (vals := [_]) Tryz.underlying290 ty73 Z (.cons Z .nil) (.one Z .nil) (Wf.cons Z Z Wf.nil) Z (by decide) Z Z <| JE ([[(Value.slice a56 ((fetchB r s.mem k).map encU).length c56)]]) (by rfl) fun a57 c57 hw57 hl57 hm57 hz57 => L_op <| x_app Z Z Tryz.underlying290 ty73 Z Z PC (fun w H => sep_reads HS H) (by simp; omega) (by simp; omega) Z <| JE ((xs ++ [((Value.slice a56 ((fetchB r s.mem k).map encU).length c56), fetchB r s.mem k)]).map fun x : Value × List Int => [x.1]) (by simp) fun a58 c58 hw58 hl58 hm58 hz58 => ag Z Z <| L_nil <| Q_blk_normal <| Q_then <| J_pick (A := each memF xs) PC ?_
  refine J_pick (A := row 5 1 (Value.slice a56 ((fetchB r s.mem k).map encU).length c56) _) PC <| J_asTo (B := memF ((Value.slice a56 ((fetchB r s.mem k).map encU).length c56), fetchB r s.mem k)) (by rfl) <| J_pick (A := each memF xs) PC <| J_pick (A := memF ((Value.slice a56 ((fetchB r s.mem k).map encU).length c56), fetchB r s.mem k)) PC <| J_eachPush <| J_rawS (v := .slice a58 _ c58) (ms := takeRaw s r (k + 1)) (xs ++ [((Value.slice a56 ((fetchB r s.mem k).map encU).length c56), fetchB r s.mem k)]) PX (by show List.map Prod.snd _ = _; rw [List.map_append, show xs.map Prod.snd = _ from hxs, takeRaw_succ]; rfl) <| J_region <| L_pur Z (p_add64 Z Z (by omega)) <| mv Z Z <| nq ?_
  exact J_again2 (k + 1) _ (by omega) (by omega) SU KE
  have hkn : k = n := by omega
  obtain ⟨raw, hraw⟩ : ∃ raw, raw = takeRaw s r n := ⟨_, rfl⟩
  have hrl : raw.length = n := by rw [hraw]; exact takeRaw_len s r n
  have hRm : ∀ bs ∈ raw, bs.length = 32 ∧ Bytes bs := by rw [hraw]; exact takeRaw_mem hR hMm
  refine J_pick (A := rawA v _) PC <| J_asTo (B := rawA v raw) (by rw [hkn, hraw]) ?_
  clear hkn hk
  refine J_rawO fun xs hxs => ?_
  have hxs : xs.map Prod.snd = raw := hxs
  have hxl : xs.length = n := by rw [← hrl, ← hxs, List.length_map]
  refine J_row .here fun hw10 a10 c10 hv10 hl10 hm10 hz10 => ?_
  subst hv10
  have hml : (xs.map fun x : Value × List Int => [x.1]).length = xs.length := List.length_map _
  have hmv : c10 ≤ 9223372036854775807 := hm10
  refine J_exit <| Q_then_exit <| Q_then_exit <| Q_blk_this <| qx <| mv Z Z <| mv Z Z <| xo fc136 (A2 Z Z) Z (coRgAdv (s := s) (u := g) (n := (n : Int)) PC hl hR hMm) fun _ => nq <| J_seq <| J_pick (A := coA p _) PC <| J_asTo (B := coA p (kAdv s g r (n : Int))) (by rfl) <| J_region <| mv Z Z <| mv Z Z <| mv Z Z <| xo fc67 (A3 Z Z Z) Z (coTake (s := kAdv s g r (n : Int)) (r := g) (n := (n : Int)) PC (by show _ ≤ (look s.tk g).getD 0 ∧ (look s.tk g).getD 0 ≤ _; omega) (by omega)) fun _ => ?_
  obtain ⟨S2, hS2⟩ : ∃ S, S = kTake (kAdv s g r (n : Int)) g (n : Int) := ⟨_, rfl⟩
  obtain ⟨first, hfi⟩ : ∃ f, f = kTakeV (kAdv s g r (n : Int)) g (n : Int) := ⟨_, rfl⟩
  have hfr : 0 ≤ first ∧ first ≤ 1000000001 := by
    rw [hfi]; unfold kTakeV
    split
    · show 0 ≤ (look s.tk g).getD 0 + 1 ∧ (look s.tk g).getD 0 + 1 ≤ _; omega
    · omega
  refine J_slot (t := 66) (v := .int .i64 first) Z (by rw [hfi]) <| J_pick (A := coA p _) PC <| J_asTo (B := coA p S2) (by rw [hS2]) ?_
  have hW2 : WellQ Q S2 N M := by rw [hS2]; exact (hW.adv hl _).take g _
  have hs2 : Srt S2.tm := by rw [hS2, (kTake_tm _ _ _).1]; exact hS
  have hQR : ∀ bs ∈ raw, Bytes bs ∧ (goodE bs = true → Q (entE bs)) := fun bs hb => ⟨(hRm bs hb).2, hQ1 bs (by rw [← hraw]; exact hb)⟩
  have hkt : kTaken s g r (n : Int) = takeF g first none 0 raw S2 := by unfold kTaken; rw [Int.toNat_natCast, ← hraw, ← hfi, ← hS2]
  refine ag Z Z <| nx <| ag Z Z <| nx <| ag Z Z <| nq <| J_seq <| J_seq <| J_nil (el := 4) (sz := 1) <| J_nil (el := 34) (sz := 8) <| J_rowEq (ys := ((((raw.take 0).map zOf).map Prod.snd).map encSq)) (by rfl) <| J_pick (A := row 4 1 (.slice none 0 0) []) PC ?_
  refine J_rowEq (ys := ((((raw.take 0).map zOf).map Prod.fst).map fun b => [Value.bool b])) (by rfl) <| J_region <| mv Z Z <| L_pur Z (p_len Z Tryz.underlying290) <| mv Z Z <| nq <| J_block <| J_loop3 (fun k v13 v14 => k ≤ n) (fun (k : Nat) (v13 v14 : Value) => row 34 8 v13 ((((raw.take k).map zOf).map Prod.snd).map encSq) :: row 4 1 v14 ((((raw.take k).map zOf).map Prod.fst).map fun b => [Value.bool b]) :: row 73 1 (.slice a10 (xs.map fun x : Value × List Int => [x.1]).length c10) (xs.map fun x : Value × List Int => [x.1]) :: each memF xs :: coA p S2 :: m) (fun (k : Nat) (v13 v14 : Value) => [(69, .int .i64 (k : Int)), (68, .int .i64 ((xs.map fun x : Value × List Int => [x.1]).length : Int)), (67, .slice a10 (xs.map fun x : Value × List Int => [x.1]).length c10), (10, .slice a10 (xs.map fun x : Value × List Int => [x.1]).length c10), (13, v13), (14, v14), (8, .int .i64 (n : Int)), (12, .int .i64 first), (0, .pointer (some ⟨p, 0, none⟩)), (1, .int .i64 g)]) (fun k v13 v14 => n - k) 0 _ _ (by omega) SU KE ?_
  intro k v13 v14 hk
  have htl : (raw.take k).length ≤ k := by rw [List.length_take]; omega
  refine sr <| L_pur Z (p_lss Z Z) <| nq <| J_seq <| C_dec Z (fun h70 => ?_) (fun h70 => ?_)
  have hlt : k < n := by omega
  obtain ⟨⟨vk, bk⟩, hxk⟩ : ∃ x, xs[k]? = some x := ⟨_, List.getElem?_eq_getElem (by omega)⟩
  have hlx : k < xs.length := by omega
  have hbk : raw[k]? = some bk := by rw [← hxs, List.getElem?_map, hxk]; rfl
  obtain ⟨hb32, hbB⟩ := hRm bk (List.mem_of_getElem? hbk)
  have htk : raw.take (k + 1) = raw.take k ++ [bk] := by rw [List.take_add_one, hbk]; rfl
  obtain ⟨ba, oa, rfl⟩ := hz10 (by intro h; have := congrArg List.length h; simp at this; subst this; simp at hlx)
  
  refine J_skip <| Q_then <| J_seq <| J_block <| sr <| L_pur Z (p_indexAddr Z Z Tryz.underlying290 ty73 (by omega) (by omega)) <| L_val Z (v_loadE1 Z ty73 HS (by simp only [Int.toNat_natCast, List.getElem?_map, hxk]; rfl)) ?_
  refine ag Z Z <| nq <| J_seq <| J_pick (A := each memF xs) PC <| J_eachOut hxk <| J_asTo (B := row 5 1 vk (bk.map encU)) (by rfl) <| J_region <| mv Z Z <| xo fc137 (A1 Z) Z (readEC (bs := bk) (fun w H => sep_reads (xs := bk.map encU) HS H) hb32 hbB) fun _ => mv Z Z <| L_pur Z (p_extract Z Z) <| L_pur Z (p_extract Z Z) <| L_op <| x_alloc ty34 Z fun b17 => L_op <| x_store Z Z ty34 Z SM SM RO PT <| ag Z Z <| nq <| J_pick (A := row 5 1 vk _) PC <| J_asTo (B := memF (vk, bk)) (by rfl) <| J_pick (A := each memF _) PC <| J_pick (A := memF (vk, bk)) PC <| J_eachIn (vk, bk) hlx <| J_asTo (B := each memF xs) (by rw [lset_same hxk]) <| J_region <| mv Z Z <| L_val Z (v_loadA Z ty34 HS CT) ?_
  refine L_op <| x_lit (vals := [_]) Tryz.underlying54 ty34 Z (.cons Z .nil) (.agg .nil) (Wf.cons Z Z Wf.nil) Z (by decide) Z Z <| JE ([encSq (entE bk)]) (by rfl) fun a80 c80 hw80 hl80 hm80 hz80 => L_op <| x_app Z Z Tryz.underlying54 ty34 Z Z PC (fun w H => sep_reads HS H) (by simp; omega) (by simp; omega) Z <| JE (((((raw.take (k + 1)).map zOf).map Prod.snd).map encSq)) (by rw [htk]; simp [zOf]) fun a81 c81 hw81 hl81 hm81 hz81 => mv Z Z <| mv Z Z ?_
  refine L_op <| x_lit (vals := [_]) Tryz.underlying71 ty4 Z (.cons Z .nil) (.one Z .nil) (Wf.cons Z Z Wf.nil) Z (by decide) Z Z <| JE ([[Value.bool (goodE bk)]]) (by rfl) fun a84 c84 hw84 hl84 hm84 hz84 => L_op <| x_app Z Z Tryz.underlying71 ty4 Z Z PC (fun w H => sep_reads HS H) (by simp; omega) (by simp; omega) Z <| JE (((((raw.take (k + 1)).map zOf).map Prod.fst).map fun b => [Value.bool b])) (by rw [htk]; simp [zOf]) fun a85 c85 hw85 hl85 hm85 hz85 => ag Z Z <| ag Z Z <| L_nil <| Q_blk_normal <| qr <| L_pur Z (p_add64 Z Z (by omega)) <| mv Z Z <| nq ?_
  exact J_again3 (k + 1) _ _ (by omega) (by omega) SU KE
  have hkn : k = n := by omega
  obtain ⟨zs, hzs⟩ : ∃ zs, zs = raw.map zOf := ⟨_, rfl⟩
  have hzl : zs.length = n := by rw [hzs, List.length_map, hrl]
  refine J_pick (A := row 34 8 v13 _) PC <| J_rowEq (ys := ((zs.map Prod.snd).map encSq)) (by rw [hkn, List.take_of_length_le (by omega), hzs]) <| J_row .here fun hw13 a13 c13 hv13 hl13 hm13 hz13 => ?_
  subst hv13
  refine J_pick (A := row 4 1 v14 _) PC <| J_rowEq (ys := ((zs.map Prod.fst).map fun b => [Value.bool b])) (by rw [hkn, List.take_of_length_le (by omega), hzs]) <| J_row .here fun hw14 a14 c14 hv14 hl14 hm14 hz14 => ?_
  subst hv14
  have hmc13 : c13 ≤ 9223372036854775807 := hm13
  have hmc14 : c14 ≤ 9223372036854775807 := hm14
  refine J_exit <| Q_then_exit <| Q_then_exit <| Q_blk_this <| qx <| mv Z Z <| mv Z Z <| mv Z Z <| mv Z Z <| xo fc138 (A4 Z Z Z Z) Z (planC (zs := zs) (ring := g) (seq := first) (fun w H => sep_reads (xs := ((zs.map Prod.fst).map fun b => [Value.bool b])) HS H) (fun w H => sep_reads (xs := ((zs.map Prod.snd).map encSq)) HS H) (by omega) hfr.1 (by omega)) <| JR fun a91 c91 hw91 hl91 hm91 hz91 => ag Z Z <| nq <| J_seq <| J_seq <| J_pick (A := row 122 13 _ _) PC <| J_rowEq (ys := (planP g first (lastP none (zs.take 0)) 0 (zs.drop 0)).map encQ) (by rfl) <| J_pick (A := coA p _) PC ?_
  refine J_asTo (B := coA p (takeF g first none 0 (raw.take 0) S2)) (by rfl) <| J_region <| mv Z Z <| L_pur Z (p_len Z Tryz.underlying290) <| mv Z Z <| nq <| J_block <| J_loop2 (fun k v19 => k ≤ n) (fun (k : Nat) (v19 : Value) => row 122 13 v19 ((planP g first (lastP none (zs.take k)) k (zs.drop k)).map encQ) :: row 34 8 (.slice a13 ((zs.map Prod.snd).map encSq).length c13) ((zs.map Prod.snd).map encSq) :: row 4 1 (.slice a14 ((zs.map Prod.fst).map fun b => [Value.bool b]).length c14) ((zs.map Prod.fst).map fun b => [Value.bool b]) :: row 73 1 (.slice a10 (xs.map fun x : Value × List Int => [x.1]).length c10) (xs.map fun x : Value × List Int => [x.1]) :: each memF xs :: coA p (takeF g first none 0 (raw.take k) S2) :: m) (fun (k : Nat) (v19 : Value) => [(94, .int .i64 (k : Int)), (93, .int .i64 ((xs.map fun x : Value × List Int => [x.1]).length : Int)), (92, .slice a10 (xs.map fun x : Value × List Int => [x.1]).length c10), (19, v19), (13, .slice a13 ((zs.map Prod.snd).map encSq).length c13), (14, .slice a14 ((zs.map Prod.fst).map fun b => [Value.bool b]).length c14), (8, .int .i64 (n : Int)), (12, .int .i64 first), (0, .pointer (some ⟨p, 0, none⟩)), (1, .int .i64 g)]) (fun k v19 => n - k) 0 _ (by omega) SU KE ?_
  intro k v19 hk
  refine sr <| L_pur Z (p_lss Z Z) <| nq <| J_seq <| C_dec Z (fun h95 => ?_) (fun h95 => ?_)
  have hlt : k < n := by omega
  obtain ⟨⟨vk, bk⟩, hxk⟩ : ∃ x, xs[k]? = some x := ⟨_, List.getElem?_eq_getElem (by omega)⟩
  have hlx : k < xs.length := by omega
  have hbk : raw[k]? = some bk := by rw [← hxs, List.getElem?_map, hxk]; rfl
  obtain ⟨hb32, hbB⟩ := hRm bk (List.mem_of_getElem? hbk)
  have htk : raw.take (k + 1) = raw.take k ++ [bk] := by rw [List.take_add_one, hbk]; rfl
  obtain ⟨ba, oa, rfl⟩ := hz10 (by intro h; have := congrArg List.length h; simp at this; subst this; simp at hlx)
  have hzk : zs[k]? = some (zOf bk) := by rw [hzs, List.getElem?_map, hbk]; rfl
  have hdz : zs.drop k = zOf bk :: zs.drop (k + 1) := by rw [List.drop_eq_getElem_cons (by omega), (List.getElem?_eq_some_iff.1 hzk).2]
  have hla : lastP none (zs.take (k + 1)) = nextP (zOf bk) := by rw [List.take_add_one, hzk]; exact lastP_snoc _ _
  have htl : (raw.take k).length = k := by rw [List.length_take]; omega
  obtain ⟨Sk, hSk⟩ : ∃ S, S = (takeF g first none 0 (raw.take k) S2) := ⟨_, rfl⟩
  have hsn := takeF_take (g := g) (first := first) hbk hSk
  rw [← hzs] at hsn
  have hWS := WellQ.takeF (g := g) (first := first) (p := none) (k := 0) (raw.take k) hW2 (by rw [htl]; omega) (by rw [htl]; omega) hs2 (fun bs hb => hQR bs (List.mem_of_mem_take hb))
  rw [htl, ← hSk] at hWS
  obtain ⟨hWk, hsk⟩ := hWS
  have hjk := hWk.fit.jn
  have htmk := hWk.fit.tm
  refine J_pick (A := coA p _) PC <| J_asTo (B := coA p Sk) (by rw [hSk]) ?_
  obtain ⟨b14, o14, rfl⟩ := hz14 (by intro h; have := congrArg List.length h; simp at this; subst this; simp at hzk)
  obtain ⟨b13, o13, rfl⟩ := hz13 (by intro h; have := congrArg List.length h; simp at this; subst this; simp at hzk)
  refine J_skip <| Q_then <| J_seq <| J_block <| sr <| mv Z Z <| L_pur Z (p_indexAddr Z Z Tryz.underlying290 ty73 (by omega) (by omega)) <| L_val Z (v_loadE1 Z ty73 HS (by simp only [Int.toNat_natCast, List.getElem?_map, hxk]; rfl)) ?_
  refine ag Z Z <| ag Z Z <| nxx <| mv Z Z <| mv Z Z <| L_pur Z (p_indexAddr Z Z Tryz.underlying71 ty4 (by omega) (by simp; omega)) <| L_val Z (v_loadE1 Z ty4 HS (by simp only [Int.toNat_natCast, List.getElem?_map, hzk]; rfl)) ?_
  refine L_pur Z (p_not Z) <| nq <| C_split Z (fun h103 => ?_) (fun h103 => ?_)
  have hgb : goodE bk = false := by simpa [zOf] using h103
  refine J_seq <| J_pick (A := each memF xs) PC <| J_eachOut hxk <| J_asTo (B := row 5 1 vk (bk.map encU)) (by rfl) <| J_region <| mv Z Z <| mv Z Z <| mv Z Z <| mv Z Z <| L_pur Z (p_add64 Z Z (by omega)) <| L_pur Z (bld36 (.cons Z (.cons Z .nil)) (by repeat constructor)) <| mv Z Z <| xo fc139 (A2 Z Z) Z (u32C (a := 4) (bs := bk) (fun w H => sep_reads (xs := bk.map encU) HS H) (by omega) (by omega) hbB) fun _ => L_pur Z (bld45 (.cons Z (.cons Z (.cons Z .nil))) (by repeat constructor)) <| J_slot (t := 112) (v := .agg (encD (badD g first k bk)).toArray) Z Z <| J_pick (A := row 5 1 vk _) PC <| J_asTo (B := memF (vk, bk)) (by rfl) <| J_pick (A := each memF _) PC <| J_pick (A := memF (vk, bk)) PC ?_
  refine J_eachIn (vk, bk) hlx <| J_asTo (B := each memF xs) (by rw [lset_same hxk]) <| xo fc121 (A2 Z Z) Z (coTell (s := Sk) (d := badD g first k bk) PC (decC Sk.rt.length (N + k) (M + k + 1)) (Nat.le_refl _) hWk.fit (by omega)) fun _ => nq <| J_exit <| Q_then_exit <| Q_blk_this <| qr <| L_pur Z (p_add64 Z Z (by omega)) <| mv Z Z <| nq <| J_pick (A := coA p _) PC <| J_asTo (B := coA p (takeF g first none 0 (raw.take (k + 1)) S2)) (by rw [hsn, if_neg (by rw [hgb]; decide)]) <| J_pick (A := row 122 13 _ _) PC <| J_rowEq (ys := (planP g first (lastP none (zs.take (k + 1))) (k + 1) (zs.drop (k + 1))).map encQ) (by rw [hdz, planP, if_neg (by rw [show (zOf bk).1 = goodE bk from rfl, hgb]; decide), hla, nextP, if_neg (by rw [show (zOf bk).1 = goodE bk from rfl, hgb]; decide)]) ?_
  exact J_again2 (k + 1) _ (by omega) (by omega) SU KE
  have hgg : goodE bk = true := by simpa [zOf] using h103
  obtain ⟨qk, hqk⟩ : ∃ q, q = reqP g first (lastP none (zs.take k)) k (entE bk) := ⟨_, rfl⟩
  have hqe : qk.e = entE bk := by rw [hqk]; rfl
  refine J_pick (A := row 122 13 v19 _) PC <| J_rowEq (ys := encQ qk :: (planP g first (some (entE bk)) (k + 1) (zs.drop (k + 1))).map encQ) (by rw [hdz, planP, if_pos (show (zOf bk).1 = true from hgg), hqk]; rfl) <| J_row .here fun hw19 a19 c19 hv19 hl19 hm19 hz19 => ?_
  subst hv19
  have hmc19 : c19 ≤ 9223372036854775807 := hm19
  obtain ⟨b19, o19, rfl⟩ := hz19 (by simp)
  refine J_skip <| Q_then <| J_seq <| J_drawL (some 5) mixed <| ip 0 Z Z Z Z (p_move Z) <| ip 2 Z Z Z Z (p_move Z) <| ip 3 Z Z Z Z (p_indexAddr Z Z Tryz.underlying46 ty122 (by omega) (by simp)) <| iv 4 Z Z Z Z (fun _ => v_loadE Z ty122 HS (by rfl)) <| i1 1 Z <| xc fc16 (A1 Z) Z (coReqs) fun _ => i1 5 Z <| xc fc64 (A2 Z Z) Z (coRqAdd (s := Sk) (q := qk) PC hWk.fit.ids (by omega)) fun _ => i0 <| Q_then <| J_seq <| J_seq <| J_drawL none mixed <| ip 0 Z Z Z Z (p_move Z) <| ip 1 Z Z Z Z (p_move Z) <| ip 2 Z Z Z Z (p_indexAddr Z Z Tryz.underlying54 ty34 (by omega) (by simp; omega)) <| I_take (i := 3) Z Z Z Z (by kernel_rfl) (fun _ _ _ _ h => h) (fun _ => v_loadE Z ty34 HS (by simp only [Int.toNat_natCast, List.getElem?_map, hzk]; rfl)) ?_
  refine ip 4 Z Z Z Z (p_move Z) <| i1 5 Z <| xc fc100 (A1 Z) Z (coNow (s := { Sk with rt := addQ Sk.rt qk }) PC) fun _ => i1 6 Z <| xc fc140 (A2 Z Z) Z (deadEC (e := entE bk) (now := Sk.now) (entE_time hbB)) fun _ => ip 7 Z Z Z Z (p_move Z) <| ip 8 Z Z Z Z (p_extract Z Z) <| ip 9 Z Z Z Z (p_extract Z Z) <| ip 10 Z Z Z Z (p_assign Z) <| ip 11 Z Z Z Z (p_assign Z) <| i0 <| qx <| mv Z Z <| nq <| C_split Z (fun h130 => ?_) (fun h130 => ?_)
  obtain ⟨d, hdd⟩ : ∃ x, deadE (entE bk) Sk.now = some x := by
    cases hq : deadE (entE bk) Sk.now with
    | none => rw [hq] at h130; simp at h130
    | some y => exact ⟨y, rfl⟩
  refine J_slot (t := 22) (v := .int .u64 d) Z (by rw [hdd]; rfl) <| J_drawL (some 7) mixed <| ip 0 Z Z Z Z (p_move Z) <| ip 2 Z Z Z Z (p_move Z) <| ip 3 Z Z Z Z (p_move Z) <| ip 4 Z Z Z Z (p_indexAddr Z Z Tryz.underlying46 ty122 (by omega) (by simp)) <| ip 5 Z Z Z Z (p_fieldAddr Z fa122_0) <| iv 6 Z Z Z Z (fun _ => v_loadFA Z ty36 HS (by rfl) CT) <| i1 1 Z <| xc fc62 (A1 Z) Z (coTimers) fun _ => i1 7 Z <| xc fc141 (A3 Z Z Z) Z (coTmPush (s := { Sk with rt := addQ Sk.rt qk }) (d := d) (i := qk.id) PC (by show Sk.tm.length ≤ _; omega) hsk) fun _ => i0 <| qr <| mv Z Z <| L_pur Z (p_slice Z Tryz.underlying46 ty122 Z Z (by omega) (by simp; omega) (by simp at hl19 ⊢; omega)) <| J_pick (A := row 122 13 _ _) PC ?_
  refine J_dropS (t := 140) (lo := 1) Z (by simp) fun a140 => ag Z Z <| L_nil <| Q_blk_normal <| qr <| L_pur Z (p_add64 Z Z (by omega)) <| mv Z Z <| nq <| J_pick (A := coA p _) PC <| J_asTo (B := coA p (takeF g first none 0 (raw.take (k + 1)) S2)) (by rw [hsn, if_pos hgg, ← hqk]; unfold addT; rw [hqe, hdd]) <| J_pick (A := row 122 13 _ _) PC <| J_rowEq (ys := (planP g first (lastP none (zs.take (k + 1))) (k + 1) (zs.drop (k + 1))).map encQ) (by rw [hla, nextP, if_pos (show (zOf bk).1 = true from hgg)]; rfl) ?_
  exact J_again2 (k + 1) _ (by omega) (by omega) SU KE
  have hdd : deadE (entE bk) Sk.now = none := by
    cases hq : deadE (entE bk) Sk.now with
    | none => rfl
    | some y => rw [hq] at h130; simp at h130
  refine J_skip <| qr <| mv Z Z <| L_pur Z (p_slice Z Tryz.underlying46 ty122 Z Z (by omega) (by simp; omega) (by simp at hl19 ⊢; omega)) <| J_pick (A := row 122 13 _ _) PC ?_
  refine J_dropS (t := 140) (lo := 1) Z (by simp) fun a140 => ag Z Z <| L_nil <| Q_blk_normal <| qr <| L_pur Z (p_add64 Z Z (by omega)) <| mv Z Z <| nq <| J_pick (A := coA p _) PC <| J_asTo (B := coA p (takeF g first none 0 (raw.take (k + 1)) S2)) (by rw [hsn, if_pos hgg, ← hqk]; unfold addT; rw [hqe, hdd]) <| J_pick (A := row 122 13 _ _) PC <| J_rowEq (ys := (planP g first (lastP none (zs.take (k + 1))) (k + 1) (zs.drop (k + 1))).map encQ) (by rw [hla, nextP, if_pos (show (zOf bk).1 = true from hgg)]; rfl) ?_
  exact J_again2 (k + 1) _ (by omega) (by omega) SU KE
  have hkn : k = n := by omega
  refine J_pick (A := coA p _) PC <| J_asTo (B := coA p (kTakeIn s g most).1) (by rw [hki, hkt, hkn, List.take_of_length_le (by omega)]) <| J_exit <| Q_then_exit <| Q_then_exit <| Q_blk_this <| qx <| mv Z Z <| ag Z Z <| nq <| J_ret <| J_return (()) Tryz.results90 (.tmp Z .nil) ?_ ?_
  · rw [hki]; rfl
  · exact SU
variable {Q : Sqe → Prop}
theorem WellQ.upTo {N2 M2 : Nat} (h : WellQ Q s N M) (hN : N ≤ N2) (hM : M ≤ M2) (hN2 : N2 ≤ 90000) (hM2 : M2 ≤ 90000) : WellQ Q s N2 M2 := by
  have hf := h.fit
  exact ⟨⟨hN2, hM2, hf.ids, Nat.le_trans hf.jn hM, Nat.le_trans hf.tm hN, fun x hx => ⟨(hf.ep x hx).1, Nat.le_trans (hf.ep x hx).2.1 hN, Nat.le_trans (hf.ep x hx).2.2 hN⟩, fun x hx => ⟨(hf.nt x hx).1, Nat.le_trans (hf.nt x hx).2 hN⟩, hf.rp, fun x hx => ⟨(hf.rg x hx).1, Nat.le_trans (hf.rg x hx).2 hM⟩, hf.mem⟩, Nat.le_trans h.q hN, Nat.le_trans h.mp hN, Nat.le_trans h.sl hN, h.rg, h.tree, h.marks, h.thr, h.ent, h.rtk⟩
theorem WellQ.takeIn (h : WellQ Q s N M) (hN : N + 8 ≤ 90000) (hM : M + 8 ≤ 90000) (hs : Srt s.tm) (hQ : ∀ b r, look s.rg g = some (b, r) → ∀ bs ∈ takeRaw s r (takeN s g most r).toNat, goodE bs = true → Q (entE bs)) : WellQ Q (kTakeIn s g most).1 (N + 8) (M + 8) ∧ Srt (kTakeIn s g most).1.tm := by
  unfold kTakeIn
  cases hl : look s.rg g with
  | none => exact ⟨h.upTo (by omega) (by omega) hN hM, hs⟩
  | some x =>
    obtain ⟨b, r⟩ := x
    dsimp only
    have hr : RgOk r := (h.fit.rg _ (mem_look hl)).1
    have hn := takeN_in (s := s) (g := g) (most := most) hr
    by_cases hv : rgValid r s.mem = true
    · rw [if_pos hv]
      have h4 := h.taken hN hM hs hl (hQ b r hl)
      exact ⟨h4.1.upTo (by omega) (by omega) hN hM, h4.2⟩
    · rw [if_neg hv]; exact ⟨h.upTo (by omega) (by omega) hN hM, hs⟩
theorem coRunG (hp : Pick (coA p s) l m) {bud : Int} (hW : WellQ Q s N M) (hb : bud ≤ 1000) (hN : N + 1010 ≤ 90000) (hM : M ≤ 45000) (hD : ∀ (s : KS) (N M : Nat) (q : Rq) (T : Th) (i : ID), Good s N M → SqeOk q.e → Q q.e → DoesC s T q i) :
    Con Tryz.prog 57 #[.pointer (some ⟨p, 0, none⟩), .int .i64 g, .int .i64 bud] E l (fun β : Nat → Nat => .int .i64 ((kRunN g β bud.toNat 0 s).2 : Int)) (fun β => coA p (kRunN g β bud.toNat 0 s).1 :: m) := by
  refine Con.body (n := 31) Tryz.func57 Z Z _ (env_ok 3 Z) <| J_pick hp <| sr <| ag Z Z <| nxx <| mv Z Z <| L_pur Z (p_max Z Z) ?_
  obtain ⟨B, hB⟩ : ∃ B : Nat, (if (0 : Int) > bud then 0 else bud) = (B : Int) := ⟨(if (0 : Int) > bud then 0 else bud).toNat, by split <;> omega⟩
  have hB2 : B = bud.toNat := by split at hB <;> omega
  refine J_slot (t := 11) (v := .int .i64 (B : Int)) Z (by rw [hB]) <| mv Z Z <| nq <| J_block <| J_loop2 (fun (j : Nat) (bs : List Nat) => j ≤ B ∧ bs.length = j ∧ okS g bs s = true) (fun j bs => coA p (runS g bs s) :: m) (fun j bs => [(12, .int .i64 (j : Int)), (11, .int .i64 (B : Int)), (0, .pointer (some ⟨p, 0, none⟩)), (1, .int .i64 g), (2, .int .i64 bud)]) (fun j bs => B - j) 0 [] ⟨by omega, rfl, rfl⟩ SU KE ?_
  intro j bs ⟨hj, hbl, hok⟩
  have hWS0 := hW.runS (g := g) (bs := bs) (by omega)
  rw [hbl] at hWS0
  obtain ⟨S, hS⟩ : ∃ S, S = (runS g bs s) := ⟨_, rfl⟩
  refine J_asTo (B := coA p S) (by rw [hS]) ?_
  have hWS : WellQ Q S (N + j) M := by rw [hS]; exact hWS0
  refine sr <| L_pur Z (p_lss Z Z) <| nq <| J_seq <| C_dec Z (fun h13 => ?_) (fun h13 => ?_)
  refine J_skip <| Q_then <| J_seq <| J_block <| sr <| mv Z Z <| ag Z Z <| nx <| mv Z Z <| xo fc16 (A1 Z) Z (coReqs) fun _ => mv Z Z <| xo fc101 (A2 Z Z) Z (coRqNext (s := S) (g := g) PC hWS.fit.ids (by have := hWS.fit.jn; omega)) fun _ => mv Z Z <| L_pur Z (p_extract Z Z) <| L_pur Z (p_extract Z Z) <| L_op <| x_alloc ty36 Z fun b8 => L_op <| x_store Z Z ty36 Z SM SM RO PT <| ag Z Z <| nxx <| mv Z Z <| L_pur Z (p_not Z) <| nq <| C_split Z (fun h23 => ?_) (fun h23 => ?_)
  have hno : nextQ S.rt g = none := by
    cases hq : nextQ S.rt g with
    | none => rfl
    | some y => rw [hq] at h23; simp at h23
  have hkr : kRunN g (fun k => bs.getD k 0) bud.toNat 0 s = ((runS g bs s), bs.length) := kRunN_is hok (by omega) (.inr (by rw [← hS]; exact hno)) (fun k _ => by rw [Nat.zero_add])
  refine sr <| mv Z Z <| ag Z Z <| nq <| J_ret <| Q_then_ret <| Q_blk_ret <| Q_then_ret <| Q_then_ret <| Q_blk_ret <| Q_then_ret <| J_pick (A := coA p _) PC <| J_asTo (B := coA p (kRunN g (fun k => bs.getD k 0) bud.toNat 0 s).1) (by rw [hkr, hS]) <| J_return ((fun k => bs.getD k 0)) Tryz.results57 (.tmp Z .nil) ?_ ?_
  · rw [hkr, hbl]; rfl
  · exact SU
  obtain ⟨i, hni⟩ : ∃ x, nextQ S.rt g = some x := by
    cases hq : nextQ S.rt g with
    | none => rw [hq] at h23; simp at h23
    | some y => exact ⟨y, rfl⟩
  have hni0 : nextQ (runS g bs s).rt g = some i := by rw [← hS]; exact hni
  refine J_pick (A := blk b8 _ _) PC <| J_asTo (B := blk b8 36 (encI i)) (by rw [hni]; rfl) <| J_skip <| qr <| mv Z Z <| L_val Z (v_loadA Z ty36 HS CT) <| xo fc20 (A2 Z Z) Z (coStartG (s := S) (i := i) PC hWS (by omega) hM (fun q T hq => hD _ _ _ q T i ((hWS.start i).good (by omega) hM) ((hWS.start i).ent (i, q) (mem_look hq)).1 ((hWS.start i).ent (i, q) (mem_look hq)).2)) fun x27 => L_nil <| Q_blk_normal <| qr <| L_pur Z (p_add64 Z Z (by omega)) <| mv Z Z <| nq <| J_pick (A := coA p _) PC <| J_asTo (B := coA p (runS g (bs ++ [x27]) s)) (by rw [(runS_snoc (b := x27) hok hni0).2, hS]) ?_
  exact J_again2 (j + 1) (bs ++ [x27]) (by omega) (⟨by omega, by rw [List.length_append, hbl]; rfl, (runS_snoc (b := x27) hok hni0).1⟩) SU KE
  have hkr : kRunN g (fun k => bs.getD k 0) bud.toNat 0 s = ((runS g bs s), bs.length) := kRunN_is hok (by omega) (.inl (by omega)) (fun k _ => by rw [Nat.zero_add])
  have hjB : j = B := by omega
  refine J_exit <| Q_then_exit <| Q_then_exit <| Q_blk_this <| qx <| mv Z Z <| L_pur Z (p_max Z Z) <| J_slot (t := 30) (v := .int .i64 (B : Int)) Z (by rw [hB]) <| ag Z Z <| nq <| J_ret <| J_pick (A := coA p _) PC <| J_asTo (B := coA p (kRunN g (fun k => bs.getD k 0) bud.toNat 0 s).1) (by rw [hkr, hS]) <| J_return ((fun k => bs.getD k 0)) Tryz.results57 (.tmp Z .nil) ?_ ?_
  · rw [hkr, hbl, hjB]; rfl
  · exact SU
variable {t : Int}
theorem coEnterG (hp : Pick (coA p s) l m) (hW : WellQ Q s N M) (hN : N + 2000 ≤ 90000) (hM : M + 9 ≤ 45000) (hS : Srt s.tm) (htk : ∀ g, 0 ≤ (look s.tk g).getD 0 ∧ (look s.tk g).getD 0 ≤ 1000000000) (hQ : ∀ T b r, look s.th t = some T → look s.rg T.ring = some (b, r) → ∀ bs ∈ takeRaw (flushS s T.ring r) (flushR r s.mem).1 (takeN (flushS s T.ring r) T.ring (clampB n) (flushR r s.mem).1).toNat, goodE bs = true → Q (entE bs)) (hD : ∀ (s : KS) (N M : Nat) (q : Rq) (T : Th) (i : ID), Good s N M → SqeOk q.e → Q q.e → DoesC s T q i) :
    Con Tryz.prog 42 #[.pointer (some ⟨p, 0, none⟩), .int .i64 t, .int .i64 n] E l (fun β : Nat → Nat => .int .i64 (kEnter s t n β).2) (fun β => coA p (kEnter s t n β).1 :: m) := by
  refine Con.body (n := 50) Tryz.func42 Z Z _ (env_ok 3 Z) <| J_pick hp <| sr <| ag Z Z <| nx <| mv Z Z <| L_pur Z (p_max Z Z) <| L_pur Z (p_min Z Z) <| J_slot (t := 13) (v := .int .i64 (clampB n)) Z Z ?_
  have hcl : 0 ≤ clampB n ∧ clampB n ≤ 64 := by unfold clampB minI maxI; (repeat' split) <;> omega
  refine ag Z Z <| nx <| mv Z Z <| mv Z Z <| xo fc87 (A2 Z Z) Z (coThr (s := s) (u := t) PC) fun _ => mv Z Z <| L_pur Z (p_extract Z Z) <| L_pur Z (p_extract Z Z) <| L_op <| x_alloc ty213 Z fun b7 => L_op <| x_store Z Z ty213 Z SM SM RO PT <| ag Z Z <| nxx <| mv Z Z <| L_pur Z (p_not Z) <| nq <| C_split Z (fun h21 => ?_) (fun h21 => ?_)
  have hno : look s.th t = none := by
    cases hq : look s.th t with
    | none => rfl
    | some y => rw [hq] at h21; simp at h21
  have hke : ∀ β, kEnter s t n β = (s, -11) := fun β => by unfold kEnter; rw [hno]
  refine sr <| ag Z Z <| nq <| J_ret <| Q_then_ret <| J_pick (A := coA p _) PC <| J_asTo (B := coA p (kEnter s t n (fun _ : Nat => (0 : Nat))).1) (by rw [hke]) <| J_return ((fun _ : Nat => (0 : Nat))) Tryz.results42 (.tmp Z .nil) ?_ ?_
  · rw [hke]; rfl
  · exact SU
  obtain ⟨T, hT⟩ : ∃ x, look s.th t = some x := by
    cases hq : look s.th t with
    | none => rw [hq] at h21; simp at h21
    | some y => exact ⟨y, rfl⟩
  refine J_pick (A := blk b7 _ _) PC <| J_asTo (B := blk b7 213 [.int .i64 T.unit, .int .i64 T.space, .int .i64 T.ring, .int .i64 T.root.kind, .int .i64 T.root.obj, .int .i64 T.root.size, .int .i64 T.root.badge, .int .i64 T.root.rights]) (by rw [hT]; rfl) <| J_skip <| qx <| mv Z Z <| fa Z Z fa213_2 <| L_val Z (v_load Z ty3 HS (by exact rfl)) <| xo fc43 (A2 Z Z) Z (coRing (s := s) (u := T.ring) PC) fun _ => J_slot (t := 25) (v := .pointer ((look (ptrs (KS.rg s)) T.ring).map fun b => ⟨b, 0, none⟩)) Z Z <| ag Z Z <| nq <| J_seq <| J_block <| sr <| mv Z Z <| L_pur Z (p_eqNilPtr Tryz.underlying80 Z) <| ag Z Z <| nq <| C_split Z (fun h26 => ?_) (fun h26 => ?_)
  have hno : look (KS.rg s) T.ring = none := by
    cases hq : look (KS.rg s) T.ring with
    | none => rfl
    | some y => rw [look_ptrs, hq] at h26; simp at h26
  have hke : ∀ β, kEnter s t n β = (s, -15) := fun β => by unfold kEnter; rw [hT]; dsimp only; rw [hno]
  refine sr <| ag Z Z <| nq <| J_ret <| Q_blk_ret <| Q_then_ret <| J_pick (A := coA p _) PC <| J_asTo (B := coA p (kEnter s t n (fun _ : Nat => (0 : Nat))).1) (by rw [hke]) <| J_return ((fun _ : Nat => (0 : Nat))) Tryz.results42 (.tmp Z .nil) ?_ ?_
  · rw [hke]; rfl
  · exact SU
  obtain ⟨⟨b, r⟩, hl⟩ : ∃ x, look (KS.rg s) T.ring = some x := by
    cases hq : look (KS.rg s) T.ring with
    | none => rw [look_ptrs, hq] at h26; simp at h26
    | some y => exact ⟨y, rfl⟩
  have hR : RgOk r := (hW.fit.rg _ (mem_look hl)).1
  have hov : r.over.length + s.rt.length ≤ M := (hW.fit.rg _ (mem_look hl)).2
  have hMm := hW.fit.mem
  have hQ1 := hQ T b r hT hl
  clear hQ
  refine J_slot (t := 9) (v := .pointer (some ⟨b, 0, none⟩)) Z (by rw [look_ptrs, hl]; rfl) <| sr <| mv Z Z <| xo fc88 (A1 Z) Z (coRgValid (s := s) (u := T.ring) PC hl hR hMm) fun _ => L_pur Z (p_not Z) <| ag Z Z <| nq <| C_split Z (fun h29 => ?_) (fun h29 => ?_)
  have hke : ∀ β, kEnter s t n β = (s, -14) := fun β => by unfold kEnter; rw [hT]; dsimp only; rw [hl]; exact if_pos (by simpa using h29)
  refine sr <| ag Z Z <| nq <| J_ret <| Q_blk_ret <| Q_then_ret <| J_pick (A := coA p _) PC <| J_asTo (B := coA p (kEnter s t n (fun _ : Nat => (0 : Nat))).1) (by rw [hke]) <| J_return ((fun _ : Nat => (0 : Nat))) Tryz.results42 (.tmp Z .nil) ?_ ?_
  · rw [hke]; rfl
  · exact SU
  have hvl : ¬ rgValid r s.mem = false := by simpa using h29
  refine J_skip <| Q_blk_normal <| qx <| mv Z Z <| xo fc89 (A1 Z) Z (coRgFlush (s := s) (u := T.ring) PC hl hR hMm (by omega)) fun x34 => nq <| J_seq <| J_seq ?_
  have hl1 : look (KS.rg (flushS s T.ring r)) T.ring = some (b, (flushR r s.mem).1) := look_updS (f := fun r => (flushR r s.mem).1) hl
  have hW1 := hW.flush hl
  have hfo := (flush_ok r.over hR hMm).2.2
  obtain ⟨r1, hr1⟩ : ∃ r1, r1 = (flushR r s.mem).1 := ⟨_, rfl⟩
  rw [← hr1] at hl1 hQ1
  have hfo : r1.over.length ≤ r.over.length := by rw [hr1]; exact hfo
  refine J_pick (A := coA p _) PC <| J_asTo (B := coA p (flushS s T.ring r)) (by rfl) <| J_region <| mv Z Z <| xo fc48 (A1 Z) Z (coRgOver (s := (flushS s T.ring r)) (u := T.ring) PC hl1 (by omega)) <| JR fun a36 c36 hw36 hl36 hm36 hz36 => L_pur Z (p_len Z Tryz.underlying88) <| J_slot (t := 37) (v := .int .i64 (r1.over.length : Int)) Z (by rw [List.length_map]) <| L_pur Z (p_geq Z Z) <| nq <| C_dec Z (fun h38 => ?_) (fun h38 => ?_)
  have hke : ∀ β, kEnter s t n β = ((flushS s T.ring r), -13) := fun β => by unfold kEnter; rw [hT]; dsimp only; rw [hl]; dsimp only; rw [if_neg hvl, ← hr1, if_pos (by omega)]
  refine sr <| ag Z Z <| nq <| J_ret <| Q_then_ret <| J_pick (A := coA p _) PC <| J_asTo (B := coA p (kEnter s t n (fun _ : Nat => (0 : Nat))).1) (by rw [hke]) <| J_return ((fun _ : Nat => (0 : Nat))) Tryz.results42 (.tmp Z .nil) ?_ ?_
  · rw [hke]; rfl
  · exact SU
  have hke : ∀ β, kEnter s t n β = kGoOn (flushS s T.ring r) T.ring (clampB n) β := fun β => by unfold kEnter; rw [hT]; dsimp only; rw [hl]; dsimp only; rw [if_neg hvl, ← hr1, if_neg (by omega)]
  refine J_skip <| qx <| mv Z Z <| fa Z Z fa213_2 <| L_val Z (v_load Z ty3 HS (by exact rfl)) <| mv Z Z <| xo fc90 (A3 Z Z Z) Z (coTakeIn (s := (flushS s T.ring r)) (g := T.ring) (most := clampB n) PC hW1 (by omega) (by omega) hS (htk T.ring) (fun b2 r2 h2 => by rw [hl1] at h2; cases h2; exact hQ1)) fun _ => ?_
  have hr1k : RgOk r1 := (hW1.fit.rg _ (mem_look hl1)).1
  have hni := takeN_in (s := (flushS s T.ring r)) (g := T.ring) (most := clampB n) hr1k
  have hW2 := (hW1.takeIn (by omega) (by omega) hS (g := T.ring) (most := clampB n) (fun b2 r2 h2 => by rw [hl1] at h2; cases h2; exact hQ1)).1
  refine ag Z Z <| nx <| mv Z Z <| fa Z Z fa213_2 <| L_val Z (v_load Z ty3 HS (by exact rfl)) <| mv Z Z <| xo fc57 (A3 Z Z Z) Z (coRunG (s := (kTakeIn (flushS s T.ring r) T.ring (clampB n)).1) (g := T.ring) (bud := clampB n) PC hW2 (by omega) (by omega) (by omega) hD) fun x48 => nx <| mv Z Z <| ag Z Z <| nq <| J_ret <| J_pick (A := coA p _) PC <| J_asTo (B := coA p (kEnter s t n x48).1) (by rw [hke]; rfl) <| J_return (x48) Tryz.results42 (.tmp Z .nil) ?_ ?_
  · rw [hke]; rfl
  · exact SU
theorem rcheckEC :
    Con Tryz.prog 84 #[.agg #[.int .i64 e.op, .int .i64 e.flags, .int .u32 e.tag, .int .u32 e.cap, .int .u32 e.a, .int .u32 e.b, .int .u32 e.c, .int .u32 e.time]] E l (fun _ : Unit => .bool (checkE e)) (fun _ => l) := by
  refine Con.body (n := 27) Tryz.func84 Z Z _ (env_ok 1 Z) <| sr <| L_op <| x_box Z Z Z fun b1 => ag Z Z <| nx <| fa Z Z fa34_0 <| L_val Z (v_load Z ty3 HS (by exact rfl)) <| L_pur Z (p_geq Z Z) <| mv Z Z <| J_gsplit (t := 6) Z (fun h6 => ?_) (fun h6 => ?_)
  refine gp Z Z Z (p_fieldAddr Z fa34_0) Z <| L_op <| G_on Z Z Z <| J_val (v_load Z ty3 HS (by exact rfl)) Z Z Z <| gp Z Z Z (p_leq Z Z) Z <| L_pur Z (p_pick_t Z Z) <| mv Z Z <| J_gsplit (t := 11) Z (fun h11 => ?_) (fun h11 => ?_)
  refine gp Z Z Z (p_fieldAddr Z fa34_1) Z <| L_op <| G_on Z Z Z <| J_val (v_load Z ty3 HS (by exact rfl)) Z Z Z <| gp Z Z Z (p_geq Z Z) Z <| L_pur Z (p_pick_t Z Z) <| mv Z Z <| J_gsplit (t := 16) Z (fun h16 => ?_) (fun h16 => ?_)
  refine gp Z Z Z (p_fieldAddr Z fa34_1) Z <| L_op <| G_on Z Z Z <| J_val (v_load Z ty3 HS (by exact rfl)) Z Z Z <| gp Z Z Z (p_leq Z Z) Z <| L_pur Z (p_pick_t Z Z) <| mv Z Z <| J_gsplit (t := 21) Z (fun h21 => ?_) (fun h21 => ?_)
  refine gp Z Z Z (p_fieldAddr Z fa34_1) Z <| L_op <| G_on Z Z Z <| J_val (v_load Z ty3 HS (by exact rfl)) Z Z Z <| gp Z Z Z (p_and Z Z) Z <| gp Z Z Z (p_neq Z Z) Z <| L_pur Z (p_pick_t Z Z) <| ag Z Z <| nq <| J_ret <| J_return (()) Tryz.results84 (.tmp Z .nil) ?_ ?_
  · first | rfl | (simp_all [one, checkE]; done) | (simp_all [one, checkE] <;> omega)
  · exact SU
  refine gz Z Z Z Z Z <| gz Z Z Z Z Z <| gz Z Z Z Z Z <| gz Z Z Z Z Z <| L_pur Z (p_pick_f Z Z) <| ag Z Z <| nq <| J_ret <| J_return (()) Tryz.results84 (.tmp Z .nil) ?_ ?_
  · first | rfl | (simp_all [one, checkE]; done) | (simp_all [one, checkE] <;> omega)
  · exact SU
  refine gz Z Z Z Z Z <| gz Z Z Z Z Z <| gz Z Z Z Z Z <| L_pur Z (p_pick_f Z Z) <| mv Z Z <| gz Z Z Z Z Z <| gz Z Z Z Z Z <| gz Z Z Z Z Z <| gz Z Z Z Z Z <| L_pur Z (p_pick_f Z Z) <| ag Z Z <| nq <| J_ret <| J_return (()) Tryz.results84 (.tmp Z .nil) ?_ ?_
  · first | rfl | (simp_all [one, checkE]; done) | (simp_all [one, checkE] <;> omega)
  · exact SU
  refine gz Z Z Z Z Z <| gz Z Z Z Z Z <| gz Z Z Z Z Z <| L_pur Z (p_pick_f Z Z) <| mv Z Z <| gz Z Z Z Z Z <| gz Z Z Z Z Z <| gz Z Z Z Z Z <| L_pur Z (p_pick_f Z Z) <| mv Z Z <| gz Z Z Z Z Z <| gz Z Z Z Z Z <| gz Z Z Z Z Z <| gz Z Z Z Z Z <| L_pur Z (p_pick_f Z Z) <| ag Z Z <| nq <| J_ret <| J_return (()) Tryz.results84 (.tmp Z .nil) ?_ ?_
  · first | rfl | (simp_all [one, checkE]; done) | (simp_all [one, checkE] <;> omega)
  · exact SU
  refine gz Z Z Z Z Z <| gz Z Z Z Z Z <| gz Z Z Z Z Z <| L_pur Z (p_pick_f Z Z) <| mv Z Z <| gz Z Z Z Z Z <| gz Z Z Z Z Z <| gz Z Z Z Z Z <| L_pur Z (p_pick_f Z Z) <| mv Z Z <| gz Z Z Z Z Z <| gz Z Z Z Z Z <| gz Z Z Z Z Z <| L_pur Z (p_pick_f Z Z) <| mv Z Z <| gz Z Z Z Z Z <| gz Z Z Z Z Z <| gz Z Z Z Z Z <| gz Z Z Z Z Z <| L_pur Z (p_pick_f Z Z) <| ag Z Z <| nq <| J_ret <| J_return (()) Tryz.results84 (.tmp Z .nil) ?_ ?_
  · first | rfl | (simp_all [one, checkE]; done) | (simp_all [one, checkE] <;> omega)
  · exact SU
theorem rcopyC (hr : ∀ w, Sep E w l → Reads w 1 v (bs.map encU)) (hl : bs.length ≤ 1000) :
  Con Tryz.prog 132 #[v] E l (fun v' : Value => v') (fun v' => row 5 1 v' (bs.map encU) :: l) := by
 refine Con.body (n := 22) Tryz.func132 Z Z _ (env_ok 1 Z) <| J_readsB hr fun hw a cap hv h1 h2 h3 => ?_
 subst hv
 have hm : cap ≤ 9223372036854775807 := h2
 have hml : (bs.map encU).length = bs.length := List.length_map _
 refine sr <| ag Z Z <| nx <| mv Z Z <| L_pur Z (p_len Z Tryz.underlying73) <| J_slot (t := 6) (v := .int .i64 (bs.length : Int)) Z (by rw [List.length_map]) <| L_op <| x_make (len := 0) Z Z Tryz.underlying73 ty5 Z Z (by omega) (by omega) Z Z <| JE (((bs.take 0).map encU)) (by rfl) fun a7 c7 hw7 hl7 hm7 hz7 => ag Z Z <| nxx <| ag Z Z <| nq <| J_block <| J_loop2 (fun k v' => k ≤ bs.length) (fun k v' => row 5 1 v' ((bs.take k).map encU) :: l) (fun k v' => [(4, .int .i64 (k : Int)), (3, v'), (0, .slice a (bs.map encU).length cap)]) (fun k v' => bs.length - k) 0 _ (by omega) SU KE ?_
 intro k v' hk
 have htl : (bs.take k).length ≤ k := by rw [List.length_take]; omega
 refine J_seq <| sr <| mv Z Z <| mv Z Z <| L_pur Z (p_len Z Tryz.underlying73) <| L_pur Z (p_lss Z Z) <| nq <| C_dec Z (fun h11 => ?_) (fun h11 => ?_)
 have hlt : k < bs.length := by simp at h11; omega
 obtain ⟨bx, ox, rfl⟩ := h3 (by intro h; rw [h] at hml; simp at hml; omega)
 obtain ⟨c, hcc⟩ : ∃ c, bs[k]? = some c := ⟨_, List.getElem?_eq_getElem hlt⟩
 refine J_skip <| Q_then <| J_seq <| J_block <| J_region <| mv Z Z <| mv Z Z <| mv Z Z <| L_pur Z (p_indexAddr Z Z Tryz.underlying73 ty5 (by omega) (by omega)) <| L_val Z (v_loadR1 Z ty5 (fun w H => hr w (Sub.sep SU H)) (by simp only [Int.toNat_natCast, List.getElem?_map, hcc]; rfl)) ?_
 refine L_op <| x_lit (vals := [_]) Tryz.underlying73 ty5 Z (.cons Z .nil) (.one Z .nil) (Wf.cons Z Z Wf.nil) Z (by decide) Z Z <| JE ([[.int .u8 c]]) (by rfl) fun a19 c19 hw19 hl19 hm19 hz19 => L_op <| x_app Z Z Tryz.underlying73 ty5 Z Z PC (fun w H => sep_reads HS H) (by simp; omega) (by simp; omega) Z <| JE (((bs.take (k + 1)).map encU)) (by rw [List.take_add_one, hcc]; simp [encU]) fun a20 c20 hw20 hl20 hm20 hz20 => ag Z Z <| L_nil <| Q_blk_normal <| qr <| mv Z Z <| L_pur Z (p_add64 Z Z (by omega)) <| ag Z Z <| nq ?_
 exact J_again2 (k + 1) _ (by omega) (by omega) SU KE
 have hkn : k = bs.length := by simp at h11; omega
 refine J_pick (A := row 5 1 _ _) PC <| J_rowEq (ys := bs.map encU) (by rw [hkn, List.take_length]) <| J_exit <| Q_then_exit <| Q_then_exit <| Q_blk_this <| qx <| mv Z Z <| ag Z Z <| nq <| J_ret ?_
 exact J_return (_) Tryz.results132 (.tmp Z .nil) Z SU
theorem rputC (hr : ∀ w, Sep E w l → Reads w 1 v (bs.map encU)) (ha : a + 4 ≤ bs.length) (hl : bs.length ≤ 1000) :
  Con Tryz.prog 86 #[v, .int .i64 (a : Int), .int .i64 4, .int .u32 n] E l (fun v' : Value => v') (fun v' => row 5 1 v' ((putB bs a (le4 n)).map encU) :: l) := by
 refine Con.body (n := 42) Tryz.func86 Z Z _ (env_ok 4 Z) <| sr <| ag Z Z <| nx <| mv Z Z <| xo fc132 (A1 Z) Z (rcopyC (bs := bs) hr hl) <| JR fun a12 c12 hw12 hl12 hm12 hz12 => ?_
 obtain ⟨bq, oq, rfl⟩ := hz12 (by intro h; have := congrArg List.length h; simp at this; subst this; simp at ha)
 have hmq : c12 ≤ 9223372036854775807 := hm12
 refine ag Z Z <| nxx <| ag Z Z <| nq <| J_block <| J_pick (A := row 5 1 _ _) PC <| J_rowEq (ys := (putB bs a ((le4 n).take 0)).map encU) (by rw [List.take_zero, putB_nil]) <| J_loop (α := Nat) (fun i => i ≤ 4) (fun i => row 5 1 (.slice (some ⟨bq, oq, none⟩) (bs.map encU).length c12) ((putB bs a ((le4 n).take i)).map encU) :: l) (fun i => [(10, .int .i64 (i : Int)), (2, .int .i64 4), (9, .slice (some ⟨bq, oq, none⟩) (bs.map encU).length c12), (1, .int .i64 (a : Int)), (3, .int .u32 n)]) (fun i => 4 - i) 0 (by omega) SU KE ?_
 intro i hi
 refine J_seq <| sr <| mv Z Z <| mv Z Z <| L_pur Z (p_lss Z Z) <| nq <| C_dec Z (fun h15 => ?_) (fun h15 => ?_)
 have hpl : ((putB bs a ((le4 n).take i)).map encU).length = bs.length := by rw [List.length_map, putB_len (by simp [le4]; omega)]
 have hml : (bs.map encU).length = bs.length := List.length_map _
 refine J_skip <| Q_then <| J_seq <| J_block <| sr <| mv Z Z <| mv Z Z <| L_pur Z (p_neg64 Z (by omega)) <| L_pur Z (p_geq Z Z) <| mv Z Z <| J_bool (t := 22) (c := true) Z (by first | (simp; omega) | simp) <| gp Z Z Z (p_move Z) Z <| L_op <| G_on Z Z Z <| J_pur (p_move Z) Z Z Z <| gp Z Z Z (p_len Z Tryz.underlying73) Z <| gp Z Z Z (p_move Z) Z <| L_op <| G_on Z Z Z <| J_pur (p_sub64 Z Z (by omega)) Z Z Z <| gp Z Z Z (p_lss Z Z) Z <| L_pur Z (p_pick_t Z Z) <| nq <| J_bool (t := 29) (c := true) Z (by first | (simp; omega) | simp) <| C_true Z <| J_region <| mv Z Z <| mv Z Z <| mv Z Z <| L_pur Z (p_add64 Z Z (by omega)) <| mv Z Z <| mv Z Z <| L_pur Z (p_mul64 Z Z (by omega)) ?_
 refine J_slot (t := 36) (v := .int .i64 (8 * (i : Int))) Z Z <| L_pur Z (p_conv Z Tryz.underlying3 Tryz.underlying154) <| J_slot (t := 37) (v := .int .u64 (8 * (i : Int))) Z (by rw [wrap64u_of (by omega)]) <| L_pur Z (p_shr Z Z (by omega) (by have : (IntKind.u32.bits : Int) = 32 := rfl; omega)) <| L_pur Z (p_conv Z Tryz.underlying22 Tryz.underlying5) <| L_pur Z (p_indexAddr Z Z Tryz.underlying73 ty5 (by omega) (by omega)) <| L_op <| x_storeE Z Z ty5 Z SM SM PC (by omega) <| J_rowEq (ys := (putB bs a ((le4 n).take (i + 1))).map encU) (put_step (by omega) ha) <| L_nil <| Q_blk_normal <| qr <| mv Z Z <| L_pur Z (p_add64 Z Z (by omega)) <| ag Z Z <| nq ?_
 exact J_again (i + 1) (by omega) (by omega) SU KE
 have hi4 : i = 4 := by omega
 subst hi4
 refine J_pick (A := row 5 1 _ _) PC <| J_rowEq (ys := (putB bs a (le4 n)).map encU) (by rfl) <| J_exit <| Q_then_exit <| Q_then_exit <| Q_blk_this <| qx <| mv Z Z <| ag Z Z <| nq <| J_ret ?_
 exact J_return (_) Tryz.results86 (.tmp Z .nil) Z SU
theorem rput32C (hr : ∀ w, Sep E w l → Reads w 1 v (bs.map encU)) (ha : a + 4 ≤ bs.length) (hl : bs.length ≤ 1000) :
    Con Tryz.prog 41 #[v, .int .i64 (a : Int), .int .u32 n] E l (fun v' : Value => v') (fun v' => row 5 1 v' ((putB bs a (le4 n)).map encU) :: l) := by
  refine Con.body (n := 11) Tryz.func41 Z Z _ (env_ok 3 Z) <| sr <| ag Z Z <| nx <| mv Z Z <| mv Z Z <| mv Z Z <| xo fc86 (A4 Z Z Z Z) Z (rputC hr ha hl) <| JR fun a10 c10 hw10 hl10 hm10 hz10 => ag Z Z <| nq <| J_ret ?_
  exact J_return (_) Tryz.results41 (.tmp Z .nil) Z SU
theorem word_at (e : Sqe) {i : Nat} (hi : i < 6) : ([[.int .u32 e.tag], [.int .u32 e.cap], [.int .u32 e.a], [.int .u32 e.b], [.int .u32 e.c], [.int .u32 e.time]] : List (List Value))[i]? = some [.int .u32 (wordE e i)] := by
  have : i = 0 ∨ i = 1 ∨ i = 2 ∨ i = 3 ∨ i = 4 ∨ i = 5 := by omega
  rcases this with rfl | rfl | rfl | rfl | rfl | rfl <;> rfl
theorem rbytesEC :
  Con Tryz.prog 38 #[.agg #[.int .i64 e.op, .int .i64 e.flags, .int .u32 e.tag, .int .u32 e.cap, .int .u32 e.a, .int .u32 e.b, .int .u32 e.c, .int .u32 e.time]] E l (fun v : Value => v) (fun v => row 5 1 v ((rawE e).map encU) :: l) := by
 refine Con.body (n := 49) Tryz.func38 Z Z _ (env_ok 1 Z) <| sr <| L_op <| x_box Z Z Z fun b1 => ag Z Z <| nxx <| L_val Z (v_loadA Z ty34 HS CT) <| xo fc84 (A1 Z) Z (rcheckEC (e := e)) fun _ => L_pur Z (p_not Z) <| nq <| C_split Z (fun h8 => ?_) (fun h8 => ?_)
 have hck : rawE e = [] := by unfold rawE; rw [if_neg (by simpa using h8)]
 refine J_nil (el := 5) (sz := 1) <| J_rowEq (ys := (rawE e).map encU) (by rw [hck]; rfl) <| sr <| ag Z Z <| nq <| J_ret <| Q_then_ret ?_
 exact J_return (_) Tryz.results38 (.tmp Z .nil) Z SU
 have hc1 : checkE e = true := by simpa using h8
 have hck : rawE e = bytesE e := if_pos hc1
 refine J_skip <| qx <| L_op <| x_make (len := 32) Z Z Tryz.underlying73 ty5 Z Z (by simp) (by simp) Z Z <| JE ((List.replicate 32 (0 : Int)).map encU) (by rfl) fun a9 c9 hw9 hl9 hm9 hz9 => ?_
 obtain ⟨bq, oq, rfl⟩ := hz9 (by simp)
 refine ag Z Z <| nx <| mv Z Z <| fa Z Z fa34_0 <| L_val Z (v_load Z ty3 HS (by exact rfl)) <| L_pur Z (p_conv Z Tryz.underlying3 Tryz.underlying5) <| L_pur Z (p_indexAddr Z Z Tryz.underlying73 ty5 (by omega) (by simp)) <| L_op <| x_storeE Z Z ty5 Z SM SM PC (by simp) <| nx <| mv Z Z <| fa Z Z fa34_1 <| L_val Z (v_load Z ty3 HS (by exact rfl)) <| L_pur Z (p_conv Z Tryz.underlying3 Tryz.underlying5) <| L_pur Z (p_indexAddr Z Z Tryz.underlying73 ty5 (by omega) (by simp)) <| L_op <| x_storeE Z Z ty5 Z SM SM PC (by simp) <| J_pick (A := row 5 1 _ _) PC <| J_rowEq (ys := (partE e 0).map encU) (by simp only [wrap_u8]; rfl) <| nx <| fa Z Z fa34_2 <| L_val Z (v_load Z ty22 HS (by exact rfl)) <| fa Z Z fa34_3 <| L_val Z (v_load Z ty22 HS (by exact rfl)) <| fa Z Z fa34_4 <| L_val Z (v_load Z ty22 HS (by exact rfl)) <| fa Z Z fa34_5 <| L_val Z (v_load Z ty22 HS (by exact rfl)) ?_
 refine fa Z Z fa34_6 <| L_val Z (v_load Z ty22 HS (by exact rfl)) <| fa Z Z fa34_7 <| L_val Z (v_load Z ty22 HS (by exact rfl)) <| L_op <| x_lit (vals := [_, _, _, _, _, _]) Tryz.underlying210 ty22 Z (.cons Z (.cons Z (.cons Z (.cons Z (.cons Z (.cons Z .nil)))))) (.one Z (.one Z (.one Z (.one Z (.one Z (.one Z .nil)))))) (Wf.cons Z Z (Wf.cons Z Z (Wf.cons Z Z (Wf.cons Z Z (Wf.cons Z Z (Wf.cons Z Z Wf.nil)))))) Z (by decide) Z Z <| JE (([[.int .u32 e.tag], [.int .u32 e.cap], [.int .u32 e.a], [.int .u32 e.b], [.int .u32 e.c], [.int .u32 e.time]] : List (List Value))) (by rfl) fun a32 c32 hw32 hl32 hm32 hz32 => ?_
 obtain ⟨bw, ow, rfl⟩ := hz32 (by simp)
 refine ag Z Z <| nxx <| ag Z Z <| nq <| J_block <| J_loop2 (fun k v => k ≤ 6) (fun k v => row 5 1 v ((partE e k).map encU) :: row 22 1 (.slice (some ⟨bw, ow, none⟩) ([[.int .u32 e.tag], [.int .u32 e.cap], [.int .u32 e.a], [.int .u32 e.b], [.int .u32 e.c], [.int .u32 e.time]] : List (List Value)).length c32) ([[.int .u32 e.tag], [.int .u32 e.cap], [.int .u32 e.a], [.int .u32 e.b], [.int .u32 e.c], [.int .u32 e.time]] : List (List Value)) :: l) (fun k v => [(5, .int .i64 (k : Int)), (3, v), (4, .slice (some ⟨bw, ow, none⟩) ([[.int .u32 e.tag], [.int .u32 e.cap], [.int .u32 e.a], [.int .u32 e.b], [.int .u32 e.c], [.int .u32 e.time]] : List (List Value)).length c32)]) (fun k v => 6 - k) 0 _ (by omega) SU KE ?_
 intro k v hk
 refine J_seq <| sr <| mv Z Z <| mv Z Z <| L_pur Z (p_len Z Tryz.underlying210) <| L_pur Z (p_lss Z Z) <| nq <| C_dec Z (fun h36 => ?_) (fun h36 => ?_)
 have hk6 : k < 6 := by simp at h36; omega
 have hpl := partE_len e k (by omega)
 refine J_skip <| Q_then <| J_seq <| J_block <| J_region <| mv Z Z <| mv Z Z <| L_pur Z (p_mul64 Z Z (by omega)) <| L_pur Z (p_add64 Z Z (by omega)) <| J_slot (t := 42) (v := .int .i64 ((4 + 4 * k : Nat) : Int)) Z (by first | rfl | (congr 1; omega)) <| mv Z Z <| mv Z Z <| L_pur Z (p_indexAddr Z Z Tryz.underlying210 ty22 (by omega) (by first | (simp; done) | (simp; omega))) <| L_val Z (v_loadE1 Z ty22 HS (by rw [Int.toNat_natCast]; exact word_at e hk6)) <| xo fc41 (A3 Z Z Z) Z (rput32C (a := 4 + 4 * k) (bs := partE e k) (fun w H => sep_reads (xs := (partE e k).map encU) HS H) (by omega) (by omega)) <| JE ((partE e (k + 1)).map encU) (by rfl) fun a47 c47 hw47 hl47 hm47 hz47 => ag Z Z <| L_nil <| Q_blk_normal <| qr <| mv Z Z <| L_pur Z (p_add64 Z Z (by omega)) <| ag Z Z <| nq ?_
 exact J_again2 (k + 1) _ (by omega) (by omega) SU KE
 have hk6 : k = 6 := by simp at h36; omega
 subst hk6
 refine J_pick (A := row 5 1 _ _) PC <| J_rowEq (ys := (rawE e).map encU) (by rw [hck]; rfl) <| J_exit <| Q_then_exit <| Q_then_exit <| Q_blk_this <| qx <| mv Z Z <| ag Z Z <| nq <| J_ret ?_
 exact J_return (_) Tryz.results38 (.tmp Z .nil) Z SU
abbrev memS (s : KS) (u off : Nat) (ys : List Int) : KS := { s with mem := s.mem.set u (putB (rowAt s.mem ((u : Int) + 1)) off ys) }
theorem MemOk.row (h : MemOk ms) {u : Nat} (hu : u < 64) : ms[u]? = some (rowAt ms ((u : Int) + 1)) ∧ (rowAt ms ((u : Int) + 1)).length = 512 ∧ Bytes (rowAt ms ((u : Int) + 1)) := by
  have := h.at (u := (u : Int) + 1) ⟨by omega, by omega⟩
  rw [show ((u : Int) + 1 - 1).toNat = u by omega] at this
  exact this
variable {off : Nat} {ys : List Int}
theorem coMemWr (hp : Pick (coA p s) l m) (hM : MemOk s.mem) {u : Nat} (hu : u < 64) {v' : Value} (hr : ∀ w, Sep E w m → Reads w 1 v' (ys.map encU)) (ho : off + ys.length ≤ 512) :
    Con Tryz.prog 40 #[.pointer (some ⟨s.mb, 0, none⟩), .int .i64 ((u : Int) + 1), .int .i64 (off : Int), v'] E l (fun _ : Unit => .bool true) (fun _ => coA p (memS s u off ys) :: m) := fun w H => by
  refine (?_ : Jk E l 0 [] fun _ w => Calls Tryz.prog 40 #[.pointer (some ⟨s.mb, 0, none⟩), .int .i64 ((u : Int) + 1), .int .i64 (off : Int), v'] w fun e w' => ∃ x, e = .returned ((fun _ : Unit => .bool true) x) ∧ Sep E w' ((fun _ : Unit => coA p (memS s u off ys) :: m) x)) w _ H fr0
  refine J_pick hp <| J_coO fun bn be br bg bt bs bp bl bk _ => J_con (writeC (ms := s.mem) (u := u) (r := rowAt s.mem ((u : Int) + 1)) (off := off) (ys := ys) PC hM.len (hM.row hu).1 (hM.row hu).2.1 (fun w H => hr w (Sub.sep SU H)) ho) fun x => J_coS (p := p) (s := (memS s u off ys)) bn be br bg bt bs bp bl bk PX trivial ?_
  exact J_end SU
/-! ### plain: an entry asked, reckoned -/
theorem TreeOk.flat (hK : (ps.map Prod.fst).Nodup) (h : (ps.all fun e => canP e.1 && decide (e.2.2 = (0, 0)) && checkC e.2.1) = true) : TreeOk ps := by
  have h2 : ∀ x s, look ps x = some s → (canP x = true ∧ s.2 = (0, 0)) ∧ checkC s.1 = true := fun x s hx => by
    have := List.all_eq_true.1 h (x, s) (mem_look hx)
    simpa only [Bool.and_eq_true, decide_eq_true_eq] using this
  exact ⟨hK, fun x s hx => (h2 x s hx).1.1, fun x s hx => .inl (h2 x s hx).1.2, fun x s hx => (h2 x s hx).2, ⟨fun _ => 0, fun x s hx hs => absurd (h2 x s hx).1.2 hs⟩⟩
/-! ### plain: what holds, all in one; p: which entries there are -/
abbrev Pq (p : Sqe → Bool) : Sqe → Prop := fun e => p e = true
structure EInv (p : Sqe → Bool) (s : KS) (N M : Nat) : Prop where
  w : WellQ (Pq p) s N M
  srt : Srt s.tm
  tks : ∀ e ∈ s.tk, 0 ≤ e.2 ∧ e.2 ≤ (M : Int)
theorem EInv.tk {p : Sqe → Bool} {s : KS} {N M : Nat} (h : EInv p s N M) (g : Int) : 0 ≤ (look s.tk g).getD 0 ∧ (look s.tk g).getD 0 ≤ 1000000000 := by
  have hm := h.w.fit.mm
  cases hq : look s.tk g with
  | none => exact ⟨by decide, by decide⟩
  | some x =>
    have := h.tks _ (mem_look hq)
    show 0 ≤ x ∧ x ≤ _
    simp only at this
    omega
theorem EInv.upTo {p : Sqe → Bool} {s : KS} {N M N2 M2 : Nat} (h : EInv p s N M) (hN : N ≤ N2) (hM : M ≤ M2) (hN2 : N2 ≤ 90000) (hM2 : M2 ≤ 90000) : EInv p s N2 M2 :=
  ⟨h.w.upTo hN hM hN2 hM2, h.srt, fun e he => by have := h.tks e he; omega⟩
theorem takeF_tk {g first : Int} : ∀ (r : List (List Int)) (p : Option Sqe) (k : Nat) (s : KS), (takeF g first p k r s).tk = s.tk
  | [], _, _, _ => rfl
  | bs :: r, p, k, s => by
    rw [takeF]
    split
    · rw [takeF_tk r]; unfold addT; split <;> rfl
    · rw [takeF_tk r]; exact (Ebb.tell (fun s i r v => Ebb.dec _ s i r v) s _).tk
theorem ins_memT {xs : List (Int × Int)} {a : Int} {x : Int × Int} (h : x ∈ ins xs u a) : x ∈ xs ∨ x = (u, a) := by
  unfold Go.Pse.ins at h
  split at h
  · obtain ⟨y, hy, rfl⟩ := List.mem_map.1 h
    split
    · exact .inr Z
    · exact .inl hy
  · rcases List.mem_append.1 h with h | h
    · exact .inl h
    · exact .inr (List.mem_singleton.1 h)
theorem EInv.takeIn {p : Sqe → Bool} {s : KS} {N M : Nat} (h : EInv p s N M) (hN : N + 8 ≤ 90000) (hM : M + 8 ≤ 90000) {g most : Int} (hQ : ∀ b r, look s.rg g = some (b, r) → ∀ bs ∈ takeRaw s r (takeN s g most r).toNat, goodE bs = true → p (entE bs) = true) : EInv p (kTakeIn s g most).1 (N + 8) (M + 8) := by
  have h1 := h.w.takeIn hN hM h.srt hQ
  refine ⟨h1.1, h1.2, ?_⟩
  unfold kTakeIn
  cases hl : look s.rg g with
  | none => exact fun e he => by have := h.tks e he; omega
  | some x =>
    dsimp only
    split
    · have hr : RgOk x.2 := (h.w.fit.rg _ (mem_look hl)).1
      have hn := takeN_in (s := s) (g := g) (most := most) hr
      unfold kTaken
      rw [takeF_tk]
      unfold kTake
      split
      · intro e he
        rcases ins_memT he with he | rfl
        · have := h.tks e he; omega
        · have h3 := (h.tk g)
          have h4 : (look s.tk g).getD 0 ≤ (M : Int) := by
            cases hq : look s.tk g with
            | none => show (0 : Int) ≤ _; omega
            | some y => exact (h.tks _ (mem_look hq)).2
          show 0 ≤ (look s.tk g).getD 0 + _ ∧ (look s.tk g).getD 0 + _ ≤ _
          omega
      · exact fun e he => by have := h.tks e he; omega
    · exact fun e he => by have := h.tks e he; omega
theorem EInv.started {p : Sqe → Bool} {s : KS} {N M : Nat} (h : EInv p s N M) (hN : N + 1 ≤ 90000) (i : ID) (b : Nat) : EInv p (kStart s i b).1 (N + 1) M :=
  ⟨h.w.started hN i b, List.Pairwise.sublist (start_tk s i b).2 h.srt, by rw [(start_tk s i b).1]; exact h.tks⟩
theorem EInv.runN {p : Sqe → Bool} {g : Int} {β : Nat → Nat} : ∀ (n j : Nat) {s : KS} {N M : Nat}, EInv p s N M → N + n ≤ 90000 → EInv p (kRunN g β n j s).1 (N + n) M
  | 0, _, _, _, _, h, _ => h
  | n + 1, j, s, N, M, h, hN => by
    unfold kRunN
    split
    · exact h.upTo (by omega) (Nat.le_refl _) hN h.w.fit.mm
    · rename_i i _
      have := EInv.runN (g := g) (β := β) n (j + 1) (h.started (by omega) i (β j)) (by omega)
      rw [show N + 1 + n = N + (n + 1) by omega] at this
      exact this
theorem EInv.flush {p : Sqe → Bool} {s : KS} {N M : Nat} (h : EInv p s N M) {g : Int} {b : Nat} {r : Rg} (hl : look s.rg g = some (b, r)) : EInv p (flushS s g r) N M := ⟨h.w.flush hl, h.srt, h.tks⟩
def entOk (p : Sqe → Bool) (s : KS) (t n : Int) : Bool := match look s.th t with
  | none => true
  | some T => match look s.rg T.ring with
    | none => true
    | some x => (takeRaw (flushS s T.ring x.2) (flushR x.2 s.mem).1 (takeN (flushS s T.ring x.2) T.ring (clampB n) (flushR x.2 s.mem).1).toNat).all fun bs => !goodE bs || p (entE bs)
theorem entOk_is {p : Sqe → Bool} (h : entOk p s t n = true) : ∀ T b r, look s.th t = some T → look s.rg T.ring = some (b, r) → ∀ bs ∈ takeRaw (flushS s T.ring r) (flushR r s.mem).1 (takeN (flushS s T.ring r) T.ring (clampB n) (flushR r s.mem).1).toNat, goodE bs = true → p (entE bs) = true := fun T b r h1 h2 bs hb hg => by
  unfold entOk at h
  rw [h1] at h
  dsimp only at h
  rw [h2] at h
  have := List.all_eq_true.1 h bs hb
  rw [hg] at this
  simpa using this
theorem clamp_in (n : Int) : 0 ≤ clampB n ∧ clampB n ≤ 64 := by unfold clampB minI maxI; (repeat' split) <;> omega
theorem EInv.enter {p : Sqe → Bool} (h : EInv p s N M) (hQ : entOk p s t n = true) (hN : N + 100 ≤ 90000) (hM : M + 9 ≤ 90000) (β : Nat → Nat) : EInv p (kEnter s t n β).1 (N + 100) (M + 9) := by
  have hQ1 := entOk_is hQ
  have hu : ∀ {s2 : KS} {j k : Nat}, j ≤ 100 → k ≤ 9 → EInv p s2 (N + j) (M + k) → EInv p s2 (N + 100) (M + 9) := fun hj hk h2 => h2.upTo (by omega) (by omega) hN hM
  unfold kEnter
  cases hT : look s.th t with
  | none => exact hu (j := 0) (k := 0) (by omega) (by omega) h
  | some T =>
    dsimp only
    cases hl : look s.rg T.ring with
    | none => exact hu (j := 0) (k := 0) (by omega) (by omega) h
    | some x =>
      obtain ⟨b, r⟩ := x
      dsimp only
      have h1 := h.flush hl
      split
      · exact hu (j := 0) (k := 0) (by omega) (by omega) h
      · split
        · exact hu (j := 0) (k := 0) (by omega) (by omega) h1
        · have hl1 : look (flushS s T.ring r).rg T.ring = some (b, (flushR r s.mem).1) := look_updS (f := fun r => (flushR r s.mem).1) hl
          have h2 := h1.takeIn (by omega) (by omega) (g := T.ring) (most := clampB n) (fun b2 r2 e => by rw [hl1] at e; cases e; exact hQ1 T b r hT hl)
          have hc := clamp_in n
          have h3 := EInv.runN (g := T.ring) (β := β) (clampB n).toNat 0 h2 (by omega)
          rw [Nat.add_assoc] at h3
          exact hu (j := 8 + (clampB n).toNat) (k := 8) (by omega) (by omega) h3
theorem EInv.pass {p : Sqe → Bool} (h : EInv p s N M) (n : Int) : EInv p (kPass s n) N M := by
  have hw := h.w
  have hf := hw.fit
  exact ⟨⟨⟨hf.n, hf.mm, hf.ids, hf.jn, hf.tm, hf.ep, hf.nt, hf.rp, hf.rg, hf.mem⟩, hw.q, hw.mp, hw.sl, hw.rg, hw.tree, hw.marks, hw.thr, hw.ent, hw.rtk⟩, h.srt, h.tks⟩
theorem expL_ebb : ∀ (l : List ID) (s : KS), Ebb s (kExpL l s).1
  | [], s => .refl s
  | i :: l, s => by
    unfold kExpL
    split
    · exact expL_ebb l s
    · exact (Ebb.dec _ _ _ _ _).trans (expL_ebb l _)
theorem EInv.expire {p : Sqe → Bool} (h : EInv p s N M) : EInv p (kExpire s).1 N M := by
  have h1 := expL_ebb ((due s.tm s.now).map Prod.snd) (dueS s)
  refine ⟨(h.w.dueS).expL _, List.Pairwise.sublist h1.tm (List.Pairwise.sublist (List.dropWhile_sublist _) h.srt), ?_⟩
  unfold kExpire
  rw [h1.tk]; exact h.tks
theorem EInv.memS {p : Sqe → Bool} (h : EInv p s N M) {u : Nat} (hu : u < 64) (ho : off + ys.length ≤ 512) (hB : Bytes ys) : EInv p (memS s u off ys) N M := by
  have hw := h.w
  have hf := hw.fit
  obtain ⟨_, h2, h3⟩ := hf.mem.row hu
  exact ⟨⟨⟨hf.n, hf.mm, hf.ids, hf.jn, hf.tm, hf.ep, hf.nt, hf.rp, hf.rg, hf.mem.put ⟨by rw [putB_len (by omega), h2], putB_bytes h3 hB⟩⟩, hw.q, hw.mp, hw.sl, hw.rg, hw.tree, hw.marks, hw.thr, hw.ent, hw.rtk⟩, h.srt, h.tks⟩
theorem bytes_rawE (e : Sqe) : Bytes (rawE e) := by
  unfold rawE; split
  · exact partE_bytes e 6
  · exact fun x hx => by cases hx
theorem treeE1 : TreeOk (coreN 1 1 false).2.2.1 := TreeOk.flat (by decide +kernel) (by decide +kernel)
theorem treeE4 : TreeOk (coreN 1 4 false).2.2.1 := TreeOk.flat (by decide +kernel) (by decide +kernel)
theorem slE122 (g : NewG) : (kNew 1 1 2 2 false g).sl = (coreN 1 1 false).2.2.1 := by
  have hc : kCore (kNew ((1 : Nat) : Int) ((1 : Nat) : Int) 2 2 false g) = coreN 1 1 false := kNew_core (by omega) (by omega)
  simp only [show ((1 : Nat) : Int) = 1 from rfl, show ((1 : Nat) : Int) = 1 from rfl] at hc
  unfold kCore at hc
  rw [← hc]
theorem fitE122 (g : NewG) : Fits (kNew 1 1 2 2 false g) 40 60 := by
  refine ⟨by omega, by omega, Ids.nil, by show 0 ≤ 60; omega, by show 0 ≤ 40; omega, fun x hx => (by cases hx), fun x hx => (by cases hx), fun x hx => ?_, fun x hx => ?_, zrow_ok⟩
  · obtain rfl := List.mem_singleton.1 (show x ∈ [(7, (g.bs 0).2, (0, 0), false)] from hx)
    exact ⟨by show (1 : Int) ≤ 7; omega, by show (7 : Int) ≤ 64; omega⟩
  · obtain rfl := List.mem_singleton.1 (show x ∈ [(4, (g.bs 0).1, rgNew 5 6 2 2)] from hx)
    exact ⟨rgNew_is ⟨by omega, by omega⟩ ⟨by omega, by omega⟩, by show 0 ≤ 60; omega⟩
theorem wellE122 (p : Sqe → Bool) (g : NewG) : EInv p (kNew 1 1 2 2 false g) 40 60 :=
  ⟨⟨fitE122 g, (by show (1 : Nat) ≤ 40; omega), (by show (2 : Nat) ≤ 40; omega), (by rw [slE122]; decide +kernel), (by show (1 : Nat) ≤ 1000; omega), (by rw [slE122]; exact treeE1), fun _ he => (by cases he), (by show [(4 : Int)].Nodup; decide), fun _ he => (by cases he), Keyd.nil⟩, List.Pairwise.nil, fun e he => by
    obtain rfl := List.mem_singleton.1 (show e ∈ [((4 : Int), (0 : Int))] from he)
    exact ⟨by show (0 : Int) ≤ 0; omega, by show (0 : Int) ≤ 60; omega⟩⟩
theorem slE434 (g : NewG) : (kNew 1 4 3 4 false g).sl = (coreN 1 4 false).2.2.1 := by
  have hc : kCore (kNew ((1 : Nat) : Int) ((4 : Nat) : Int) 3 4 false g) = coreN 1 4 false := kNew_core (by omega) (by omega)
  simp only [show ((1 : Nat) : Int) = 1 from rfl, show ((4 : Nat) : Int) = 4 from rfl] at hc
  unfold kCore at hc
  rw [← hc]
theorem fitE434 (g : NewG) : Fits (kNew 1 4 3 4 false g) 40 60 := by
  refine ⟨by omega, by omega, Ids.nil, by show 0 ≤ 60; omega, by show 0 ≤ 40; omega, fun x hx => (by cases hx), fun x hx => (by cases hx), fun x hx => ?_, fun x hx => ?_, zrow_ok⟩
  · obtain rfl := List.mem_singleton.1 (show x ∈ [(7, (g.bs 0).2, (0, 0), false)] from hx)
    exact ⟨by show (1 : Int) ≤ 7; omega, by show (7 : Int) ≤ 64; omega⟩
  · obtain rfl := List.mem_singleton.1 (show x ∈ [(4, (g.bs 0).1, rgNew 5 6 3 4)] from hx)
    exact ⟨rgNew_is ⟨by omega, by omega⟩ ⟨by omega, by omega⟩, by show 0 ≤ 60; omega⟩
theorem wellE434 (p : Sqe → Bool) (g : NewG) : EInv p (kNew 1 4 3 4 false g) 40 60 :=
  ⟨⟨fitE434 g, (by show (1 : Nat) ≤ 40; omega), (by show (2 : Nat) ≤ 40; omega), (by rw [slE434]; decide +kernel), (by show (1 : Nat) ≤ 1000; omega), (by rw [slE434]; exact treeE4), fun _ he => (by cases he), (by show [(4 : Int)].Nodup; decide), fun _ he => (by cases he), Keyd.nil⟩, List.Pairwise.nil, fun e he => by
    obtain rfl := List.mem_singleton.1 (show e ∈ [((4 : Int), (0 : Int))] from he)
    exact ⟨by show (0 : Int) ≤ 0; omega, by show (0 : Int) ≤ 60; omega⟩⟩
theorem coEnterP {p_ : Nat} (hp : Pick (coA p_ s) l m) {p : Sqe → Bool} (hI : EInv p s N M) (hQ : entOk p s t n = true) (hN : N + 2000 ≤ 90000) (hM : M + 9 ≤ 45000) (hD : ∀ (s : KS) (N M : Nat) (q : Rq) (T : Th) (i : ID), Good s N M → SqeOk q.e → p q.e = true → DoesC s T q i) :
    Con Tryz.prog 42 #[.pointer (some ⟨p_, 0, none⟩), .int .i64 t, .int .i64 n] E l (fun β : Nat → Nat => .int .i64 (kEnter s t n β).2) (fun β => coA p_ (kEnter s t n β).1 :: m) := coEnterG hp hI.w hN hM hI.srt hI.tk (entOk_is hQ) hD
theorem coRunP {p_ : Nat} (hp : Pick (coA p_ s) l m) {p : Sqe → Bool} {bud : Int} (hI : EInv p s N M) (hb : bud ≤ 1000) (hN : N + 1010 ≤ 90000) (hM : M ≤ 45000) (hD : ∀ (s : KS) (N M : Nat) (q : Rq) (T : Th) (i : ID), Good s N M → SqeOk q.e → p q.e = true → DoesC s T q i) :
    Con Tryz.prog 57 #[.pointer (some ⟨p_, 0, none⟩), .int .i64 g, .int .i64 bud] E l (fun β : Nat → Nat => .int .i64 ((kRunN g β bud.toNat 0 s).2 : Int)) (fun β => coA p_ (kRunN g β bud.toNat 0 s).1 :: m) := coRunG hp hI.w hb hN hM hD
theorem coMemWrZ (hp : Pick (coA p s) l m) (hM : MemOk s.mem) {u : Nat} {z z2 : Int} (hz : z = (u : Int) + 1) (hz2 : z2 = (off : Int)) (hu : u < 64) {v' : Value} (hr : ∀ w, Sep E w m → Reads w 1 v' (ys.map encU)) (ho : off + ys.length ≤ 512) :
    Con Tryz.prog 40 #[.pointer (some ⟨s.mb, 0, none⟩), .int .i64 z, .int .i64 z2, v'] E l (fun _ : Unit => .bool true) (fun _ => coA p (memS s u off ys) :: m) := by
  subst hz; subst hz2; exact coMemWr hp hM hu hr ho
/-! ### plain: entries laid into a ring -/
def layE : Nat → List Sqe → KS → KS
  | _, [], s => s
  | i, e :: es, s => layE (i + 1) es (memS s 4 (16 + 32 * i) (rawE e))
def laidS (g : NewG) (es : List Sqe) : KS := memS (layE 0 (es.take 8) (kNew 1 4 3 4 false g)) 4 4 (le4 (es.length : Int))
theorem layE_snoc {e : Sqe} : ∀ (es : List Sqe) (i : Nat) (s : KS), layE i (es ++ [e]) s = memS (layE i es s) 4 (16 + 32 * (i + es.length)) (rawE e)
  | [], i, s => rfl
  | y :: es, i, s => by
    rw [List.cons_append, layE, layE, layE_snoc es, List.length_cons, show i + 1 + es.length = i + (es.length + 1) by omega]
theorem EInv.lay {p : Sqe → Bool} : ∀ (es : List Sqe) {i : Nat} {s : KS} {N M : Nat}, EInv p s N M → i + es.length ≤ 8 → EInv p (layE i es s) N M
  | [], _, _, _, _, h, _ => h
  | e :: es, i, s, N, M, h, hi => by
    rw [List.length_cons] at hi
    exact EInv.lay es (h.memS (u := 4) (off := 16 + 32 * i) (ys := rawE e) (by omega) (by have := rawE_len e; omega) (bytes_rawE e)) (by omega)
theorem laid_inv (p : Sqe → Bool) (g : NewG) (es : List Sqe) : EInv p (laidS g es) 40 60 :=
  (EInv.lay (es.take 8) (wellE434 p g) (by rw [List.length_take]; omega)).memS (u := 4) (off := 4) (ys := le4 (es.length : Int)) (by omega) (by simp [le4]) (le4_bytes _)
theorem run_nil (h : s.rt = []) (g : Int) (β : Nat → Nat) (n j : Nat) : kRunN g β n j s = (s, 0) := by
  cases n with
  | zero => rfl
  | succ n => unfold kRunN; rw [show nextQ s.rt g = none from by rw [h]; rfl]
def tailO (s : KS) (g : Int) : Option Int := (look s.rg g).map fun x => x.2.tail
theorem laidC {es : List Sqe} (hp : Pick (row 34 8 v (es.map encSq)) l m) (he : es.length ≤ 1000) :
  Con Tryz.prog 37 #[.int .i64 3, .int .i64 4, v] E l (fun g : NewG => .pointer (some ⟨g.p, 0, none⟩)) (fun g => coA g.p (laidS g es) :: row 34 8 v (es.map encSq) :: m) := by
 refine Con.body (n := 69) Tryz.func37 Z Z _ (env_ok 3 Z) <| J_pick hp <| J_row .here fun hw a cap hv h1 h2 h3 => ?_
 subst hv
 have hmc : cap ≤ 9223372036854775807 := h2
 have hml : (es.map encSq).length = es.length := List.length_map _
 refine sr <| ag Z Z <| nx <| mv Z Z <| mv Z Z <| L_pur Z (bld86 (.cons Z (.cons Z (.cons Z (.cons Z .nil)))) (by repeat constructor)) <| J_slot (t := 11) (v := .agg (encG 1 4 3 4 false).toArray) Z Z <| xo fc45 (A1 Z) Z (coNew (ct := 1) (cu := 4) (cs := 3) (cc := 4) (sh := false)) fun g => ?_
 have IK := wellE434 (fun _ => true) g
 have hrg : look (ptrs (KS.rg (kNew 1 4 3 4 false g))) 4 = some (g.bs 0).1 := rfl
 obtain ⟨K, hK⟩ : ∃ K, K = (kNew 1 4 3 4 false g) := ⟨_, rfl⟩
 rw [← hK] at IK hrg
 refine J_pick (A := coA g.p _) PC <| J_asTo (B := coA g.p K) (by rw [hK]) <| ag Z Z <| nxx <| mv Z Z <| L_pur Z (p_eqNilPtr Tryz.underlying24 Z) <| mv Z Z <| J_bool (t := 15) (c := false) Z (rfl) <| L_op <| G_on Z Z Z <| J_pur (p_move Z) Z Z Z <| L_op <| G_on Z Z Z <| xc fc39 (A1 Z) Z (coMem (s := K) PC) fun _ => gp Z Z Z (p_eqNilPtr Tryz.underlying75 Z) Z <| L_pur Z (p_pick_f Z Z) <| mv Z Z <| J_bool (t := 20) (c := false) Z (rfl) <| L_op <| G_on Z Z Z <| J_pur (p_move Z) Z Z Z <| L_op <| G_on Z Z Z <| xc fc43 (A2 Z Z) Z (coRing (s := K) (u := 4) PC) fun _ => J_slot (t := 22) (v := .pointer (some ⟨(g.bs 0).1, 0, none⟩)) Z (by rw [hrg]; rfl) <| gp Z Z Z (p_eqNilPtr Tryz.underlying80 Z) Z <| L_pur Z (p_pick_f Z Z) <| mv Z Z <| J_bool (t := 25) (c := false) Z (rfl) <| L_op <| G_on Z Z Z ?_
 refine J_pur (p_move Z) Z Z Z <| L_op <| G_on Z Z Z <| xc fc16 (A1 Z) Z (coReqs) fun _ => gp Z Z Z (p_eqNilPtr Tryz.underlying28 Z) Z <| L_pur Z (p_pick_f Z Z) <| mv Z Z <| J_bool (t := 30) (c := false) Z (rfl) <| gp Z Z Z (p_move Z) Z <| L_op <| G_on Z Z Z <| xc fc17 (A1 Z) Z (coJournal) fun _ => gp Z Z Z (p_eqNilPtr Tryz.underlying30 Z) Z <| L_pur Z (p_pick_f Z Z) <| nq <| J_bool (t := 34) (c := false) Z (rfl) <| C_false Z <| J_skip <| Q_then <| J_seq <| sr <| ag Z Z <| nq <| J_block <| J_pick (A := coA g.p _) PC ?_
 refine J_asTo (B := coA g.p (layE 0 (es.take 0) K)) (by rfl) <| J_loop (α := Nat) (fun i => i ≤ es.length ∧ i ≤ 8) (fun i => coA g.p (layE 0 (es.take i) K) :: row 34 8 (.slice a (es.map encSq).length cap) (es.map encSq) :: m) (fun i => [(8, .int .i64 (i : Int)), (0, .int .i64 3), (2, .slice a (es.map encSq).length cap), (7, .pointer (some ⟨g.p, 0, none⟩))]) (fun i => 8 - i) 0 ⟨by omega, by omega⟩ SU KE ?_
 intro i ⟨hi, hi8⟩
 obtain ⟨S, hS⟩ : ∃ S, S = (layE 0 (es.take i) K) := ⟨_, rfl⟩
 have IS : EInv (fun _ => true) S 40 60 := by rw [hS]; exact EInv.lay _ IK (by rw [List.length_take]; omega)
 refine J_asTo (B := coA g.p S) (by rw [hS]) <| J_seq <| sr <| mv Z Z <| mv Z Z <| L_pur Z (p_len Z Tryz.underlying54) <| L_pur Z (p_lss Z Z) <| mv Z Z <| J_gsplit (t := 39) Z (fun h39 => ?_) (fun h39 => ?_)
 refine gp Z Z Z (p_move Z) Z <| gp Z Z Z (p_move Z) Z <| L_op <| G_on Z Z Z <| J_pur (p_conv Z Tryz.underlying3 Tryz.underlying154) Z Z Z <| J_slot (t := 42) (v := .int .u64 3) Z Z <| gp Z Z Z (p_shl Z Z (by decide) (by decide)) Z <| J_slot (t := 43) (v := .int .i64 8) Z Z <| L_op <| G_on Z Z Z <| J_pur (p_lss Z Z) Z Z Z <| L_pur Z (p_pick_t Z Z) <| nq <| C_split Z (fun h45 => ?_) (fun h45 => ?_)
 have hlt : i < es.length := by simp at h39; omega
 have hl8 : i < 8 := by have h := h45; simp at h; omega
 obtain ⟨bx, ox, rfl⟩ := h3 (by intro h; rw [h] at hml; simp at hml; omega)
 obtain ⟨c, hcc⟩ : ∃ c, es[i]? = some c := ⟨_, List.getElem?_eq_getElem hlt⟩
 refine J_skip <| Q_then <| J_seq <| J_block <| J_seq <| J_drawL (some 10) mixed <| ip 0 Z Z Z Z (p_move Z) <| ip 2 Z Z Z Z (p_move Z) <| ip 3 Z Z Z Z (p_mul64 Z Z (by omega)) <| ip 4 Z Z Z Z (p_add64 Z Z (by omega)) <| ip 5 Z Z Z Z (p_move Z) <| ip 6 Z Z Z Z (p_move Z) <| ip 7 Z Z Z Z (p_indexAddr Z Z Tryz.underlying54 ty34 (by omega) (by simp; omega)) <| I_take (i := 8) Z Z Z Z (by kernel_rfl) (fun _ _ _ _ h => h) (fun _ => v_loadE Z ty34 HS (by simp only [Int.toNat_natCast, List.getElem?_map, hcc]; rfl)) ?_
 refine i1 1 Z <| xc fc39 (A1 Z) Z (coMem (s := S) PC) fun _ => i1 9 Z <| xc fc38 (A1 Z) Z (rbytesEC (e := c)) <| JR fun a57 c57 hw57 hl57 hm57 hz57 => i1 10 Z <| xc fc40 (A4 Z Z Z Z) Z (coMemWrZ (s := S) (u := 4) (off := 16 + 32 * i) (ys := rawE c) PC IS.w.fit.mem Z (by omega) (by omega) (fun w H => sep_reads (xs := (rawE c).map encU) HS H) (by have := rawE_len c; omega)) fun _ => ip 11 Z Z Z Z (p_not Z) <| i0 <| Q_then <| J_bool (t := 59) (c := false) Z (rfl) <| C_false Z <| J_skip <| Q_blk_normal <| qr <| mv Z Z <| L_pur Z (p_add64 Z Z (by omega)) <| ag Z Z <| nq <| J_pick (A := coA g.p _) PC <| J_asTo (B := coA g.p (layE 0 (es.take (i + 1)) K)) (by rw [List.take_add_one, hcc, Option.toList_some, layE_snoc, List.length_take, Nat.min_eq_left (by omega), Nat.zero_add, ← hS]) ?_
 exact J_again (i + 1) (by omega) (⟨by omega, by omega⟩) SU KE
 refine J_exit <| Q_then_exit <| Q_then_exit <| Q_blk_this <| Q_then <| J_seq ?_
 have hend : es.take i = es.take 8 := by
  have : i = 8 := by simp at h45; omega
  rw [this]
 
 refine J_drawL (some 7) mixed <| ip 0 Z Z Z Z (p_move Z) <| ip 3 Z Z Z Z (p_move Z) <| ip 4 Z Z Z Z (p_len Z Tryz.underlying54) <| ip 5 Z Z Z Z (p_conv Z Tryz.underlying3 Tryz.underlying22) <| J_slot (t := 65) (v := .int .u32 (es.length : Int)) Z (by rw [List.length_map, wrap32u_of (by omega)]) <| I_ready (rs := [1, 2]) SI (by kernel_rfl) (by simp) <| (I_cons Z ?_ (I_cons Z ?_ I_nil))
 refine xc fc39 (A1 Z) Z (coMem (s := S) PC) fun _ => i1 2 Z <| x_make (len := 4) Z Z Tryz.underlying73 ty5 Z Z (by simp) (by simp) Z Z <| JE ((List.replicate 4 (0 : Int)).map encU) (by rfl) fun a62 c62 hw62 hl62 hm62 hz62 => i1 6 Z <| xc fc41 (A3 Z Z Z) Z (rput32C (a := 0) (bs := List.replicate 4 0) (n := (es.length : Int)) (fun w H => sep_reads (xs := (List.replicate 4 (0 : Int)).map encU) HS H) (by decide) (by decide)) <| JE ((le4 (es.length : Int)).map encU) (by rfl) fun a66 c66 hw66 hl66 hm66 hz66 => i1 7 Z <| xc fc40 (A4 Z Z Z Z) Z (coMemWrZ (s := S) (u := 4) (off := 4) (ys := le4 (es.length : Int)) PC IS.w.fit.mem Z Z (by omega) (fun w H => sep_reads (xs := (le4 (es.length : Int)).map encU) HS H) (by simp [le4])) fun _ => i0 <| Q_then <| J_seq <| J_pick (A := coA g.p _) PC ?_
 refine J_asTo (B := coA g.p (laidS g es)) (by unfold laidS; rw [← hend, ← hK, ← hS]) <| J_region <| mv Z Z <| ag Z Z <| nq <| J_ret ?_
 exact J_return (g) Tryz.results37 (.tmp Z .nil) Z SU
 refine x_make (len := 4) Z Z Tryz.underlying73 ty5 Z Z (by simp) (by simp) Z Z <| JE ((List.replicate 4 (0 : Int)).map encU) (by rfl) fun a62 c62 hw62 hl62 hm62 hz62 => i1 1 Z <| xc fc39 (A1 Z) Z (coMem (s := S) PC) fun _ => i1 6 Z <| xc fc41 (A3 Z Z Z) Z (rput32C (a := 0) (bs := List.replicate 4 0) (n := (es.length : Int)) (fun w H => sep_reads (xs := (List.replicate 4 (0 : Int)).map encU) HS H) (by decide) (by decide)) <| JE ((le4 (es.length : Int)).map encU) (by rfl) fun a66 c66 hw66 hl66 hm66 hz66 => i1 7 Z <| xc fc40 (A4 Z Z Z Z) Z (coMemWrZ (s := S) (u := 4) (off := 4) (ys := le4 (es.length : Int)) PC IS.w.fit.mem Z Z (by omega) (fun w H => sep_reads (xs := (le4 (es.length : Int)).map encU) HS H) (by simp [le4])) fun _ => i0 <| Q_then <| J_seq <| J_pick (A := coA g.p _) PC ?_
 refine J_asTo (B := coA g.p (laidS g es)) (by unfold laidS; rw [← hend, ← hK, ← hS]) <| J_region <| mv Z Z <| ag Z Z <| nq <| J_ret ?_
 exact J_return (g) Tryz.results37 (.tmp Z .nil) Z SU
 refine gz Z Z Z Z Z <| gz Z Z Z Z Z <| gz Z Z Z Z Z <| gz Z Z Z Z Z <| gz Z Z Z Z Z <| L_pur Z (p_pick_f Z Z) <| nq <| C_false Z <| J_exit <| Q_then_exit <| Q_then_exit <| Q_blk_this <| Q_then <| J_seq ?_
 have hend : es.take i = es.take 8 := by
  have : i = es.length := by simp at h39; omega
  rw [this, List.take_length, List.take_of_length_le (by omega)]
 
 refine J_drawL (some 7) mixed <| ip 0 Z Z Z Z (p_move Z) <| ip 3 Z Z Z Z (p_move Z) <| ip 4 Z Z Z Z (p_len Z Tryz.underlying54) <| ip 5 Z Z Z Z (p_conv Z Tryz.underlying3 Tryz.underlying22) <| J_slot (t := 65) (v := .int .u32 (es.length : Int)) Z (by rw [List.length_map, wrap32u_of (by omega)]) <| I_ready (rs := [1, 2]) SI (by kernel_rfl) (by simp) <| (I_cons Z ?_ (I_cons Z ?_ I_nil))
 refine xc fc39 (A1 Z) Z (coMem (s := S) PC) fun _ => i1 2 Z <| x_make (len := 4) Z Z Tryz.underlying73 ty5 Z Z (by simp) (by simp) Z Z <| JE ((List.replicate 4 (0 : Int)).map encU) (by rfl) fun a62 c62 hw62 hl62 hm62 hz62 => i1 6 Z <| xc fc41 (A3 Z Z Z) Z (rput32C (a := 0) (bs := List.replicate 4 0) (n := (es.length : Int)) (fun w H => sep_reads (xs := (List.replicate 4 (0 : Int)).map encU) HS H) (by decide) (by decide)) <| JE ((le4 (es.length : Int)).map encU) (by rfl) fun a66 c66 hw66 hl66 hm66 hz66 => i1 7 Z <| xc fc40 (A4 Z Z Z Z) Z (coMemWrZ (s := S) (u := 4) (off := 4) (ys := le4 (es.length : Int)) PC IS.w.fit.mem Z Z (by omega) (fun w H => sep_reads (xs := (le4 (es.length : Int)).map encU) HS H) (by simp [le4])) fun _ => i0 <| Q_then <| J_seq <| J_pick (A := coA g.p _) PC ?_
 refine J_asTo (B := coA g.p (laidS g es)) (by unfold laidS; rw [← hend, ← hK, ← hS]) <| J_region <| mv Z Z <| ag Z Z <| nq <| J_ret ?_
 exact J_return (g) Tryz.results37 (.tmp Z .nil) Z SU
 refine x_make (len := 4) Z Z Tryz.underlying73 ty5 Z Z (by simp) (by simp) Z Z <| JE ((List.replicate 4 (0 : Int)).map encU) (by rfl) fun a62 c62 hw62 hl62 hm62 hz62 => i1 1 Z <| xc fc39 (A1 Z) Z (coMem (s := S) PC) fun _ => i1 6 Z <| xc fc41 (A3 Z Z Z) Z (rput32C (a := 0) (bs := List.replicate 4 0) (n := (es.length : Int)) (fun w H => sep_reads (xs := (List.replicate 4 (0 : Int)).map encU) HS H) (by decide) (by decide)) <| JE ((le4 (es.length : Int)).map encU) (by rfl) fun a66 c66 hw66 hl66 hm66 hz66 => i1 7 Z <| xc fc40 (A4 Z Z Z Z) Z (coMemWrZ (s := S) (u := 4) (off := 4) (ys := le4 (es.length : Int)) PC IS.w.fit.mem Z Z (by omega) (fun w H => sep_reads (xs := (le4 (es.length : Int)).map encU) HS H) (by simp [le4])) fun _ => i0 <| Q_then <| J_seq <| J_pick (A := coA g.p _) PC ?_
 refine J_asTo (B := coA g.p (laidS g es)) (by unfold laidS; rw [← hend, ← hK, ← hS]) <| J_region <| mv Z Z <| ag Z Z <| nq <| J_ret ?_
 exact J_return (g) Tryz.results37 (.tmp Z .nil) Z SU
def fF1 (g : NewG) : KS := memS (kNew 1 1 2 2 false g) 4 4 [1]
def fF2 (g : NewG) (β : Nat → Nat) : KS := (kEnter (fF1 g) 2 3 β).1
def pNo : Sqe → Bool := fun _ => false
def fOk (g : NewG) (β γ : Nat → Nat) : Bool := entOk pNo (fF1 g) 2 3 && (decide ((kEnter (fF1 g) 2 3 β).2 = 1) && (decide (tailO (fF2 g β) 4 = some 1) && (entOk pNo (fF2 g β) 9 1 && decide ((kEnter (fF2 g β) 9 1 γ).2 = -11))))
theorem f_ok (g : NewG) (β γ : Nat → Nat) : fOk g β γ = true := by kernel_rfl
theorem tailO_is (h : tailO s g = some n) : ∃ b r, look s.rg g = some (b, r) ∧ r.tail = n := by
  unfold tailO at h
  cases hq : look s.rg g with
  | none => rw [hq] at h; cases h
  | some x => rw [hq] at h; exact ⟨x.1, x.2, rfl, Option.some.inj h⟩
theorem noD : ∀ (s : KS) (N M : Nat) (q : Rq) (T : Th) (i : ID), Good s N M → SqeOk q.e → pNo q.e = true → DoesC s T q i := fun _ _ _ _ _ _ _ _ h => by cases h
theorem first26 :
    Con Tryz.prog 36 #[] E l (fun _ : Unit => .bool true) (fun _ => l) := by
  refine Con.body (n := 39) Tryz.func36 Z Z _ (env_ok 0 Z) <| sr <| ag Z Z <| nx <| L_pur Z (bld86 (.cons Z (.cons Z (.cons Z (.cons Z .nil)))) (by repeat constructor)) <| J_slot (t := 2) (v := .agg (encG 1 1 2 2 false).toArray) Z Z <| xo fc45 (A1 Z) Z (coNew (ct := 1) (cu := 1) (cs := 2) (cc := 2) (sh := false)) fun g => ?_
  have IK := wellE122 pNo g
  have hrg : look (ptrs (KS.rg (kNew 1 1 2 2 false g))) 4 = some (g.bs 0).1 := rfl
  have hrt : (KS.rt (kNew 1 1 2 2 false g)) = [] := rfl
  have F := f_ok g
  unfold fOk at F
  simp only [Bool.and_eq_true, decide_eq_true_eq] at F
  unfold fF2 fF1 at F
  obtain ⟨K, hK⟩ : ∃ K, K = (kNew 1 1 2 2 false g) := ⟨_, rfl⟩
  rw [← hK] at IK hrg hrt F
  refine J_pick (A := coA g.p _) PC <| J_asTo (B := coA g.p K) (by rw [hK]) <| ag Z Z <| nxx <| mv Z Z <| L_pur Z (p_eqNilPtr Tryz.underlying24 Z) <| mv Z Z <| J_bool (t := 6) (c := false) Z (rfl) <| L_op <| G_on Z Z Z <| J_pur (p_move Z) Z Z Z <| L_op <| G_on Z Z Z <| xc fc39 (A1 Z) Z (coMem (s := K) PC) fun _ => gp Z Z Z (p_eqNilPtr Tryz.underlying75 Z) Z <| L_pur Z (p_pick_f Z Z) <| mv Z Z <| J_bool (t := 11) (c := false) Z (rfl) <| L_op <| G_on Z Z Z <| J_pur (p_move Z) Z Z Z <| L_op <| G_on Z Z Z <| xc fc43 (A2 Z Z) Z (coRing (s := K) (u := 4) PC) fun _ => J_slot (t := 13) (v := .pointer (some ⟨(g.bs 0).1, 0, none⟩)) Z (by rw [hrg]; rfl) <| gp Z Z Z (p_eqNilPtr Tryz.underlying80 Z) Z <| L_pur Z (p_pick_f Z Z) <| mv Z Z <| J_bool (t := 16) (c := false) Z (rfl) <| L_op <| G_on Z Z Z ?_
  refine J_pur (p_move Z) Z Z Z <| L_op <| G_on Z Z Z <| xc fc57 (A3 Z Z Z) Z (coRunP (s := K) (p := pNo) (g := 9) (bud := 5) PC IK (by omega) (by omega) (by omega) noD) fun x18 => J_slot (t := 18) (v := .int .i64 0) Z (by rw [run_nil hrt]; rfl) <| J_pick (A := coA g.p _) PC <| J_asTo (B := coA g.p K) (by rw [run_nil hrt]) <| gp Z Z Z (p_neq Z Z) Z <| L_pur Z (p_pick_f Z Z) <| nq <| J_bool (t := 20) (c := false) Z (rfl) <| C_false Z <| J_skip <| qx <| mv Z Z <| xo fc39 (A1 Z) Z (coMem (s := K) PC) fun _ => ?_
  refine L_op <| x_lit (vals := [_]) Tryz.underlying73 ty5 Z (.cons Z .nil) (.one Z .nil) (Wf.cons Z Z Wf.nil) Z (by decide) Z Z <| JE (([1] : List Int).map encU) (by rfl) fun a23 c23 hw23 hl23 hm23 hz23 => xo fc40 (A4 Z Z Z Z) Z (coMemWrZ (s := K) (u := 4) (off := 4) (ys := [1]) PC IK.w.fit.mem Z Z (by omega) (fun w H => sep_reads (xs := ([1] : List Int).map encU) HS H) (by decide)) fun _ => ?_
  obtain ⟨S1, hS1⟩ : ∃ S, S = memS K 4 4 [1] := ⟨_, rfl⟩
  refine J_pick (A := coA g.p _) PC <| J_asTo (B := coA g.p S1) (by rw [hS1]) ?_
  have I1 : EInv pNo S1 40 60 := by rw [hS1]; exact IK.memS (by omega) (by decide) (fun x hx => by rw [List.mem_singleton.1 hx]; omega)
  rw [← hS1] at F
  refine nx <| mv Z Z <| xo fc42 (A3 Z Z Z) Z (coEnterP (s := S1) (p := pNo) (t := 2) (n := 3) (N := 40) (M := 60) PC I1 (F (fun _ => 0) (fun _ => 0)).1 (by omega) (by omega) noD) fun b1 => J_slot (t := 26) (v := .int .i64 1) Z (by rw [(F b1 (fun _ => 0)).2.1]) ?_
  obtain ⟨S2, hS2⟩ : ∃ S, S = (kEnter S1 2 3 b1).1 := ⟨_, rfl⟩
  refine J_pick (A := coA g.p _) PC <| J_asTo (B := coA g.p S2) (by rw [hS2]) ?_
  have I2 : EInv pNo S2 140 69 := by rw [hS2]; exact I1.enter (F (fun _ => 0) (fun _ => 0)).1 (by omega) (by omega) b1
  have F2 := fun b => (F b1 b).2.2
  rw [← hS2] at F2
  obtain ⟨bt, rt, ht1, ht2⟩ := tailO_is (F2 (fun _ => 0)).1
  refine L_pur Z (p_eql Z Z) <| mv Z Z <| J_bool (t := 28) (c := true) Z (rfl) <| gp Z Z Z (p_move Z) Z <| L_op <| G_on Z Z Z <| xc fc43 (A2 Z Z) Z (coRing (s := S2) (u := 4) PC) fun _ => J_slot (t := 30) (v := .pointer (some ⟨bt, 0, none⟩)) Z (by rw [look_is ht1]; rfl) <| L_op <| G_on Z Z Z <| xc fc44 (A1 Z) Z (coRgTail (s := S2) (u := 4) PC ht1) fun _ => J_slot (t := 31) (v := .int .u32 1) Z (by rw [ht2]) <| gp Z Z Z (p_eql Z Z) Z <| L_pur Z (p_pick_t Z Z) <| mv Z Z <| J_bool (t := 34) (c := true) Z (rfl) <| L_op <| G_on Z Z Z <| J_pur (p_move Z) Z Z Z <| L_op <| G_on Z Z Z <| xc fc42 (A3 Z Z Z) Z (coEnterP (s := S2) (p := pNo) (t := 9) (n := 1) (N := 140) (M := 69) PC I2 (F2 (fun _ => 0)).2.1 (by omega) (by omega) noD) fun b2 => J_slot (t := 36) (v := .int .i64 (-11)) Z (by rw [(F2 b2).2.2]) ?_
  obtain ⟨S3, hS3⟩ : ∃ S, S = (kEnter S2 9 1 b2).1 := ⟨_, rfl⟩
  refine J_pick (A := coA g.p _) PC <| J_asTo (B := coA g.p S3) (by rw [hS3]) ?_
  have I3 : EInv pNo S3 240 78 := by rw [hS3]; exact I2.enter (F2 (fun _ => 0)).2.1 (by omega) (by omega) b2
  
  refine gp Z Z Z (p_eql Z Z) Z <| L_pur Z (p_pick_t Z Z) <| ag Z Z <| nq <| J_ret <| J_return (()) Tryz.results36 (.tmp Z .nil) ?_ ?_
  · rfl
  · exact SU
end Go.Pse
namespace Go.Pse
open Go.RowKit Go.Proofs Go.Proofs.YtclgdnpndlognaaGreat
theorem pf_laidOut : laidOutB Tryz.prog = true := by kernel_rfl
theorem pf_rowed : mapsRowed Tryz.prog = true := by kernel_rfl
theorem pf_stops : (Tryz.prog.stops == []) = true := by kernel_rfl
theorem pf_knobs : (Tryz.prog.stopKnobs == []) = true := by kernel_rfl
theorem pf_heard : Tryz.prog.stopsHeard = true := by kernel_rfl
theorem pf_own : ownKnob Tryz.prog.godebug = none := by kernel_rfl
theorem pf_plain : (false == Tryz.prog.plainKeys) = true := by kernel_rfl
def ioNs : List Nat := [104, 97, 114, 110, 101, 115, 115, 32, 57, 51, 56, 99, 97, 101, 49, 102, 56, 48, 53, 49, 49, 97, 97, 100, 102, 100, 98, 100, 49, 101, 48, 102, 52, 102, 52, 102, 98, 51, 52, 97, 98, 52, 98, 98, 53, 49, 101, 56, 57, 98, 99, 53, 52, 99, 57, 53, 97, 56, 53, 102, 57, 98, 100, 101, 57, 51, 52, 49, 102, 57, 57, 57, 32, 99, 117, 116, 32, 97, 116, 32, 114, 105, 110, 103, 107, 101, 114, 110, 47, 114, 105, 110, 103, 107, 101, 114, 110, 108, 97, 119, 50, 53, 46, 65, 99, 116, 77, 101, 101, 116, 115, 32, 114, 105, 110, 103, 107, 101, 114, 110, 47, 114, 105, 110, 103, 107, 101, 114, 110, 108, 97, 119, 50, 53, 46, 65, 99, 116, 83, 105, 103, 110, 97, 108, 115, 32, 114, 105, 110, 103, 107, 101, 114, 110, 47, 114, 105, 110, 103, 107, 101, 114, 110, 108, 97, 119, 50, 53, 46, 65, 99, 116, 69, 114, 114, 111, 114, 115, 32, 114, 105, 110, 103, 107, 101, 114, 110, 47, 114, 105, 110, 103, 107, 101, 114, 110, 108, 97, 119, 50, 54, 46, 69, 110, 116, 101, 114, 77, 105, 120, 101, 100, 32, 114, 105, 110, 103, 107, 101, 114, 110, 47, 114, 105, 110, 103, 107, 101, 114, 110, 108, 97, 119, 50, 54, 46, 69, 110, 116, 101, 114, 66, 117, 115, 121, 32, 114, 105, 110, 103, 107, 101, 114, 110, 47, 114, 105, 110, 103, 107, 101, 114, 110, 108, 97, 119, 50, 54, 46, 69, 110, 116, 101, 114, 67, 104, 97, 105, 110, 115, 32, 114, 105, 110, 103, 107, 101, 114, 110, 47, 114, 105, 110, 103, 107, 101, 114, 110, 108, 97, 119, 50, 54, 46, 69, 110, 116, 101, 114, 66, 117, 100, 103, 101, 116, 32, 114, 105, 110, 103, 107, 101, 114, 110, 47, 114, 105, 110, 103, 107, 101, 114, 110, 108, 97, 119, 50, 54, 46, 69, 110, 116, 101, 114, 82, 101, 102, 117, 115, 101, 115, 32, 114, 105, 110, 103, 107, 101, 114, 110, 47, 114, 105, 110, 103, 107, 101, 114, 110, 108, 97, 119, 50, 54, 46, 69, 110, 116, 101, 114, 76, 101, 97, 118, 101, 115, 32, 114, 105, 110, 103, 107, 101, 114, 110, 47, 114, 105, 110, 103, 107, 101, 114, 110, 108, 97, 119, 50, 54, 46, 69, 110, 116, 101, 114, 68, 114, 97, 105, 110, 32, 114, 105, 110, 103, 107, 101, 114, 110, 47, 114, 105, 110, 103, 107, 101, 114, 110, 108, 97, 119, 50, 54, 46, 69, 110, 116, 101, 114, 84, 105, 109, 101, 115]
def ioCs : List Char := ioNs.map Char.ofNat
theorem io : Tryz.prog.initOrder = String.ofList ioCs := by kernel_rfl
theorem words : wordsSigns Tryz.prog.initOrder.toList = wordsSigns ioCs := by rw [io, String.toList_ofList]
variable {P : Program}
theorem make_of {c : List Char} {r : List (List Char)} (h : behindMainWord (wordsSigns P.initOrder.toList) = c :: r) (h1 : (c == "gc".toList) = false) (h2 : (c == "spec".toList) = false) (h3 : (c == "cut".toList) = true) : (P.make == some .cut) = true := by
  unfold Program.make
  rw [h]
  simp only [h1, h2, h3, Bool.or_self, Bool.true_or, Bool.false_eq_true, if_false, if_true]
  rfl
theorem enter_of {c : List Char} {r : List (List Char)} (h : behindMainWord (wordsSigns P.initOrder.toList) = c :: r) (hs : stripLifts liftWords (c :: r) = ([], c :: r)) (hh : (some c == some "cut".toList) = true) (h1 : P.laysLater = false) (h2 : P.bearsReflect = false) (h3 : P.doorFits [] = true) : P.mayEnter = true := by
  unfold Program.mayEnter
  rw [h]
  simp only [hs, h1, h2, h3, List.head?_cons, hh]
  simp
def ioW0 : List Char := [Char.ofNat 99, Char.ofNat 117, Char.ofNat 116]
def ioWr : List (List Char) := [[Char.ofNat 97, Char.ofNat 116], [Char.ofNat 114, Char.ofNat 105, Char.ofNat 110, Char.ofNat 103, Char.ofNat 107, Char.ofNat 101, Char.ofNat 114, Char.ofNat 110, Char.ofNat 47, Char.ofNat 114, Char.ofNat 105, Char.ofNat 110, Char.ofNat 103, Char.ofNat 107, Char.ofNat 101, Char.ofNat 114, Char.ofNat 110, Char.ofNat 108, Char.ofNat 97, Char.ofNat 119, Char.ofNat 50, Char.ofNat 53, Char.ofNat 46, Char.ofNat 65, Char.ofNat 99, Char.ofNat 116, Char.ofNat 77, Char.ofNat 101, Char.ofNat 101, Char.ofNat 116, Char.ofNat 115], [Char.ofNat 114, Char.ofNat 105, Char.ofNat 110, Char.ofNat 103, Char.ofNat 107, Char.ofNat 101, Char.ofNat 114, Char.ofNat 110, Char.ofNat 47, Char.ofNat 114, Char.ofNat 105, Char.ofNat 110, Char.ofNat 103, Char.ofNat 107, Char.ofNat 101, Char.ofNat 114, Char.ofNat 110, Char.ofNat 108, Char.ofNat 97, Char.ofNat 119, Char.ofNat 50, Char.ofNat 53, Char.ofNat 46, Char.ofNat 65, Char.ofNat 99, Char.ofNat 116, Char.ofNat 83, Char.ofNat 105, Char.ofNat 103, Char.ofNat 110, Char.ofNat 97, Char.ofNat 108, Char.ofNat 115], [Char.ofNat 114, Char.ofNat 105, Char.ofNat 110, Char.ofNat 103, Char.ofNat 107, Char.ofNat 101, Char.ofNat 114, Char.ofNat 110, Char.ofNat 47, Char.ofNat 114, Char.ofNat 105, Char.ofNat 110, Char.ofNat 103, Char.ofNat 107, Char.ofNat 101, Char.ofNat 114, Char.ofNat 110, Char.ofNat 108, Char.ofNat 97, Char.ofNat 119, Char.ofNat 50, Char.ofNat 53, Char.ofNat 46, Char.ofNat 65, Char.ofNat 99, Char.ofNat 116, Char.ofNat 69, Char.ofNat 114, Char.ofNat 114, Char.ofNat 111, Char.ofNat 114, Char.ofNat 115], [Char.ofNat 114, Char.ofNat 105, Char.ofNat 110, Char.ofNat 103, Char.ofNat 107, Char.ofNat 101, Char.ofNat 114, Char.ofNat 110, Char.ofNat 47, Char.ofNat 114, Char.ofNat 105, Char.ofNat 110, Char.ofNat 103, Char.ofNat 107, Char.ofNat 101, Char.ofNat 114, Char.ofNat 110, Char.ofNat 108, Char.ofNat 97, Char.ofNat 119, Char.ofNat 50, Char.ofNat 54, Char.ofNat 46, Char.ofNat 69, Char.ofNat 110, Char.ofNat 116, Char.ofNat 101, Char.ofNat 114, Char.ofNat 77, Char.ofNat 105, Char.ofNat 120, Char.ofNat 101, Char.ofNat 100], [Char.ofNat 114, Char.ofNat 105, Char.ofNat 110, Char.ofNat 103, Char.ofNat 107, Char.ofNat 101, Char.ofNat 114, Char.ofNat 110, Char.ofNat 47, Char.ofNat 114, Char.ofNat 105, Char.ofNat 110, Char.ofNat 103, Char.ofNat 107, Char.ofNat 101, Char.ofNat 114, Char.ofNat 110, Char.ofNat 108, Char.ofNat 97, Char.ofNat 119, Char.ofNat 50, Char.ofNat 54, Char.ofNat 46, Char.ofNat 69, Char.ofNat 110, Char.ofNat 116, Char.ofNat 101, Char.ofNat 114, Char.ofNat 66, Char.ofNat 117, Char.ofNat 115, Char.ofNat 121], [Char.ofNat 114, Char.ofNat 105, Char.ofNat 110, Char.ofNat 103, Char.ofNat 107, Char.ofNat 101, Char.ofNat 114, Char.ofNat 110, Char.ofNat 47, Char.ofNat 114, Char.ofNat 105, Char.ofNat 110, Char.ofNat 103, Char.ofNat 107, Char.ofNat 101, Char.ofNat 114, Char.ofNat 110, Char.ofNat 108, Char.ofNat 97, Char.ofNat 119, Char.ofNat 50, Char.ofNat 54, Char.ofNat 46, Char.ofNat 69, Char.ofNat 110, Char.ofNat 116, Char.ofNat 101, Char.ofNat 114, Char.ofNat 67, Char.ofNat 104, Char.ofNat 97, Char.ofNat 105, Char.ofNat 110, Char.ofNat 115], [Char.ofNat 114, Char.ofNat 105, Char.ofNat 110, Char.ofNat 103, Char.ofNat 107, Char.ofNat 101, Char.ofNat 114, Char.ofNat 110, Char.ofNat 47, Char.ofNat 114, Char.ofNat 105, Char.ofNat 110, Char.ofNat 103, Char.ofNat 107, Char.ofNat 101, Char.ofNat 114, Char.ofNat 110, Char.ofNat 108, Char.ofNat 97, Char.ofNat 119, Char.ofNat 50, Char.ofNat 54, Char.ofNat 46, Char.ofNat 69, Char.ofNat 110, Char.ofNat 116, Char.ofNat 101, Char.ofNat 114, Char.ofNat 66, Char.ofNat 117, Char.ofNat 100, Char.ofNat 103, Char.ofNat 101, Char.ofNat 116], [Char.ofNat 114, Char.ofNat 105, Char.ofNat 110, Char.ofNat 103, Char.ofNat 107, Char.ofNat 101, Char.ofNat 114, Char.ofNat 110, Char.ofNat 47, Char.ofNat 114, Char.ofNat 105, Char.ofNat 110, Char.ofNat 103, Char.ofNat 107, Char.ofNat 101, Char.ofNat 114, Char.ofNat 110, Char.ofNat 108, Char.ofNat 97, Char.ofNat 119, Char.ofNat 50, Char.ofNat 54, Char.ofNat 46, Char.ofNat 69, Char.ofNat 110, Char.ofNat 116, Char.ofNat 101, Char.ofNat 114, Char.ofNat 82, Char.ofNat 101, Char.ofNat 102, Char.ofNat 117, Char.ofNat 115, Char.ofNat 101, Char.ofNat 115], [Char.ofNat 114, Char.ofNat 105, Char.ofNat 110, Char.ofNat 103, Char.ofNat 107, Char.ofNat 101, Char.ofNat 114, Char.ofNat 110, Char.ofNat 47, Char.ofNat 114, Char.ofNat 105, Char.ofNat 110, Char.ofNat 103, Char.ofNat 107, Char.ofNat 101, Char.ofNat 114, Char.ofNat 110, Char.ofNat 108, Char.ofNat 97, Char.ofNat 119, Char.ofNat 50, Char.ofNat 54, Char.ofNat 46, Char.ofNat 69, Char.ofNat 110, Char.ofNat 116, Char.ofNat 101, Char.ofNat 114, Char.ofNat 76, Char.ofNat 101, Char.ofNat 97, Char.ofNat 118, Char.ofNat 101, Char.ofNat 115], [Char.ofNat 114, Char.ofNat 105, Char.ofNat 110, Char.ofNat 103, Char.ofNat 107, Char.ofNat 101, Char.ofNat 114, Char.ofNat 110, Char.ofNat 47, Char.ofNat 114, Char.ofNat 105, Char.ofNat 110, Char.ofNat 103, Char.ofNat 107, Char.ofNat 101, Char.ofNat 114, Char.ofNat 110, Char.ofNat 108, Char.ofNat 97, Char.ofNat 119, Char.ofNat 50, Char.ofNat 54, Char.ofNat 46, Char.ofNat 69, Char.ofNat 110, Char.ofNat 116, Char.ofNat 101, Char.ofNat 114, Char.ofNat 68, Char.ofNat 114, Char.ofNat 97, Char.ofNat 105, Char.ofNat 110], [Char.ofNat 114, Char.ofNat 105, Char.ofNat 110, Char.ofNat 103, Char.ofNat 107, Char.ofNat 101, Char.ofNat 114, Char.ofNat 110, Char.ofNat 47, Char.ofNat 114, Char.ofNat 105, Char.ofNat 110, Char.ofNat 103, Char.ofNat 107, Char.ofNat 101, Char.ofNat 114, Char.ofNat 110, Char.ofNat 108, Char.ofNat 97, Char.ofNat 119, Char.ofNat 50, Char.ofNat 54, Char.ofNat 46, Char.ofNat 69, Char.ofNat 110, Char.ofNat 116, Char.ofNat 101, Char.ofNat 114, Char.ofNat 84, Char.ofNat 105, Char.ofNat 109, Char.ofNat 101, Char.ofNat 115]]
theorem words2 : behindMainWord (wordsSigns Tryz.prog.initOrder.toList) = ioW0 :: ioWr := by
  rw [words]
  kernel_rfl
theorem w_gc : (ioW0 == "gc".toList) = false := by kernel_rfl
theorem w_spec : (ioW0 == "spec".toList) = false := by kernel_rfl
theorem w_cut : (ioW0 == "cut".toList) = true := by kernel_rfl
theorem w_strip : stripLifts liftWords (ioW0 :: ioWr) = ([], ioW0 :: ioWr) := by kernel_rfl
theorem w_head : (some ioW0 == some "cut".toList) = true := by kernel_rfl
theorem w_later : Tryz.prog.laysLater = false := by kernel_rfl
theorem w_refl : Tryz.prog.bearsReflect = false := by kernel_rfl
theorem w_door : Tryz.prog.doorFits [] = true := by kernel_rfl
theorem pf_enter : Tryz.prog.mayEnter = true := enter_of words2 w_strip w_head w_later w_refl w_door
theorem pf_lifts : (false == Tryz.prog.liftsFinal) = true := by
  unfold Program.liftsFinal Program.headLifts
  rw [words2]
  kernel_rfl
theorem pf_make : (Tryz.prog.make == some .cut) = true := make_of words2 w_gc w_spec w_cut
end Go.Pse
