/-
  Own texts, merged: C63, C64, C65, C66, C67, C68.
-/
import Derived.Test.YtclgdnpndlognaaGreatBC3
set_option linter.unusedVariables false
set_option linter.unusedSimpArgs false
set_option maxRecDepth 100000
set_option maxHeartbeats 4000000
namespace Go.Pse
open Go.RowKit Go.Proofs
/-! ### plain: objects are made of memory -/
def usedM (mr : List (Place × Int)) (r : Place) : Int := (look mr r).getD 0
def mtkOk (mr : List (Place × Int)) (r : Place) (n : Int) : Bool := decide (1 ≤ n) && decide (n ≤ r.2 - usedM mr r)
def mtkM (mr : List (Place × Int)) (r : Place) (n : Int) : List (Place × Int) := if mtkOk mr r n = true then ins mr r (usedM mr r + n) else mr
def mtkV (mr : List (Place × Int)) (r : Place) (n : Int) : Int := if mtkOk mr r n = true then r.1 + usedM mr r else 0
def kindsC (kind size : Int) : Int := if kind = 2 ∨ kind = 3 ∨ kind = 4 ∨ kind = 5 ∨ kind = 7 then (if size ≠ 0 then 7 else 0) else if kind = 1 then (if size < 1 ∨ size > 64 then 7 else 0) else 5
def sizeC (c : Cap) : Int := if c.kind = 1 then c.size else 1
def withinC (c u : Cap) : Bool := !(decide (c.obj ≥ u.obj + u.size) || decide (c.obj + sizeC c ≤ u.obj)) && (decide (c.kind ≠ 1) || decide (c.obj > u.obj) || decide (c.obj + sizeC c < u.obj + u.size))
def bareS (ps : List (Place × SV)) (u : Cap) : Bool := ps.all fun e => !withinC e.2.1 u
def rangeC (c : Cap) : Place := if c.kind ≠ 1 then (0, 0) else (c.obj, c.size)
def CapsOk (ps : List (Place × SV)) : Prop := ∀ e ∈ ps, checkC e.2.1 = true
def MarksOk (mr : List (Place × Int)) : Prop := ∀ e ∈ mr, 0 ≤ e.2 ∧ e.2 ≤ 64
def resetM (ps : List (Place × SV)) (mr : List (Place × Int)) (u : Cap) : List (Place × Int) := if bareS ps u = true then del mr (rangeC u) else mr
def madeC (mr : List (Place × Int)) (u : Cap) (kind size : Int) : Cap := ⟨kind, mtkV mr (rangeC u) (max size 1), size, 0, 7⟩
def makeS (ps : List (Place × SV)) (mr : List (Place × Int)) (p q : Place) (kind size : Int) : (List (Place × SV) × List (Place × Int)) × Cap × Int := match look ps p with
  | none => ((ps, mr), c0, 4)
  | some u => if u.1.kind ≠ 1 then ((ps, mr), c0, 5) else if canP q = false then ((ps, mr), c0, 7) else if (look ps q).isSome then ((ps, mr), c0, 3) else if kindsC kind size ≠ 0 then ((ps, mr), c0, kindsC kind size)
    else if mtkOk (resetM ps mr u.1) (rangeC u.1) (max size 1) = true then ((slPut ps q (madeC (resetM ps mr u.1) u.1 kind size) p, mtkM (resetM ps mr u.1) (rangeC u.1) (max size 1)), madeC (resetM ps mr u.1) u.1 kind size, 0)
    else ((ps, resetM ps mr u.1), c0, 8)
theorem checkC_is {c : Cap} (h : checkC c = true) : (1 ≤ c.obj ∧ c.obj ≤ 64) ∧ (0 ≤ c.size ∧ c.size ≤ 64) ∧ (c.kind = 1 → c.obj + c.size ≤ 65 ∧ 1 ≤ c.size) := by
  unfold checkC inB at h
  simp only [Bool.and_eq_true, decide_eq_true_eq] at h
  obtain ⟨⟨⟨h1, h2⟩, h3⟩, h4⟩ := h
  split at h4
  · simp at h4; omega
  · split at h4
    · simp at h4; omega
    · split at h4 <;> simp at h4 <;> omega
theorem usedM_is {mr : List (Place × Int)} (h : MarksOk mr) (r : Place) : 0 ≤ usedM mr r ∧ usedM mr r ≤ 64 := by
  unfold usedM
  cases hq : look mr r with
  | none => simp
  | some y => exact h _ (mem_look hq)
theorem MarksOk.del {mr : List (Place × Int)} (h : MarksOk mr) (r : Place) : MarksOk (del mr r) := fun e he => h e (List.mem_filter.1 he).1
theorem MarksOk.reset {mr : List (Place × Int)} (h : MarksOk mr) (ps : List (Place × SV)) (u : Cap) : MarksOk (resetM ps mr u) := by
  unfold resetM; split
  · exact h.del _
  · exact h
variable {E : World} {l m : List As}
theorem mkReset {b o : Nat} {mr : List (Place × Int)} (hp : Pick (mkA b o mr) l m) {r : Place} :
    Con Tryz.prog 283 #[.pointer (some ⟨b, o, none⟩), .agg (encI r).toArray] E l (fun _ : Unit => .tuple #[]) (fun _ => mkA b o (del mr r) :: m) := by
  refine Con.body (n := 9) Tryz.func283 Z Z _ (env_ok 2 Z) <| J_pick hp <| J_mkO fun ob _ => sr <| L_op <| x_box Z Z Z fun b3 => nq <| J_drawT 5 mixed (by kernel_rfl) <| sm Z Z <| sp Z (p_nilCheck Z) <| sp Z (p_fieldAddr Z fa129_0) <| S_val Z (v_loadL Z ty127 HS Z (by exact rfl)) <| S_val Z (v_loadA Z ty422 HS CT) <| S_nil <| L_op <| x_delete (ek := kI) (ev := evZ) (a := r) Z Z ky422 Tryz.underlying127 PC <| L_nil <| J_endnormal <| J_mkS (b := b) (o := o) (ps := del mr r) _ PX trivial ?_
  exact J_return (()) Tryz.results283 .nil Z SU
theorem mkTake {b o : Nat} {mr : List (Place × Int)} (hp : Pick (mkA b o mr) l m) {r : Place} {n : Int} (hm : MarksOk mr) (hr : 0 ≤ r.1 ∧ r.1 ≤ 64 ∧ 0 ≤ r.2 ∧ r.2 ≤ 64) :
    Con Tryz.prog 284 #[.pointer (some ⟨b, o, none⟩), .agg (encI r).toArray, .int .i64 n] E l (fun _ : Unit => .tuple #[.int .i64 (mtkV mr r n), .bool (mtkOk mr r n)]) (fun _ => mkA b o (mtkM mr r n) :: m) := by
  refine Con.body (n := 46) Tryz.func284 Z Z _ (env_ok 3 Z) <| J_pick hp <| J_mkO fun ob _ => ?_
  have hus := usedM_is hm r
  refine sr <| L_op <| x_box Z Z Z fun b4 => ag Z Z <| ag Z Z <| nq <| J_seq <| J_drawS mixed (by kernel_rfl) <| sm Z Z <| sp Z (p_nilCheck Z) <| sp Z (p_fieldAddr Z fa129_0) <| S_val Z (v_loadL Z ty127 HS Z (by exact rfl)) <| S_val Z (v_loadA Z ty422 HS CT) <| S_val Z (v_look (ek := kI) (ev := evZ) (a := r) Z Z ky422 Tryz.underlying127 zv3 HS) <| J_slot (t := 14) (v := .int .i64 (usedM mr r)) Z (by unfold usedM; cases look mr r <;> rfl) <| sp Z (p_assign Z) <| sq <| J_seq <| sr <| mv Z Z <| L_pur Z (p_lss Z Z) <| mv Z Z <| J_gsplit (t := 17) Z (fun h17 => ?_) (fun h17 => ?_)
  refine gz Z Z Z Z Z <| gz Z Z Z Z Z <| gz Z Z Z Z Z <| gz Z Z Z Z Z <| gz Z Z Z Z Z <| gz Z Z Z Z Z <| L_pur Z (p_pick_t Z Z) <| nq <| C_true Z <| J_seq ?_
  have hto : mtkOk mr r n = false := by unfold mtkOk; first | (simp_all; done) | (simp_all <;> omega)
  have htm : mtkM mr r n = mr := by unfold mtkM; rw [if_neg (by rw [hto]; decide)]
  have htv : mtkV mr r n = 0 := by unfold mtkV; rw [if_neg (by rw [hto]; decide)]
  refine J_mkS (b := b) (o := o) (ps := mr) _ PX trivial <| J_asTo (B := mkA b o (mtkM mr r n)) (by rw [htm]) <| J_region <| ag Z Z <| ag Z Z <| nq <| J_ret <| Q_then_ret <| J_return (()) Tryz.results284 (.tmp Z (.tmp Z .nil)) ?_ ?_
  · rw [hto, htv]; rfl
  · exact SU
  refine gp Z Z Z (p_move Z) Z <| gp Z Z Z (p_fieldAddr Z fa422_1) Z <| L_op <| G_on Z Z Z <| J_val (v_load Z ty3 HS (by exact rfl)) Z Z Z <| gp Z Z Z (p_move Z) Z <| gp Z Z Z (p_sub64 Z Z (by omega)) Z <| L_op <| G_on Z Z Z <| J_pur (p_gtr Z Z) Z Z Z <| L_pur Z (p_pick_f Z Z) <| nq <| C_split Z (fun h24 => ?_) (fun h24 => ?_)
  refine J_seq ?_
  have hto : mtkOk mr r n = false := by unfold mtkOk; first | (simp_all; done) | (simp_all <;> omega)
  have htm : mtkM mr r n = mr := by unfold mtkM; rw [if_neg (by rw [hto]; decide)]
  have htv : mtkV mr r n = 0 := by unfold mtkV; rw [if_neg (by rw [hto]; decide)]
  refine J_mkS (b := b) (o := o) (ps := mr) _ PX trivial <| J_asTo (B := mkA b o (mtkM mr r n)) (by rw [htm]) <| J_region <| ag Z Z <| ag Z Z <| nq <| J_ret <| Q_then_ret <| J_return (()) Tryz.results284 (.tmp Z (.tmp Z .nil)) ?_ ?_
  · rw [hto, htv]; rfl
  · exact SU
  refine J_skip <| Q_then <| J_seq <| J_seq ?_
  have hto : mtkOk mr r n = true := by unfold mtkOk; simp_all
  have htm : mtkM mr r n = ins mr r (usedM mr r + n) := by unfold mtkM; rw [if_pos hto]
  have htv : mtkV mr r n = r.1 + usedM mr r := by unfold mtkV; rw [if_pos hto]
  have hn2 : 1 ≤ n ∧ n ≤ r.2 - usedM mr r := by unfold mtkOk at hto; simpa using hto
  refine J_region <| mv Z Z <| nc Z Z <| fa Z Z fa129_0 <| L_val Z (v_loadL Z ty127 HS Z (by exact rfl)) <| L_pur Z (p_eqNilMap Tryz.underlying127 Z) <| nq <| C_split Z (fun h29 => ?_) (fun h29 => ?_)
  obtain rfl : ob = none := by simpa using h29
  refine J_mapNone (ps := mr) HS fun hps => ?_
  subst hps
  refine J_region <| mv Z Z <| L_op <| x_makeMap (ek := kI) (ev := evZ) Z fun b31 => nc Z Z <| fa Z Z fa129_0 <| L_op <| x_storeL Z Z ty127 Z SM SM Z RO Z PT <| nq <| J_seq <| J_drawT 8 mixed (by kernel_rfl) <| sm Z Z <| sp Z (p_nilCheck Z) <| sp Z (p_fieldAddr Z fa129_0) <| S_val Z (v_loadL Z ty127 HS Z (by exact rfl)) <| S_val Z (v_loadA Z ty422 HS CT) <| sm Z Z <| sm Z Z <| sp Z (p_add64 Z Z (by omega)) <| S_nil <| L_op <| x_mapUpdate (ek := kI) (ev := evZ) (a := r) (c := usedM _ r + n) Z Z Z ky422 Tryz.underlying127 PC <| J_mkS (b := b) (o := o) (ps := ins [] r (usedM [] r + n)) _ PX trivial <| J_asTo (B := mkA b o (mtkM [] r n)) (by rw [htm]) <| nx <| fa Z Z fa422_0 <| L_val Z (v_load Z ty3 HS (by exact rfl)) <| mv Z Z <| L_pur Z (p_add64 Z Z (by omega)) <| ag Z Z <| ag Z Z <| nq <| J_ret <| J_return (()) Tryz.results284 (.tmp Z (.tmp Z .nil)) ?_ ?_
  · rw [hto, htv]; rfl
  · exact SU
  obtain ⟨bm, rfl⟩ : ∃ bm, ob = some bm := by cases ob with | none => simp at h29 | some x => exact ⟨x, rfl⟩
  refine J_skip <| Q_then <| J_seq <| J_drawT 8 mixed (by kernel_rfl) <| sm Z Z <| sp Z (p_nilCheck Z) <| sp Z (p_fieldAddr Z fa129_0) <| S_val Z (v_loadL Z ty127 HS Z (by exact rfl)) <| S_val Z (v_loadA Z ty422 HS CT) <| sm Z Z <| sm Z Z <| sp Z (p_add64 Z Z (by omega)) <| S_nil <| L_op <| x_mapUpdate (ek := kI) (ev := evZ) (a := r) (c := usedM _ r + n) Z Z Z ky422 Tryz.underlying127 PC <| J_mkS (b := b) (o := o) (ps := ins mr r (usedM mr r + n)) _ PX trivial <| J_asTo (B := mkA b o (mtkM mr r n)) (by rw [htm]) <| nx <| fa Z Z fa422_0 <| L_val Z (v_load Z ty3 HS (by exact rfl)) <| mv Z Z <| L_pur Z (p_add64 Z Z (by omega)) <| ag Z Z <| ag Z Z <| nq <| J_ret <| J_return (()) Tryz.results284 (.tmp Z (.tmp Z .nil)) ?_ ?_
  · rw [hto, htv]; rfl
  · exact SU
variable {k z : Int}
theorem kindsG :
    Con Tryz.prog 280 #[.int .i64 k, .int .i64 z] E l (fun _ : Unit => .int .i64 (kindsC k z)) (fun _ => l) := by
  refine Con.body (n := 22) Tryz.func280 Z Z _ (env_ok 2 Z) <| sr <| ag Z Z <| nxx <| mv Z Z <| nq <| J_block <| J_seq <| sr <| L_pur Z (p_eql Z Z) <| ag Z Z <| nq <| C_split Z (fun h6 => ?_) (fun h6 => ?_)
  refine J_skip <| Q_then <| C_split Z (fun h6 => ?_) (fun h6 => ?_)
  refine sr <| mv Z Z <| L_pur Z (p_neq Z Z) <| nq <| C_split Z (fun h13 => ?_) (fun h13 => ?_)
  refine sr <| ag Z Z <| nq <| J_ret <| Q_blk_ret <| Q_then_ret <| J_return (()) Tryz.results280 (.tmp Z .nil) ?_ ?_
  · first | rfl | (simp_all [one, kindsC]; done) | (simp_all [one, kindsC] <;> omega)
  · exact SU
  refine J_skip <| Q_blk_normal <| qx <| ag Z Z <| nq <| J_ret <| J_return (()) Tryz.results280 (.tmp Z .nil) ?_ ?_
  · first | rfl | (simp_all [one, kindsC]; done) | (simp_all [one, kindsC] <;> omega)
  · exact SU
  refine sr <| L_pur Z (p_eql Z Z) <| ag Z Z <| nq <| C_split Z (fun h14 => ?_) (fun h14 => ?_)
  refine sr <| mv Z Z <| L_pur Z (p_lss Z Z) <| mv Z Z <| J_gsplit (t := 18) Z (fun h18 => ?_) (fun h18 => ?_)
  refine gz Z Z Z Z Z <| gz Z Z Z Z Z <| L_pur Z (p_pick_t Z Z) <| nq <| C_true Z <| sr <| ag Z Z <| nq <| J_ret <| Q_blk_ret <| Q_then_ret <| J_return (()) Tryz.results280 (.tmp Z .nil) ?_ ?_
  · first | rfl | (simp_all [one, kindsC]; done) | (simp_all [one, kindsC] <;> omega)
  · exact SU
  refine gp Z Z Z (p_move Z) Z <| gp Z Z Z (p_gtr Z Z) Z <| L_pur Z (p_pick_f Z Z) <| nq <| C_split Z (fun h21 => ?_) (fun h21 => ?_)
  refine sr <| ag Z Z <| nq <| J_ret <| Q_blk_ret <| Q_then_ret <| J_return (()) Tryz.results280 (.tmp Z .nil) ?_ ?_
  · first | rfl | (simp_all [one, kindsC]; done) | (simp_all [one, kindsC] <;> omega)
  · exact SU
  refine J_skip <| Q_blk_normal <| qx <| ag Z Z <| nq <| J_ret <| J_return (()) Tryz.results280 (.tmp Z .nil) ?_ ?_
  · first | rfl | (simp_all [one, kindsC]; done) | (simp_all [one, kindsC] <;> omega)
  · exact SU
  refine sr <| ag Z Z <| nq <| J_ret <| Q_blk_ret <| Q_then_ret <| J_return (()) Tryz.results280 (.tmp Z .nil) ?_ ?_
  · first | rfl | (simp_all [one, kindsC]; done) | (simp_all [one, kindsC] <;> omega)
  · exact SU
  refine sr <| L_pur Z (p_eql Z Z) <| ag Z Z <| nq <| C_split Z (fun h6 => ?_) (fun h6 => ?_)
  refine J_skip <| Q_then <| C_split Z (fun h6 => ?_) (fun h6 => ?_)
  refine sr <| mv Z Z <| L_pur Z (p_neq Z Z) <| nq <| C_split Z (fun h13 => ?_) (fun h13 => ?_)
  refine sr <| ag Z Z <| nq <| J_ret <| Q_blk_ret <| Q_then_ret <| J_return (()) Tryz.results280 (.tmp Z .nil) ?_ ?_
  · first | rfl | (simp_all [one, kindsC]; done) | (simp_all [one, kindsC] <;> omega)
  · exact SU
  refine J_skip <| Q_blk_normal <| qx <| ag Z Z <| nq <| J_ret <| J_return (()) Tryz.results280 (.tmp Z .nil) ?_ ?_
  · first | rfl | (simp_all [one, kindsC]; done) | (simp_all [one, kindsC] <;> omega)
  · exact SU
  refine sr <| L_pur Z (p_eql Z Z) <| ag Z Z <| nq <| C_split Z (fun h14 => ?_) (fun h14 => ?_)
  refine sr <| mv Z Z <| L_pur Z (p_lss Z Z) <| mv Z Z <| J_gsplit (t := 18) Z (fun h18 => ?_) (fun h18 => ?_)
  refine gz Z Z Z Z Z <| gz Z Z Z Z Z <| L_pur Z (p_pick_t Z Z) <| nq <| C_true Z <| sr <| ag Z Z <| nq <| J_ret <| Q_blk_ret <| Q_then_ret <| J_return (()) Tryz.results280 (.tmp Z .nil) ?_ ?_
  · first | rfl | (simp_all [one, kindsC]; done) | (simp_all [one, kindsC] <;> omega)
  · exact SU
  refine gp Z Z Z (p_move Z) Z <| gp Z Z Z (p_gtr Z Z) Z <| L_pur Z (p_pick_f Z Z) <| nq <| C_split Z (fun h21 => ?_) (fun h21 => ?_)
  refine sr <| ag Z Z <| nq <| J_ret <| Q_blk_ret <| Q_then_ret <| J_return (()) Tryz.results280 (.tmp Z .nil) ?_ ?_
  · first | rfl | (simp_all [one, kindsC]; done) | (simp_all [one, kindsC] <;> omega)
  · exact SU
  refine J_skip <| Q_blk_normal <| qx <| ag Z Z <| nq <| J_ret <| J_return (()) Tryz.results280 (.tmp Z .nil) ?_ ?_
  · first | rfl | (simp_all [one, kindsC]; done) | (simp_all [one, kindsC] <;> omega)
  · exact SU
  refine sr <| ag Z Z <| nq <| J_ret <| Q_blk_ret <| Q_then_ret <| J_return (()) Tryz.results280 (.tmp Z .nil) ?_ ?_
  · first | rfl | (simp_all [one, kindsC]; done) | (simp_all [one, kindsC] <;> omega)
  · exact SU
  refine sr <| L_pur Z (p_eql Z Z) <| ag Z Z <| nq <| C_split Z (fun h6 => ?_) (fun h6 => ?_)
  refine J_skip <| Q_then <| C_split Z (fun h6 => ?_) (fun h6 => ?_)
  refine sr <| mv Z Z <| L_pur Z (p_neq Z Z) <| nq <| C_split Z (fun h13 => ?_) (fun h13 => ?_)
  refine sr <| ag Z Z <| nq <| J_ret <| Q_blk_ret <| Q_then_ret <| J_return (()) Tryz.results280 (.tmp Z .nil) ?_ ?_
  · first | rfl | (simp_all [one, kindsC]; done) | (simp_all [one, kindsC] <;> omega)
  · exact SU
  refine J_skip <| Q_blk_normal <| qx <| ag Z Z <| nq <| J_ret <| J_return (()) Tryz.results280 (.tmp Z .nil) ?_ ?_
  · first | rfl | (simp_all [one, kindsC]; done) | (simp_all [one, kindsC] <;> omega)
  · exact SU
  refine sr <| L_pur Z (p_eql Z Z) <| ag Z Z <| nq <| C_split Z (fun h14 => ?_) (fun h14 => ?_)
  refine sr <| mv Z Z <| L_pur Z (p_lss Z Z) <| mv Z Z <| J_gsplit (t := 18) Z (fun h18 => ?_) (fun h18 => ?_)
  refine gz Z Z Z Z Z <| gz Z Z Z Z Z <| L_pur Z (p_pick_t Z Z) <| nq <| C_true Z <| sr <| ag Z Z <| nq <| J_ret <| Q_blk_ret <| Q_then_ret <| J_return (()) Tryz.results280 (.tmp Z .nil) ?_ ?_
  · first | rfl | (simp_all [one, kindsC]; done) | (simp_all [one, kindsC] <;> omega)
  · exact SU
  refine gp Z Z Z (p_move Z) Z <| gp Z Z Z (p_gtr Z Z) Z <| L_pur Z (p_pick_f Z Z) <| nq <| C_split Z (fun h21 => ?_) (fun h21 => ?_)
  refine sr <| ag Z Z <| nq <| J_ret <| Q_blk_ret <| Q_then_ret <| J_return (()) Tryz.results280 (.tmp Z .nil) ?_ ?_
  · first | rfl | (simp_all [one, kindsC]; done) | (simp_all [one, kindsC] <;> omega)
  · exact SU
  refine J_skip <| Q_blk_normal <| qx <| ag Z Z <| nq <| J_ret <| J_return (()) Tryz.results280 (.tmp Z .nil) ?_ ?_
  · first | rfl | (simp_all [one, kindsC]; done) | (simp_all [one, kindsC] <;> omega)
  · exact SU
  refine sr <| ag Z Z <| nq <| J_ret <| Q_blk_ret <| Q_then_ret <| J_return (()) Tryz.results280 (.tmp Z .nil) ?_ ?_
  · first | rfl | (simp_all [one, kindsC]; done) | (simp_all [one, kindsC] <;> omega)
  · exact SU
  refine sr <| L_pur Z (p_eql Z Z) <| ag Z Z <| nq <| C_split Z (fun h6 => ?_) (fun h6 => ?_)
  refine J_skip <| Q_then <| C_split Z (fun h6 => ?_) (fun h6 => ?_)
  refine sr <| mv Z Z <| L_pur Z (p_neq Z Z) <| nq <| C_split Z (fun h13 => ?_) (fun h13 => ?_)
  refine sr <| ag Z Z <| nq <| J_ret <| Q_blk_ret <| Q_then_ret <| J_return (()) Tryz.results280 (.tmp Z .nil) ?_ ?_
  · first | rfl | (simp_all [one, kindsC]; done) | (simp_all [one, kindsC] <;> omega)
  · exact SU
  refine J_skip <| Q_blk_normal <| qx <| ag Z Z <| nq <| J_ret <| J_return (()) Tryz.results280 (.tmp Z .nil) ?_ ?_
  · first | rfl | (simp_all [one, kindsC]; done) | (simp_all [one, kindsC] <;> omega)
  · exact SU
  refine sr <| L_pur Z (p_eql Z Z) <| ag Z Z <| nq <| C_split Z (fun h14 => ?_) (fun h14 => ?_)
  refine sr <| mv Z Z <| L_pur Z (p_lss Z Z) <| mv Z Z <| J_gsplit (t := 18) Z (fun h18 => ?_) (fun h18 => ?_)
  refine gz Z Z Z Z Z <| gz Z Z Z Z Z <| L_pur Z (p_pick_t Z Z) <| nq <| C_true Z <| sr <| ag Z Z <| nq <| J_ret <| Q_blk_ret <| Q_then_ret <| J_return (()) Tryz.results280 (.tmp Z .nil) ?_ ?_
  · first | rfl | (simp_all [one, kindsC]; done) | (simp_all [one, kindsC] <;> omega)
  · exact SU
  refine gp Z Z Z (p_move Z) Z <| gp Z Z Z (p_gtr Z Z) Z <| L_pur Z (p_pick_f Z Z) <| nq <| C_split Z (fun h21 => ?_) (fun h21 => ?_)
  refine sr <| ag Z Z <| nq <| J_ret <| Q_blk_ret <| Q_then_ret <| J_return (()) Tryz.results280 (.tmp Z .nil) ?_ ?_
  · first | rfl | (simp_all [one, kindsC]; done) | (simp_all [one, kindsC] <;> omega)
  · exact SU
  refine J_skip <| Q_blk_normal <| qx <| ag Z Z <| nq <| J_ret <| J_return (()) Tryz.results280 (.tmp Z .nil) ?_ ?_
  · first | rfl | (simp_all [one, kindsC]; done) | (simp_all [one, kindsC] <;> omega)
  · exact SU
  refine sr <| ag Z Z <| nq <| J_ret <| Q_blk_ret <| Q_then_ret <| J_return (()) Tryz.results280 (.tmp Z .nil) ?_ ?_
  · first | rfl | (simp_all [one, kindsC]; done) | (simp_all [one, kindsC] <;> omega)
  · exact SU
  refine J_region <| L_pur Z (p_eql Z Z) <| ag Z Z <| nq <| C_split Z (fun h6 => ?_) (fun h6 => ?_)
  refine sr <| mv Z Z <| L_pur Z (p_neq Z Z) <| nq <| C_split Z (fun h13 => ?_) (fun h13 => ?_)
  refine sr <| ag Z Z <| nq <| J_ret <| Q_blk_ret <| Q_then_ret <| J_return (()) Tryz.results280 (.tmp Z .nil) ?_ ?_
  · first | rfl | (simp_all [one, kindsC]; done) | (simp_all [one, kindsC] <;> omega)
  · exact SU
  refine J_skip <| Q_blk_normal <| qx <| ag Z Z <| nq <| J_ret <| J_return (()) Tryz.results280 (.tmp Z .nil) ?_ ?_
  · first | rfl | (simp_all [one, kindsC]; done) | (simp_all [one, kindsC] <;> omega)
  · exact SU
  refine sr <| L_pur Z (p_eql Z Z) <| ag Z Z <| nq <| C_split Z (fun h14 => ?_) (fun h14 => ?_)
  refine sr <| mv Z Z <| L_pur Z (p_lss Z Z) <| mv Z Z <| J_gsplit (t := 18) Z (fun h18 => ?_) (fun h18 => ?_)
  refine gz Z Z Z Z Z <| gz Z Z Z Z Z <| L_pur Z (p_pick_t Z Z) <| nq <| C_true Z <| sr <| ag Z Z <| nq <| J_ret <| Q_blk_ret <| Q_then_ret <| J_return (()) Tryz.results280 (.tmp Z .nil) ?_ ?_
  · first | rfl | (simp_all [one, kindsC]; done) | (simp_all [one, kindsC] <;> omega)
  · exact SU
  refine gp Z Z Z (p_move Z) Z <| gp Z Z Z (p_gtr Z Z) Z <| L_pur Z (p_pick_f Z Z) <| nq <| C_split Z (fun h21 => ?_) (fun h21 => ?_)
  refine sr <| ag Z Z <| nq <| J_ret <| Q_blk_ret <| Q_then_ret <| J_return (()) Tryz.results280 (.tmp Z .nil) ?_ ?_
  · first | rfl | (simp_all [one, kindsC]; done) | (simp_all [one, kindsC] <;> omega)
  · exact SU
  refine J_skip <| Q_blk_normal <| qx <| ag Z Z <| nq <| J_ret <| J_return (()) Tryz.results280 (.tmp Z .nil) ?_ ?_
  · first | rfl | (simp_all [one, kindsC]; done) | (simp_all [one, kindsC] <;> omega)
  · exact SU
  refine sr <| ag Z Z <| nq <| J_ret <| Q_blk_ret <| Q_then_ret <| J_return (()) Tryz.results280 (.tmp Z .nil) ?_ ?_
  · first | rfl | (simp_all [one, kindsC]; done) | (simp_all [one, kindsC] <;> omega)
  · exact SU
theorem rangeG {c : Cap} :
    Con Tryz.prog 281 #[.agg (encC c).toArray] E l (fun _ : Unit => .agg (encI (rangeC c)).toArray) (fun _ => l) := by
  refine Con.body (n := 12) Tryz.func281 Z Z _ (env_ok 1 Z) <| sr <| L_op <| x_box Z Z Z fun b1 => L_op <| x_alloc ty422 Z fun b2 => nxx <| fa Z Z fa110_0 <| L_val Z (v_load Z ty3 HS (by exact rfl)) <| L_pur Z (p_neq Z Z) <| nq <| C_split Z (fun h5 => ?_) (fun h5 => ?_)
  refine sr <| L_pur Z (bld422 .nil (by repeat constructor)) <| L_op <| x_store Z Z ty422 Z SM SM RO PT <| nq <| J_ret <| Q_then_ret <| J_return (()) Tryz.results281 (.cellA Z ty422 HS CT .nil) ?_ ?_
  · (simp_all [one, rangeC, encI]; done)
  · exact SU
  refine J_skip <| qx <| fa Z Z fa110_1 <| L_val Z (v_load Z ty3 HS (by exact rfl)) <| fa Z Z fa110_2 <| L_val Z (v_load Z ty3 HS (by exact rfl)) <| L_pur Z (bld422 (.cons Z (.cons Z .nil)) (by repeat constructor)) <| L_op <| x_store Z Z ty422 Z SM SM RO PT <| nq <| J_ret <| J_return (()) Tryz.results281 (.cellA Z ty422 HS CT .nil) ?_ ?_
  · (simp_all [one, rangeC, encI]; done)
  · exact SU
theorem withinG {c d : Cap} (hc : (1 ≤ c.obj ∧ c.obj ≤ 64 ∧ 0 ≤ c.size ∧ c.size ≤ 64)) (hd : (1 ≤ d.obj ∧ d.obj ≤ 64 ∧ 0 ≤ d.size ∧ d.size ≤ 64)) :
    Con Tryz.prog 315 #[.agg (encC c).toArray, .agg (encC d).toArray] E l (fun _ : Unit => .bool (withinC c d)) (fun _ => l) := by
  refine Con.body (n := 49) Tryz.func315 Z Z _ (env_ok 2 Z) <| sr <| L_op <| x_box Z Z Z fun b2 => L_op <| x_box Z Z Z fun b3 => ag Z Z <| nx <| fa Z Z fa110_1 <| L_val Z (v_load Z ty3 HS (by exact rfl)) <| ag Z Z <| ag Z Z <| nxx <| fa Z Z fa110_0 <| L_val Z (v_load Z ty3 HS (by exact rfl)) <| L_pur Z (p_eql Z Z) <| nq <| C_split Z (fun h11 => ?_) (fun h11 => ?_)
  refine J_region <| fa Z Z fa110_2 <| L_val Z (v_load Z ty3 HS (by exact rfl)) <| ag Z Z <| nq <| J_seq <| J_seq <| J_slot (t := 6) (v := .int .i64 (sizeC c)) Z (by unfold sizeC; rw [if_pos (by simpa using h11)]) ?_
  have hsz : 0 ≤ sizeC c ∧ sizeC c ≤ 64 := by unfold sizeC; split <;> omega
  refine J_region <| mv Z Z <| fa Z Z fa110_1 <| L_val Z (v_load Z ty3 HS (by exact rfl)) <| fa Z Z fa110_2 <| L_val Z (v_load Z ty3 HS (by exact rfl)) <| L_pur Z (p_add64 Z Z (by omega)) <| L_pur Z (p_geq Z Z) <| mv Z Z <| J_gsplit (t := 21) Z (fun h21 => ?_) (fun h21 => ?_)
  refine gz Z Z Z Z Z <| gz Z Z Z Z Z <| gz Z Z Z Z Z <| gz Z Z Z Z Z <| gz Z Z Z Z Z <| gz Z Z Z Z Z <| L_pur Z (p_pick_t Z Z) <| nq <| C_true Z <| sr <| ag Z Z <| nq <| J_ret <| Q_then_ret <| J_return (()) Tryz.results315 (.tmp Z .nil) ?_ ?_
  · first | (simp_all [one, withinC]; done) | (simp_all [one, withinC] <;> (rw [Bool.eq_iff_iff]; simp; omega))
  · exact SU
  refine gp Z Z Z (p_move Z) Z <| gp Z Z Z (p_move Z) Z <| L_op <| G_on Z Z Z <| J_pur (p_add64 Z Z (by omega)) Z Z Z <| gp Z Z Z (p_fieldAddr Z fa110_1) Z <| L_op <| G_on Z Z Z <| J_val (v_load Z ty3 HS (by exact rfl)) Z Z Z <| gp Z Z Z (p_leq Z Z) Z <| L_pur Z (p_pick_f Z Z) <| nq <| C_split Z (fun h28 => ?_) (fun h28 => ?_)
  refine sr <| ag Z Z <| nq <| J_ret <| Q_then_ret <| J_return (()) Tryz.results315 (.tmp Z .nil) ?_ ?_
  · first | (simp_all [one, withinC]; done) | (simp_all [one, withinC] <;> (rw [Bool.eq_iff_iff]; simp; omega))
  · exact SU
  refine J_skip <| qx <| fa Z Z fa110_0 <| L_val Z (v_load Z ty3 HS (by exact rfl)) <| L_pur Z (p_neq Z Z) <| mv Z Z <| J_gsplit (t := 32) Z (fun h32 => ?_) (fun h32 => ?_)
  refine gz Z Z Z Z Z <| gz Z Z Z Z Z <| gz Z Z Z Z Z <| gz Z Z Z Z Z <| L_pur Z (p_pick_t Z Z) <| mv Z Z <| gz Z Z Z Z Z <| gz Z Z Z Z Z <| gz Z Z Z Z Z <| gz Z Z Z Z Z <| gz Z Z Z Z Z <| gz Z Z Z Z Z <| gz Z Z Z Z Z <| gz Z Z Z Z Z <| gz Z Z Z Z Z <| L_pur Z (p_pick_t Z Z) <| ag Z Z <| nq <| J_ret <| J_return (()) Tryz.results315 (.tmp Z .nil) ?_ ?_
  · first | (simp_all [one, withinC]; done) | (simp_all [one, withinC] <;> (rw [Bool.eq_iff_iff]; simp; omega))
  · exact SU
  refine gp Z Z Z (p_move Z) Z <| gp Z Z Z (p_fieldAddr Z fa110_1) Z <| L_op <| G_on Z Z Z <| J_val (v_load Z ty3 HS (by exact rfl)) Z Z Z <| gp Z Z Z (p_gtr Z Z) Z <| L_pur Z (p_pick_f Z Z) <| mv Z Z <| J_gsplit (t := 38) Z (fun h38 => ?_) (fun h38 => ?_)
  refine gz Z Z Z Z Z <| gz Z Z Z Z Z <| gz Z Z Z Z Z <| gz Z Z Z Z Z <| gz Z Z Z Z Z <| gz Z Z Z Z Z <| gz Z Z Z Z Z <| gz Z Z Z Z Z <| gz Z Z Z Z Z <| L_pur Z (p_pick_t Z Z) <| ag Z Z <| nq <| J_ret <| J_return (()) Tryz.results315 (.tmp Z .nil) ?_ ?_
  · first | (simp_all [one, withinC]; done) | (simp_all [one, withinC] <;> (rw [Bool.eq_iff_iff]; simp; omega))
  · exact SU
  refine gp Z Z Z (p_move Z) Z <| gp Z Z Z (p_move Z) Z <| L_op <| G_on Z Z Z <| J_pur (p_add64 Z Z (by omega)) Z Z Z <| gp Z Z Z (p_fieldAddr Z fa110_1) Z <| L_op <| G_on Z Z Z <| J_val (v_load Z ty3 HS (by exact rfl)) Z Z Z <| gp Z Z Z (p_fieldAddr Z fa110_2) Z <| L_op <| G_on Z Z Z <| J_val (v_load Z ty3 HS (by exact rfl)) Z Z Z <| gp Z Z Z (p_add64 Z Z (by omega)) Z <| gp Z Z Z (p_lss Z Z) Z <| L_pur Z (p_pick_f Z Z) <| ag Z Z <| nq <| J_ret <| J_return (()) Tryz.results315 (.tmp Z .nil) ?_ ?_
  · first | (simp_all [one, withinC]; done) | (simp_all [one, withinC] <;> (rw [Bool.eq_iff_iff]; simp; omega))
  · exact SU
  refine J_skip <| Q_then <| J_seq <| J_seq <| J_slot (t := 6) (v := .int .i64 (sizeC c)) Z (by unfold sizeC; rw [if_neg (by simpa using h11)]) ?_
  have hsz : 0 ≤ sizeC c ∧ sizeC c ≤ 64 := by unfold sizeC; split <;> omega
  refine J_region <| mv Z Z <| fa Z Z fa110_1 <| L_val Z (v_load Z ty3 HS (by exact rfl)) <| fa Z Z fa110_2 <| L_val Z (v_load Z ty3 HS (by exact rfl)) <| L_pur Z (p_add64 Z Z (by omega)) <| L_pur Z (p_geq Z Z) <| mv Z Z <| J_gsplit (t := 21) Z (fun h21 => ?_) (fun h21 => ?_)
  refine gz Z Z Z Z Z <| gz Z Z Z Z Z <| gz Z Z Z Z Z <| gz Z Z Z Z Z <| gz Z Z Z Z Z <| gz Z Z Z Z Z <| L_pur Z (p_pick_t Z Z) <| nq <| C_true Z <| sr <| ag Z Z <| nq <| J_ret <| Q_then_ret <| J_return (()) Tryz.results315 (.tmp Z .nil) ?_ ?_
  · first | (simp_all [one, withinC]; done) | (simp_all [one, withinC] <;> (rw [Bool.eq_iff_iff]; simp; omega))
  · exact SU
  refine gp Z Z Z (p_move Z) Z <| gp Z Z Z (p_move Z) Z <| L_op <| G_on Z Z Z <| J_pur (p_add64 Z Z (by omega)) Z Z Z <| gp Z Z Z (p_fieldAddr Z fa110_1) Z <| L_op <| G_on Z Z Z <| J_val (v_load Z ty3 HS (by exact rfl)) Z Z Z <| gp Z Z Z (p_leq Z Z) Z <| L_pur Z (p_pick_f Z Z) <| nq <| C_split Z (fun h28 => ?_) (fun h28 => ?_)
  refine sr <| ag Z Z <| nq <| J_ret <| Q_then_ret <| J_return (()) Tryz.results315 (.tmp Z .nil) ?_ ?_
  · first | (simp_all [one, withinC]; done) | (simp_all [one, withinC] <;> (rw [Bool.eq_iff_iff]; simp; omega))
  · exact SU
  refine J_skip <| qx <| fa Z Z fa110_0 <| L_val Z (v_load Z ty3 HS (by exact rfl)) <| L_pur Z (p_neq Z Z) <| mv Z Z <| J_gsplit (t := 32) Z (fun h32 => ?_) (fun h32 => ?_)
  refine gz Z Z Z Z Z <| gz Z Z Z Z Z <| gz Z Z Z Z Z <| gz Z Z Z Z Z <| L_pur Z (p_pick_t Z Z) <| mv Z Z <| gz Z Z Z Z Z <| gz Z Z Z Z Z <| gz Z Z Z Z Z <| gz Z Z Z Z Z <| gz Z Z Z Z Z <| gz Z Z Z Z Z <| gz Z Z Z Z Z <| gz Z Z Z Z Z <| gz Z Z Z Z Z <| L_pur Z (p_pick_t Z Z) <| ag Z Z <| nq <| J_ret <| J_return (()) Tryz.results315 (.tmp Z .nil) ?_ ?_
  · first | (simp_all [one, withinC]; done) | (simp_all [one, withinC] <;> (rw [Bool.eq_iff_iff]; simp; omega))
  · exact SU
  refine gp Z Z Z (p_move Z) Z <| gp Z Z Z (p_fieldAddr Z fa110_1) Z <| L_op <| G_on Z Z Z <| J_val (v_load Z ty3 HS (by exact rfl)) Z Z Z <| gp Z Z Z (p_gtr Z Z) Z <| L_pur Z (p_pick_f Z Z) <| mv Z Z <| J_gsplit (t := 38) Z (fun h38 => ?_) (fun h38 => ?_)
  refine gz Z Z Z Z Z <| gz Z Z Z Z Z <| gz Z Z Z Z Z <| gz Z Z Z Z Z <| gz Z Z Z Z Z <| gz Z Z Z Z Z <| gz Z Z Z Z Z <| gz Z Z Z Z Z <| gz Z Z Z Z Z <| L_pur Z (p_pick_t Z Z) <| ag Z Z <| nq <| J_ret <| J_return (()) Tryz.results315 (.tmp Z .nil) ?_ ?_
  · first | (simp_all [one, withinC]; done) | (simp_all [one, withinC] <;> (rw [Bool.eq_iff_iff]; simp; omega))
  · exact SU
  refine gp Z Z Z (p_move Z) Z <| gp Z Z Z (p_move Z) Z <| L_op <| G_on Z Z Z <| J_pur (p_add64 Z Z (by omega)) Z Z Z <| gp Z Z Z (p_fieldAddr Z fa110_1) Z <| L_op <| G_on Z Z Z <| J_val (v_load Z ty3 HS (by exact rfl)) Z Z Z <| gp Z Z Z (p_fieldAddr Z fa110_2) Z <| L_op <| G_on Z Z Z <| J_val (v_load Z ty3 HS (by exact rfl)) Z Z Z <| gp Z Z Z (p_add64 Z Z (by omega)) Z <| gp Z Z Z (p_lss Z Z) Z <| L_pur Z (p_pick_f Z Z) <| ag Z Z <| nq <| J_ret <| J_return (()) Tryz.results315 (.tmp Z .nil) ?_ ?_
  · first | (simp_all [one, withinC]; done) | (simp_all [one, withinC] <;> (rw [Bool.eq_iff_iff]; simp; omega))
  · exact SU
variable {ps : List (Place × SV)}
theorem bareG {b o : Nat} (hp : Pick (slA b o ps) l m) {u : Cap} (hck : CapsOk ps) (hu : (1 ≤ u.obj ∧ u.obj ≤ 64 ∧ 0 ≤ u.size ∧ u.size ≤ 64)) (hz : ps.length ≤ 100000) :
    Con Tryz.prog 282 #[.pointer (some ⟨b, o, none⟩), .agg (encC u).toArray] E l (fun _ : Unit => .bool (bareS ps u)) (fun _ => slA b o ps :: m) := by
  refine Con.body (n := 26) Tryz.func282 Z Z _ (env_ok 2 Z) <| J_pick hp <| J_slKeyd fun hK => sr <| L_op <| x_box Z Z Z fun b3 => ag Z Z <| nxx <| mv Z Z <| xo fc29 (A1 Z) Z (slAllC (ps := ps) PC (by omega)) <| JR fun a10 c10 hw10 hl10 hm10 hz10 => ?_
  obtain ⟨xs, hxs⟩ : ∃ xs, xs = sortP (ps.map Prod.fst) := ⟨_, rfl⟩
  refine J_pick (A := row 108 2 _ _) PC <| J_rowTo (ys := xs.map encI) (v' := .slice a10 (xs.map encI).length c10) (by rw [hxs]) (by rw [hxs]) <| J_slot (t := 10) (v := .slice a10 (xs.map encI).length c10) Z (by rw [hxs]) ?_
  rw [← hxs] at hz10
  have hmc : c10 ≤ 9223372036854775807 := hm10
  have hml : (xs.map encI).length = xs.length := List.length_map _
  have hxl : xs.length ≤ 100000 := by rw [hxs, sortP_len, List.length_map]; exact hz
  have hxm : ∀ a, a ∈ xs ↔ a ∈ ps.map Prod.fst := fun a => by rw [hxs]; unfold sortP; exact sortF_mem
  refine L_pur Z (p_len Z Tryz.underlying57) <| mv Z Z <| nq <| J_block <| J_loop (α := Nat) (fun k => k ≤ xs.length ∧ ∀ c ∈ xs.take k, withinC ((look ps c).getD s0).1 u = false) (fun k => row 108 2 (.slice a10 (xs.map encI).length c10) (xs.map encI) :: blk b3 110 (encC u) :: slA b o ps :: m) (fun k => [(12, .int .i64 (k : Int)), (10, .slice a10 (xs.map encI).length c10), (11, .int .i64 ((xs.map encI).length : Int)), (0, .pointer (some ⟨b, o, none⟩)), (3, .pointer (some ⟨b3, 0, none⟩))]) (fun k => xs.length - k) 0 ⟨by omega, by simp⟩ SU KE ?_
  intro k hk
  obtain ⟨hk, h0⟩ := hk
  refine sr <| L_pur Z (p_lss Z Z) <| nq <| J_seq <| C_dec Z (fun h13 => ?_) (fun h13 => ?_)
  have hlt : k < xs.length := by omega
  obtain ⟨bx, ox, rfl⟩ := hz10 (by intro h; rw [h] at hml; simp at hml; omega)
  obtain ⟨c, hcc⟩ : ∃ c, xs[k]? = some c := ⟨_, List.getElem?_eq_getElem hlt⟩
  obtain ⟨e, he, hec⟩ := List.mem_map.1 ((hxm c).1 (List.mem_of_getElem? hcc))
  obtain ⟨s, hs⟩ : ∃ s, look ps c = some s := by
    cases hq : look ps c with
    | none => exact absurd (List.mem_map.2 ⟨e, he, hec⟩) (look_none_iff.1 hq)
    | some y => exact ⟨y, rfl⟩
  have hsc := checkC_is (hck _ (mem_look hs))
  refine J_skip <| Q_then <| J_seq <| J_block <| sr <| L_pur Z (p_indexAddr Z Z Tryz.underlying57 ty108 (by omega) (by omega)) <| L_val Z (v_loadE Z ty108 HS (by first | (simp only [Int.toNat_natCast, List.getElem?_map, hcc]; rfl) | (simp only [Int.toNat_natCast, List.getElem?_map, hcd]; rfl) | simp | rfl)) ?_
  refine L_op <| x_alloc ty108 Z fun b6 => L_op <| x_store Z Z ty108 Z SM SM RO PT <| J_pick (A := blk b6 _ _) PC <| J_asTo (B := blk b6 108 (encI c)) (by rfl) <| nx <| mv Z Z <| L_val Z (v_loadA Z ty108 HS CT) <| xo fc277 (A2 Z Z) Z (slGetC (ps := ps) (p := c) PC) fun _ => mv Z Z <| L_pur Z (p_extract Z Z) <| L_pur Z (p_extract Z Z) <| L_op <| x_alloc ty110 Z fun b7 => L_op <| x_store Z Z ty110 Z SM SM RO PT <| ag Z Z <| nx <| L_val Z (v_loadA Z ty110 HS CT) <| L_val Z (v_loadA Z ty110 HS CT) <| xo fc315 (A2 Z Z) Z (withinG (c := ((look ps c).getD s0).1) (d := u) (by rw [hs]; dsimp only [Option.getD]; dsimp only at hsc; omega) hu) fun _ => nq <| C_split Z (fun h24 => ?_) (fun h24 => ?_)
  have hba : bareS ps u = false := by
    unfold bareS
    rw [List.all_eq_false]
    exact ⟨(c, s), mem_look hs, by rw [hs] at h24; simpa using h24⟩
  refine sr <| ag Z Z <| nq <| J_ret <| Q_blk_ret <| Q_then_ret <| Q_then_ret <| Q_blk_ret <| Q_then_ret <| J_return (()) Tryz.results282 (.tmp Z .nil) ?_ ?_
  · rw [hba]; rfl
  · exact SU
  refine J_skip <| Q_blk_normal <| qr <| L_pur Z (p_add64 Z Z (by omega)) <| mv Z Z <| nq ?_
  exact J_again (k + 1) (by omega) (⟨by omega, fun e he => by
      rw [List.take_add_one, hcc] at he
      rcases List.mem_append.1 he with h | h
      · exact h0 e h
      · rw [List.mem_singleton.1 h]; exact h24⟩) SU KE
  have hba : bareS ps u = true := by
    unfold bareS
    rw [List.all_eq_true]
    intro e he
    have h1 := h0 e.1 (by rw [show k = xs.length by omega, List.take_length]; exact (hxm e.1).2 (List.mem_map.2 ⟨e, he, rfl⟩))
    rw [look_mem hK (show (e.1, e.2) ∈ ps from he)] at h1
    simpa using h1
  refine J_exit <| Q_then_exit <| Q_then_exit <| Q_blk_this <| qx <| ag Z Z <| nq <| J_ret <| J_return (()) Tryz.results282 (.tmp Z .nil) ?_ ?_
  · rw [hba]; rfl
  · exact SU
variable {kind : Int}
theorem makeG {b o b2 o2 : Nat} {mr : List (Place × Int)} (hp : Picks [slA b o ps, mkA b2 o2 mr] l m) {p q : Place} {size : Int} (hck : CapsOk ps) (hmk : MarksOk mr) (hz : ps.length ≤ 100000) :
    Con Tryz.prog 219 #[.pointer (some ⟨b, o, none⟩), .pointer (some ⟨b2, o2, none⟩), .agg (encI p).toArray, .agg (encI q).toArray, .int .i64 kind, .int .i64 size] E l (fun _ : Unit => .tuple #[.agg (encC (makeS ps mr p q kind size).2.1).toArray, .int .i64 (makeS ps mr p q kind size).2.2]) (fun _ => slA b o (makeS ps mr p q kind size).1.1 :: mkA b2 o2 (makeS ps mr p q kind size).1.2 :: m) := by
  refine Con.body (n := 101) Tryz.func219 Z Z _ (env_ok 6 Z) <| J_picks2 hp <| sr <| L_op <| x_box Z Z Z fun b8 => L_op <| x_box Z Z Z fun b9 => L_op <| x_alloc ty110 Z fun b12 => ag Z Z <| nx <| mv Z Z <| L_val Z (v_loadA Z ty108 HS CT) <| xo fc277 (A2 Z Z) Z (slGetC (ps := ps) (p := p) PC) fun _ => mv Z Z <| L_pur Z (p_extract Z Z) <| L_pur Z (p_extract Z Z) <| L_op <| x_alloc ty110 Z fun b14 => L_op <| x_store Z Z ty110 Z SM SM RO PT <| ag Z Z <| nq <| J_seq <| J_block <| sr <| mv Z Z <| L_pur Z (p_not Z) <| ag Z Z <| nq <| C_split Z (fun h28 => ?_) (fun h28 => ?_)
  have hno : look ps p = none := by
    cases hq : look ps p with
    | none => rfl
    | some y => rw [hq] at h28; simp at h28
  have hms : (makeS ps mr p q kind size) = ((ps, mr), c0, 4) := by unfold makeS; rw [hno]
  refine sr <| L_pur Z (bld110 .nil (by repeat constructor)) <| L_op <| x_store Z Z ty110 Z SM SM RO PT <| ag Z Z <| nq <| J_ret <| Q_blk_ret <| Q_then_ret <| J_pick (A := slA b o _) PC <| J_asTo (B := slA b o (makeS ps mr p q kind size).1.1) (by rw [hms]) <| J_pick (A := mkA b2 o2 _) PC <| J_asTo (B := mkA b2 o2 (makeS ps mr p q kind size).1.2) (by rw [hms]) <| J_return (()) Tryz.results219 (.cellA Z ty110 HS CT (.tmp Z .nil)) ?_ ?_
  · rw [hms]; rfl
  · exact SU
  obtain ⟨u, hu⟩ : ∃ x, look ps p = some x := by
    cases hq : look ps p with
    | none => rw [hq] at h28; simp at h28
    | some y => exact ⟨y, rfl⟩
  have hcu := hck _ (mem_look hu)
  have hcb := checkC_is hcu
  dsimp only at hcu hcb
  refine J_pick (A := blk b14 _ _) PC <| J_asTo (B := blk b14 110 (encC u.1)) (by rw [hu]; rfl) <| sr <| fa Z Z fa110_0 <| L_val Z (v_load Z ty3 HS (by exact rfl)) <| L_pur Z (p_neq Z Z) <| ag Z Z <| nq <| C_split Z (fun h32 => ?_) (fun h32 => ?_)
  have hms : (makeS ps mr p q kind size) = ((ps, mr), c0, 5) := by unfold makeS; rw [hu]; exact if_pos (by simpa using h32)
  refine sr <| L_pur Z (bld110 .nil (by repeat constructor)) <| L_op <| x_store Z Z ty110 Z SM SM RO PT <| ag Z Z <| nq <| J_ret <| Q_blk_ret <| Q_then_ret <| J_pick (A := slA b o _) PC <| J_asTo (B := slA b o (makeS ps mr p q kind size).1.1) (by rw [hms]) <| J_pick (A := mkA b2 o2 _) PC <| J_asTo (B := mkA b2 o2 (makeS ps mr p q kind size).1.2) (by rw [hms]) <| J_return (()) Tryz.results219 (.cellA Z ty110 HS CT (.tmp Z .nil)) ?_ ?_
  · rw [hms]; rfl
  · exact SU
  have hk1 : ¬ u.1.kind ≠ 1 := by simpa using h32
  refine sr <| fa Z Z fa108_0 <| L_val Z (v_load Z ty3 HS (by exact rfl)) <| L_pur Z (p_lss Z Z) <| mv Z Z <| J_gsplit (t := 41) Z (fun h41 => ?_) (fun h41 => ?_)
  refine gz Z Z Z Z Z <| gz Z Z Z Z Z <| gz Z Z Z Z Z <| L_pur Z (p_pick_t Z Z) <| mv Z Z <| gz Z Z Z Z Z <| gz Z Z Z Z Z <| gz Z Z Z Z Z <| L_pur Z (p_pick_t Z Z) <| mv Z Z <| gz Z Z Z Z Z <| gz Z Z Z Z Z <| gz Z Z Z Z Z <| L_pur Z (p_pick_t Z Z) <| ag Z Z <| nq <| C_true Z <| J_seq ?_
  have hcp : canP q = false := by first | (simp_all [canP]; done) | (simp_all [canP] <;> omega)
  have hms : (makeS ps mr p q kind size) = ((ps, mr), c0, 7) := by unfold makeS; rw [hu]; dsimp only; rw [if_neg hk1]; exact if_pos hcp
  refine J_region <| L_pur Z (bld110 .nil (by repeat constructor)) <| L_op <| x_store Z Z ty110 Z SM SM RO PT <| ag Z Z <| nq <| J_ret <| Q_blk_ret <| Q_then_ret <| J_pick (A := slA b o _) PC <| J_asTo (B := slA b o (makeS ps mr p q kind size).1.1) (by rw [hms]) <| J_pick (A := mkA b2 o2 _) PC <| J_asTo (B := mkA b2 o2 (makeS ps mr p q kind size).1.2) (by rw [hms]) <| J_return (()) Tryz.results219 (.cellA Z ty110 HS CT (.tmp Z .nil)) ?_ ?_
  · rw [hms]; rfl
  · exact SU
  refine gp Z Z Z (p_fieldAddr Z fa108_0) Z <| L_op <| G_on Z Z Z <| J_val (v_load Z ty3 HS (by exact rfl)) Z Z Z <| gp Z Z Z (p_gtr Z Z) Z <| L_pur Z (p_pick_f Z Z) <| mv Z Z <| J_gsplit (t := 46) Z (fun h46 => ?_) (fun h46 => ?_)
  refine gz Z Z Z Z Z <| gz Z Z Z Z Z <| gz Z Z Z Z Z <| L_pur Z (p_pick_t Z Z) <| mv Z Z <| gz Z Z Z Z Z <| gz Z Z Z Z Z <| gz Z Z Z Z Z <| L_pur Z (p_pick_t Z Z) <| ag Z Z <| nq <| C_true Z <| J_seq ?_
  have hcp : canP q = false := by first | (simp_all [canP]; done) | (simp_all [canP] <;> omega)
  have hms : (makeS ps mr p q kind size) = ((ps, mr), c0, 7) := by unfold makeS; rw [hu]; dsimp only; rw [if_neg hk1]; exact if_pos hcp
  refine J_region <| L_pur Z (bld110 .nil (by repeat constructor)) <| L_op <| x_store Z Z ty110 Z SM SM RO PT <| ag Z Z <| nq <| J_ret <| Q_blk_ret <| Q_then_ret <| J_pick (A := slA b o _) PC <| J_asTo (B := slA b o (makeS ps mr p q kind size).1.1) (by rw [hms]) <| J_pick (A := mkA b2 o2 _) PC <| J_asTo (B := mkA b2 o2 (makeS ps mr p q kind size).1.2) (by rw [hms]) <| J_return (()) Tryz.results219 (.cellA Z ty110 HS CT (.tmp Z .nil)) ?_ ?_
  · rw [hms]; rfl
  · exact SU
  refine gp Z Z Z (p_fieldAddr Z fa108_1) Z <| L_op <| G_on Z Z Z <| J_val (v_load Z ty3 HS (by exact rfl)) Z Z Z <| gp Z Z Z (p_lss Z Z) Z <| L_pur Z (p_pick_f Z Z) <| mv Z Z <| J_gsplit (t := 51) Z (fun h51 => ?_) (fun h51 => ?_)
  refine gz Z Z Z Z Z <| gz Z Z Z Z Z <| gz Z Z Z Z Z <| L_pur Z (p_pick_t Z Z) <| ag Z Z <| nq <| C_true Z <| J_seq ?_
  have hcp : canP q = false := by first | (simp_all [canP]; done) | (simp_all [canP] <;> omega)
  have hms : (makeS ps mr p q kind size) = ((ps, mr), c0, 7) := by unfold makeS; rw [hu]; dsimp only; rw [if_neg hk1]; exact if_pos hcp
  refine J_region <| L_pur Z (bld110 .nil (by repeat constructor)) <| L_op <| x_store Z Z ty110 Z SM SM RO PT <| ag Z Z <| nq <| J_ret <| Q_blk_ret <| Q_then_ret <| J_pick (A := slA b o _) PC <| J_asTo (B := slA b o (makeS ps mr p q kind size).1.1) (by rw [hms]) <| J_pick (A := mkA b2 o2 _) PC <| J_asTo (B := mkA b2 o2 (makeS ps mr p q kind size).1.2) (by rw [hms]) <| J_return (()) Tryz.results219 (.cellA Z ty110 HS CT (.tmp Z .nil)) ?_ ?_
  · rw [hms]; rfl
  · exact SU
  refine gp Z Z Z (p_fieldAddr Z fa108_1) Z <| L_op <| G_on Z Z Z <| J_val (v_load Z ty3 HS (by exact rfl)) Z Z Z <| gp Z Z Z (p_geq Z Z) Z <| L_pur Z (p_pick_f Z Z) <| ag Z Z <| nq <| C_split Z (fun h37 => ?_) (fun h37 => ?_)
  refine J_seq ?_
  have hcp : canP q = false := by first | (simp_all [canP]; done) | (simp_all [canP] <;> omega)
  have hms : (makeS ps mr p q kind size) = ((ps, mr), c0, 7) := by unfold makeS; rw [hu]; dsimp only; rw [if_neg hk1]; exact if_pos hcp
  refine J_region <| L_pur Z (bld110 .nil (by repeat constructor)) <| L_op <| x_store Z Z ty110 Z SM SM RO PT <| ag Z Z <| nq <| J_ret <| Q_blk_ret <| Q_then_ret <| J_pick (A := slA b o _) PC <| J_asTo (B := slA b o (makeS ps mr p q kind size).1.1) (by rw [hms]) <| J_pick (A := mkA b2 o2 _) PC <| J_asTo (B := mkA b2 o2 (makeS ps mr p q kind size).1.2) (by rw [hms]) <| J_return (()) Tryz.results219 (.cellA Z ty110 HS CT (.tmp Z .nil)) ?_ ?_
  · rw [hms]; rfl
  · exact SU
  refine J_skip <| Q_blk_normal <| Q_then <| J_seq <| J_seq ?_
  have hcp : ¬ canP q = false := by
    have : canP q = true := by first | (simp_all [canP]; done) | (simp_all [canP] <;> omega)
    rw [this]; decide
  refine J_region <| mv Z Z <| L_val Z (v_loadA Z ty108 HS CT) <| xo fc277 (A2 Z Z) Z (slGetC (ps := ps) (p := q) PC) fun _ => mv Z Z <| L_pur Z (p_extract Z Z) <| L_pur Z (p_extract Z Z) <| L_op <| x_alloc ty110 Z fun b16 => L_op <| x_store Z Z ty110 Z SM SM RO PT <| ag Z Z <| nx <| mv Z Z <| nq <| C_split Z (fun h63 => ?_) (fun h63 => ?_)
  have hms : (makeS ps mr p q kind size) = ((ps, mr), c0, 3) := by unfold makeS; rw [hu]; dsimp only; rw [if_neg hk1, if_neg hcp]; exact if_pos h63
  refine sr <| L_pur Z (bld110 .nil (by repeat constructor)) <| L_op <| x_store Z Z ty110 Z SM SM RO PT <| ag Z Z <| nq <| J_ret <| Q_then_ret <| J_pick (A := slA b o _) PC <| J_asTo (B := slA b o (makeS ps mr p q kind size).1.1) (by rw [hms]) <| J_pick (A := mkA b2 o2 _) PC <| J_asTo (B := mkA b2 o2 (makeS ps mr p q kind size).1.2) (by rw [hms]) <| J_return (()) Tryz.results219 (.cellA Z ty110 HS CT (.tmp Z .nil)) ?_ ?_
  · rw [hms]; rfl
  · exact SU
  have hq0 : ¬ (look ps q).isSome = true := by rw [h63]; decide
  refine J_skip <| Q_then <| J_seq <| sr <| mv Z Z <| mv Z Z <| xo fc280 (A2 Z Z) Z (kindsG (k := kind) (z := size)) fun _ => ag Z Z <| nx <| mv Z Z <| L_pur Z (p_neq Z Z) <| nq <| C_split Z (fun h69 => ?_) (fun h69 => ?_)
  have hms : (makeS ps mr p q kind size) = ((ps, mr), c0, kindsC kind size) := by unfold makeS; rw [hu]; dsimp only; rw [if_neg hk1, if_neg hcp, if_neg hq0]; exact if_pos (by simpa using h69)
  refine sr <| L_pur Z (bld110 .nil (by repeat constructor)) <| mv Z Z <| L_op <| x_store Z Z ty110 Z SM SM RO PT <| ag Z Z <| nq <| J_ret <| Q_then_ret <| J_pick (A := slA b o _) PC <| J_asTo (B := slA b o (makeS ps mr p q kind size).1.1) (by rw [hms]) <| J_pick (A := mkA b2 o2 _) PC <| J_asTo (B := mkA b2 o2 (makeS ps mr p q kind size).1.2) (by rw [hms]) <| J_return (()) Tryz.results219 (.cellA Z ty110 HS CT (.tmp Z .nil)) ?_ ?_
  · rw [hms]; rfl
  · exact SU
  have hkd : ¬ kindsC kind size ≠ 0 := by simpa using h69
  refine J_skip <| qx <| L_val Z (v_loadA Z ty110 HS CT) <| xo fc281 (A1 Z) Z (rangeG (c := u.1)) fun _ => L_op <| x_alloc ty422 Z fun b19 => L_op <| x_store Z Z ty422 Z SM SM RO PT ?_
  have hrc : rangeC u.1 = (u.1.obj, u.1.size) := if_neg hk1
  refine J_pick (A := blk b19 _ _) PC <| J_asTo (B := blk b19 422 (encI (rangeC u.1))) (by rfl) <| nxx <| mv Z Z <| L_val Z (v_loadA Z ty110 HS CT) <| xo fc282 (A2 Z Z) Z (bareG (ps := ps) (u := u.1) PC hck (by omega) hz) fun _ => nq <| C_split Z (fun h76 => ?_) (fun h76 => ?_)
  refine J_region <| mv Z Z <| L_val Z (v_loadA Z ty422 HS CT) <| xo fc283 (A2 Z Z) Z (mkReset (mr := mr) (r := rangeC u.1) PC) fun _ => nq <| J_seq <| J_pick (A := mkA b2 o2 _) PC <| J_asTo (B := mkA b2 o2 (resetM ps mr u.1)) (by unfold resetM; rw [if_pos h76]) <| J_region <| mv Z Z <| L_val Z (v_loadA Z ty422 HS CT) <| mv Z Z <| L_pur Z (p_max Z Z) <| J_slot (t := 84) (v := .int .i64 (max size 1)) Z (by congr 1; first | rfl | (simp; omega) | (split <;> omega)) <| xo fc284 (A3 Z Z Z) Z (mkTake (mr := (resetM ps mr u.1)) (r := rangeC u.1) (n := max size 1) PC (hmk.reset ps u.1) (by rw [hrc]; dsimp only; omega)) fun _ => mv Z Z <| L_pur Z (p_extract Z Z) <| L_pur Z (p_extract Z Z) <| ag Z Z <| ag Z Z <| nxx <| mv Z Z <| L_pur Z (p_not Z) <| nq <| C_split Z (fun h89 => ?_) (fun h89 => ?_)
  have hto : ¬ mtkOk (resetM ps mr u.1) (rangeC u.1) (max size 1) = true := by simpa using h89
  have hms : (makeS ps mr p q kind size) = ((ps, (resetM ps mr u.1)), c0, 8) := by unfold makeS; rw [hu]; dsimp only; rw [if_neg hk1, if_neg hcp, if_neg hq0, if_neg hkd]; exact if_neg hto
  refine J_pick (A := mkA b2 o2 _) PC <| J_asTo (B := mkA b2 o2 (resetM ps mr u.1)) (by unfold mtkM; rw [if_neg hto]) <| sr <| L_pur Z (bld110 .nil (by repeat constructor)) <| L_op <| x_store Z Z ty110 Z SM SM RO PT <| ag Z Z <| nq <| J_ret <| Q_then_ret <| J_pick (A := slA b o _) PC <| J_asTo (B := slA b o (makeS ps mr p q kind size).1.1) (by rw [hms]) <| J_pick (A := mkA b2 o2 _) PC <| J_asTo (B := mkA b2 o2 (makeS ps mr p q kind size).1.2) (by rw [hms]) <| J_return (()) Tryz.results219 (.cellA Z ty110 HS CT (.tmp Z .nil)) ?_ ?_
  · rw [hms]; rfl
  · exact SU
  have hto : mtkOk (resetM ps mr u.1) (rangeC u.1) (max size 1) = true := by simpa using h89
  have hms : (makeS ps mr p q kind size) = ((slPut ps q (madeC (resetM ps mr u.1) u.1 kind size) p, mtkM (resetM ps mr u.1) (rangeC u.1) (max size 1)), madeC (resetM ps mr u.1) u.1 kind size, 0) := by unfold makeS; rw [hu]; dsimp only; rw [if_neg hk1, if_neg hcp, if_neg hq0, if_neg hkd]; exact if_pos hto
  refine J_skip <| qx <| mv Z Z <| mv Z Z <| mv Z Z <| L_pur Z (bld110 (.cons Z (.cons Z (.cons Z (.cons Z .nil)))) (by repeat constructor)) <| L_op <| x_alloc ty110 Z fun b21 => L_op <| x_store Z Z ty110 Z SM SM RO PT <| J_pick (A := blk b21 _ _) PC <| J_asTo (B := blk b21 110 (encC (madeC (resetM ps mr u.1) u.1 kind size))) (by rfl) <| nx <| mv Z Z <| L_val Z (v_loadA Z ty108 HS CT) <| L_val Z (v_loadA Z ty110 HS CT) <| L_val Z (v_loadA Z ty108 HS CT) <| xo fc58 (A4 Z Z Z Z) Z (slPutC (ps := ps) (p := q) (c := madeC (resetM ps mr u.1) u.1 kind size) (q := p) PC) fun _ => nx <| L_val Z (v_loadA Z ty110 HS CT) <| L_op <| x_store Z Z ty110 Z SM SM RO PT <| ag Z Z <| nq <| J_ret <| J_pick (A := slA b o _) PC <| J_asTo (B := slA b o (makeS ps mr p q kind size).1.1) (by rw [hms]) <| J_pick (A := mkA b2 o2 _) PC ?_
  refine J_asTo (B := mkA b2 o2 (makeS ps mr p q kind size).1.2) (by rw [hms]) <| J_return (()) Tryz.results219 (.cellA Z ty110 HS CT (.tmp Z .nil)) ?_ ?_
  · rw [hms]; rfl
  · exact SU
  refine J_skip <| Q_then <| J_seq <| J_pick (A := mkA b2 o2 _) PC <| J_asTo (B := mkA b2 o2 (resetM ps mr u.1)) (by unfold resetM; rw [if_neg (by rw [h76]; decide)]) <| J_region <| mv Z Z <| L_val Z (v_loadA Z ty422 HS CT) <| mv Z Z <| L_pur Z (p_max Z Z) <| J_slot (t := 84) (v := .int .i64 (max size 1)) Z (by congr 1; first | rfl | (simp; omega) | (split <;> omega)) <| xo fc284 (A3 Z Z Z) Z (mkTake (mr := (resetM ps mr u.1)) (r := rangeC u.1) (n := max size 1) PC (hmk.reset ps u.1) (by rw [hrc]; dsimp only; omega)) fun _ => mv Z Z <| L_pur Z (p_extract Z Z) <| L_pur Z (p_extract Z Z) <| ag Z Z <| ag Z Z <| nxx <| mv Z Z <| L_pur Z (p_not Z) <| nq <| C_split Z (fun h89 => ?_) (fun h89 => ?_)
  have hto : ¬ mtkOk (resetM ps mr u.1) (rangeC u.1) (max size 1) = true := by simpa using h89
  have hms : (makeS ps mr p q kind size) = ((ps, (resetM ps mr u.1)), c0, 8) := by unfold makeS; rw [hu]; dsimp only; rw [if_neg hk1, if_neg hcp, if_neg hq0, if_neg hkd]; exact if_neg hto
  refine J_pick (A := mkA b2 o2 _) PC <| J_asTo (B := mkA b2 o2 (resetM ps mr u.1)) (by unfold mtkM; rw [if_neg hto]) <| sr <| L_pur Z (bld110 .nil (by repeat constructor)) <| L_op <| x_store Z Z ty110 Z SM SM RO PT <| ag Z Z <| nq <| J_ret <| Q_then_ret <| J_pick (A := slA b o _) PC <| J_asTo (B := slA b o (makeS ps mr p q kind size).1.1) (by rw [hms]) <| J_pick (A := mkA b2 o2 _) PC <| J_asTo (B := mkA b2 o2 (makeS ps mr p q kind size).1.2) (by rw [hms]) <| J_return (()) Tryz.results219 (.cellA Z ty110 HS CT (.tmp Z .nil)) ?_ ?_
  · rw [hms]; rfl
  · exact SU
  have hto : mtkOk (resetM ps mr u.1) (rangeC u.1) (max size 1) = true := by simpa using h89
  have hms : (makeS ps mr p q kind size) = ((slPut ps q (madeC (resetM ps mr u.1) u.1 kind size) p, mtkM (resetM ps mr u.1) (rangeC u.1) (max size 1)), madeC (resetM ps mr u.1) u.1 kind size, 0) := by unfold makeS; rw [hu]; dsimp only; rw [if_neg hk1, if_neg hcp, if_neg hq0, if_neg hkd]; exact if_pos hto
  refine J_skip <| qx <| mv Z Z <| mv Z Z <| mv Z Z <| L_pur Z (bld110 (.cons Z (.cons Z (.cons Z (.cons Z .nil)))) (by repeat constructor)) <| L_op <| x_alloc ty110 Z fun b21 => L_op <| x_store Z Z ty110 Z SM SM RO PT <| J_pick (A := blk b21 _ _) PC <| J_asTo (B := blk b21 110 (encC (madeC (resetM ps mr u.1) u.1 kind size))) (by rfl) <| nx <| mv Z Z <| L_val Z (v_loadA Z ty108 HS CT) <| L_val Z (v_loadA Z ty110 HS CT) <| L_val Z (v_loadA Z ty108 HS CT) <| xo fc58 (A4 Z Z Z Z) Z (slPutC (ps := ps) (p := q) (c := madeC (resetM ps mr u.1) u.1 kind size) (q := p) PC) fun _ => nx <| L_val Z (v_loadA Z ty110 HS CT) <| L_op <| x_store Z Z ty110 Z SM SM RO PT <| ag Z Z <| nq <| J_ret <| J_pick (A := slA b o _) PC <| J_asTo (B := slA b o (makeS ps mr p q kind size).1.1) (by rw [hms]) <| J_pick (A := mkA b2 o2 _) PC ?_
  refine J_asTo (B := mkA b2 o2 (makeS ps mr p q kind size).1.2) (by rw [hms]) <| J_return (()) Tryz.results219 (.cellA Z ty110 HS CT (.tmp Z .nil)) ?_ ?_
  · rw [hms]; rfl
  · exact SU
/-! ### an object is laid in; plain -/
variable {u : Int}
theorem ptrs_ins {α : Type} {xs : List (Int × Nat × α)} {b : Nat} {a : α} : ins (ptrs xs) u b = ptrs (ins xs u (b, a)) := by
  unfold Go.Pse.ins
  rw [look_ptrs]
  cases look xs u with
  | none => simp [ptrs]
  | some y =>
    simp only [Option.map_some, Option.isSome_some, if_true]
    unfold ptrs
    rw [List.map_map, List.map_map]
    refine List.map_congr_left fun x _ => ?_
    simp only [Function.comp]
    split <;> rfl
variable {n : Nat} {F : Env} {K : Act → World → Prop}
theorem J_eachIns {α : Type} {f : Int × Nat × α → As} {xs : List (Int × Nat × α)} {x : Nat × α} (hK : Keyd (ptrs xs)) (k : Jk E (each f (ins xs u x) :: l) n F K) : Jk E (f (u, x) :: each f xs :: l) n F K := by
 have hK' : Keyd xs := by
  unfold Keyd at hK ⊢
  rw [show (ptrs xs).map Prod.fst = xs.map Prod.fst by unfold ptrs; rw [List.map_map]; rfl] at hK
  exact hK
 cases hl : look xs u with
 | none =>
  refine J_eachPush ?_
  rw [show ins xs u x = xs ++ [(u, x)] by unfold Go.Pse.ins; rw [hl]; rfl] at k
  exact k
 | some y =>
  obtain ⟨i, hi⟩ := look_ix hl
  rw [ins_at hK' hi rfl] at k
  refine J_pick (A := each f xs) (.there .here) <| J_eachOut hi <| J_sub (l' := f (u, x) :: each f (xs.eraseIdx i) :: l) (Sub.cons (.there (.there .here)) (Sub.cons (.there .here) (Sub.drop .refl))) ?_
  exact J_eachIn (u, x) (List.getElem?_eq_some_iff.1 hi).1 k
def zeroM (ms : List (List Int)) (u : Int) : List (List Int) := ms.set (u - 1).toNat zrow
def kMade (s : KS) (c : Cap) (b : Nat) : KS :=
  if c.kind = 4 then { s with ep := ins s.ep c.obj (b, [], []) } else if c.kind = 5 then { s with nt := ins s.nt c.obj (b, 0, []) } else if c.kind = 7 then { s with rp := ins s.rp c.obj (b, (0, 0), false) } else if c.kind = 3 then { s with mem := zeroM s.mem c.obj } else s
def sendE (x : Msg) (a : List Msg × List Rcv) : List Msg × List Rcv := match a.2 with
  | [] => (a.1 ++ [x], [])
  | _ :: r => (a.1, r)
def recvE (y : Rcv) (a : List Msg × List Rcv) : List Msg × List Rcv := match a.1 with
  | [] => ([], a.2 ++ [y])
  | _ :: r => (r, a.2)
def r0 : Rcv := ((0, 0), 0)
def kWaits (s : KS) (k u : Int) : List ID :=
  if k = 4 then (match look s.ep u with
    | none => []
    | some x => x.2.1.map Prod.fst ++ x.2.2.map Prod.fst)
  else if k = 5 then (match look s.nt u with
    | none => []
    | some x => x.2.2)
  else if k = 7 then (match look s.rp u with
    | none => []
    | some x => if x.2.2 = true then [x.2.1] else [])
  else []
theorem zeroC {b : Nat} {ms : List (List Int)} (hp : Pick (memA b ms) l m) (hM : MemOk ms) (hu1 : 1 ≤ u ∧ u ≤ 64) :
    Con Tryz.prog 106 #[.pointer (some ⟨b, 0, none⟩), .int .i64 u] E l (fun _ : Unit => .bool true) (fun _ => memA b (zeroM ms u) :: m) := by
  refine Con.body (n := 15) Tryz.func106 Z Z _ (env_ok 2 Z) ?_
  obtain ⟨hu, hrl, hrB⟩ := hM.at hu1
  have hms := hM.len
  obtain ⟨r, hr⟩ : ∃ r, r = rowAt ms u := ⟨_, rfl⟩
  rw [← hr] at hu hrl hrB
  refine J_pick hp <| J_memO fun v xs hxs => ?_
  have hxl : xs.length = 64 := by rw [← hms, ← show xs.map Prod.snd = ms from hxs, List.length_map]
  obtain ⟨vr, hx⟩ := snd_at hxs hu
  have hxu := (List.getElem?_eq_some_iff.1 hx).1
  refine J_pick (A := each memF xs) PC <| J_eachOut hx <| J_asTo (B := row 5 1 vr (r.map encU)) (by rfl) <| J_row .here fun hwr ar cr hvr hr1 hr2 hr3 => ?_
  have hlr : (r.map encU).length = 512 := by rw [List.length_map]; exact hrl
  obtain ⟨br, orr, rfl⟩ := hr3 (by intro h; rw [h] at hlr; simp at hlr)
  subst hvr
  have hcr : cr ≤ 9223372036854775807 := hr2
  refine sr <| ag Z Z <| nq <| J_seq <| J_slot (t := 1) (v := .int .i64 ((((u - 1).toNat : Nat) : Int) + 1)) Z (by congr 1; omega) <| J_region <| mv Z Z <| mv Z Z <| xo fc85 (A4 Z Z Z Z) Z (partC (u := (u - 1).toNat) (off := 0) (n := 512) (len := (r.map encU).length) HS HS hx (by omega) (by omega) (by omega)) fun _ => mv Z Z <| L_pur Z (p_extract Z Z) <| L_pur Z (p_extract Z Z) <| ag Z Z <| ag Z Z <| nx <| mv Z Z <| L_op <| x_clear (k0 := 0) (len := (r.map encU).length) Z Tryz.underlying73 ty5 Z Z PC (by simp; omega) <| J_rowEq (ys := zrow.map encU) (by rw [List.take_zero, List.nil_append, List.drop_eq_nil_of_le (by omega), List.append_nil]; rfl) <| nx <| mv Z Z <| ag Z Z <| nq <| J_ret <| J_pick (A := row 5 1 (.slice (some ⟨br, orr, none⟩) (r.map encU).length cr) _) PC ?_
  refine J_asTo (B := memF (.slice (some ⟨br, orr, none⟩) (r.map encU).length cr, zrow)) (by rfl) <| J_pick (A := each memF _) PC <| J_pick (A := memF _) PC <| J_eachIn (.slice (some ⟨br, orr, none⟩) (r.map encU).length cr, zrow) hxu ?_
  skip
  refine J_pick (A := row 73 1 v _) PC <| J_rowEq (ys := (xs.set (u - 1).toNat (.slice (some ⟨br, orr, none⟩) (r.map encU).length cr, zrow)).map fun x : Value × List Int => [x.1]) (fst_set hx).symm <| J_memS (b := b) (ms := (zeroM ms u)) v (xs.set (u - 1).toNat (.slice (some ⟨br, orr, none⟩) (r.map encU).length cr, zrow)) PX (by show List.map Prod.snd _ = _; rw [List.map_set, show xs.map Prod.snd = ms from hxs]; rfl) <| J_return (()) Tryz.results106 (.tmp Z .nil) ?_ ?_
  · rfl
  · exact SU
variable {p : Nat} {s : KS}
theorem coMake (hp : Pick (coA p s) l m) {c : Cap} (hc : 1 ≤ c.obj ∧ c.obj ≤ 64) (hM : MemOk s.mem) :
    Con Tryz.prog 59 #[.pointer (some ⟨p, 0, none⟩), .agg (encC c).toArray] E l (fun b : Nat => .tuple #[]) (fun b => coA p (kMade s c b) :: m) := by
  refine Con.body (n := 45) Tryz.func59 Z Z _ (env_ok 2 Z) <| J_pick hp <| J_coO fun bn be br bg bt bs bp bl bk _ => J_keyd (ps := ptrs s.ep) HS fun hKep => J_keyd (ps := ptrs s.nt) HS fun hKnt => J_keyd (ps := ptrs s.rp) HS fun hKrp => sr <| L_op <| x_box Z Z Z fun b3 => nx <| fa Z Z fa110_0 <| L_val Z (v_load Z ty3 HS (by exact rfl)) <| nq <| J_block <| sr <| L_pur Z (p_eql Z Z) <| ag Z Z <| nq <| C_dec Z (fun h6 => ?_) (fun h6 => ?_)
  refine J_drawL (some 8) mixed <| ip 0 Z Z Z Z (p_move Z) <| ip 1 Z Z Z Z (p_nilCheck Z) <| ip 2 Z Z Z Z (p_fieldAddr Z fa153_10) <| iv 3 Z Z Z Z (fun _ => v_loadL (o := 13) (i := 1) Z ty145 HS Z (by exact rfl)) <| ip 4 Z Z Z Z (p_fieldAddr Z fa110_1) <| iv 5 Z Z Z Z (fun _ => v_load Z ty3 HS (by exact rfl)) <| ip 6 Z Z Z Z (bld222 .nil (by repeat constructor)) <| i1 7 Z <| x_box Z Z Z fun b15 => i1 8 Z <| x_mapUpdate (ek := kZ) (ev := evA) (a := c.obj) (c := b15) Z Z Z ky3 Tryz.underlying145 PC <| J_pick (A := mapV kZ evA (.map (some be)) _) PC <| J_mapEq (qs := ptrs (ins s.ep c.obj (b15, [], []))) ptrs_ins <| J_pick (A := blk b15 _ _) PC <| J_asTo (B := blk b15 222 [.slice none 0 0, .slice none 0 0]) (by rfl) <| J_epNew <| J_asTo (B := epF (c.obj, b15, [], [])) (by rfl) <| J_pick (A := each epF s.ep) PC <| J_pick (A := epF (c.obj, b15, [], [])) PC ?_
  refine J_eachIns hKep <| i0 <| Q_blk_normal <| J_endnormal <| J_coS (p := p) (s := { s with ep := ins s.ep c.obj (b15, [], []) }) bn be br bg bt bs bp bl bk PX trivial <| J_asTo (B := coA p (kMade s c b15)) (by unfold kMade; rw [if_pos h6]) <| J_return (b15) Tryz.results59 .nil ?_ ?_
  · rfl
  · exact SU
  refine sr <| L_pur Z (p_eql Z Z) <| ag Z Z <| nq <| C_dec Z (fun h16 => ?_) (fun h16 => ?_)
  refine J_drawL (some 8) mixed <| ip 0 Z Z Z Z (p_move Z) <| ip 1 Z Z Z Z (p_nilCheck Z) <| ip 2 Z Z Z Z (p_fieldAddr Z fa153_9) <| iv 3 Z Z Z Z (fun _ => v_loadL (o := 13) (i := 0) Z ty144 HS Z (by exact rfl)) <| ip 4 Z Z Z Z (p_fieldAddr Z fa110_1) <| iv 5 Z Z Z Z (fun _ => v_load Z ty3 HS (by exact rfl)) <| ip 6 Z Z Z Z (bld229 .nil (by repeat constructor)) <| i1 7 Z <| x_box Z Z Z fun b25 => i1 8 Z <| x_mapUpdate (ek := kZ) (ev := evA) (a := c.obj) (c := b25) Z Z Z ky3 Tryz.underlying144 PC <| J_pick (A := mapV kZ evA (.map (some bn)) _) PC <| J_mapEq (qs := ptrs (ins s.nt c.obj (b25, 0, []))) ptrs_ins <| J_pick (A := blk b25 _ _) PC <| J_asTo (B := blk b25 229 [.int .u32 0, .slice none 0 0, .map none]) (by rfl) <| J_ntNew <| J_asTo (B := ntF (c.obj, b25, 0, [])) (by rfl) <| J_pick (A := each ntF s.nt) PC <| J_pick (A := ntF (c.obj, b25, 0, [])) PC ?_
  refine J_eachIns hKnt <| i0 <| Q_blk_normal <| J_endnormal <| J_coS (p := p) (s := { s with nt := ins s.nt c.obj (b25, 0, []) }) bn be br bg bt bs bp bl bk PX trivial <| J_asTo (B := coA p (kMade s c b25)) (by unfold kMade; rw [if_neg h6, if_pos h16]) <| J_return (b25) Tryz.results59 .nil ?_ ?_
  · rfl
  · exact SU
  refine sr <| L_pur Z (p_eql Z Z) <| ag Z Z <| nq <| C_dec Z (fun h26 => ?_) (fun h26 => ?_)
  refine J_drawL (some 8) mixed <| ip 0 Z Z Z Z (p_move Z) <| ip 1 Z Z Z Z (p_nilCheck Z) <| ip 2 Z Z Z Z (p_fieldAddr Z fa153_11) <| iv 3 Z Z Z Z (fun _ => v_loadL (o := 13) (i := 2) Z ty146 HS Z (by exact rfl)) <| ip 4 Z Z Z Z (p_fieldAddr Z fa110_1) <| iv 5 Z Z Z Z (fun _ => v_load Z ty3 HS (by exact rfl)) <| ip 6 Z Z Z Z (bld243 .nil (by repeat constructor)) <| i1 7 Z <| x_box Z Z Z fun b35 => i1 8 Z <| x_mapUpdate (ek := kZ) (ev := evA) (a := c.obj) (c := b35) Z Z Z ky3 Tryz.underlying146 PC <| J_pick (A := mapV kZ evA (.map (some br)) _) PC <| J_mapEq (qs := ptrs (ins s.rp c.obj (b35, (0, 0), false))) ptrs_ins <| J_pick (A := blk b35 _ _) PC <| J_asTo (B := rpF (c.obj, b35, (0, 0), false)) (by rfl) <| J_pick (A := each rpF s.rp) PC <| J_pick (A := rpF (c.obj, b35, (0, 0), false)) PC ?_
  refine J_eachIns hKrp <| i0 <| Q_blk_normal <| J_endnormal <| J_coS (p := p) (s := { s with rp := ins s.rp c.obj (b35, (0, 0), false) }) bn be br bg bt bs bp bl bk PX trivial <| J_asTo (B := coA p (kMade s c b35)) (by unfold kMade; rw [if_neg h6, if_neg h16, if_pos h26]) <| J_return (b35) Tryz.results59 .nil ?_ ?_
  · rfl
  · exact SU
  refine sr <| L_pur Z (p_eql Z Z) <| ag Z Z <| nq <| C_dec Z (fun h36 => ?_) (fun h36 => ?_)
  refine J_drawT 6 mixed (by kernel_rfl) <| sm Z Z <| sp Z (p_nilCheck Z) <| sp Z (p_fieldAddr Z fa153_1) <| S_val Z (v_loadL (o := 0) (i := 5) Z ty75 HS Z (by exact rfl)) <| sp Z (p_fieldAddr Z fa110_1) <| S_val Z (v_load Z ty3 HS (by exact rfl)) <| S_nil <| xo fc106 (A2 Z Z) Z (zeroC (ms := s.mem) (u := c.obj) PC hM hc) fun _ => L_nil <| Q_blk_normal <| J_endnormal <| J_coS (p := p) (s := { s with mem := zeroM s.mem c.obj }) bn be br bg bt bs bp bl bk PX trivial <| J_asTo (B := coA p (kMade s c 0)) (by unfold kMade; rw [if_neg h6, if_neg h16, if_neg h26, if_pos h36]) <| J_return (0) Tryz.results59 .nil ?_ ?_
  · rfl
  · exact SU
  refine J_skip <| Q_blk_normal <| J_endnormal <| J_coS (p := p) (s := s) bn be br bg bt bs bp bl bk PX trivial <| J_asTo (B := coA p (kMade s c 0)) (by unfold kMade; rw [if_neg h6, if_neg h16, if_neg h26, if_neg h36]) <| J_return (0) Tryz.results59 .nil ?_ ?_
  · rfl
  · exact SU
theorem delete286 {v : Value} {c : List Value} {xs : List (List Value)} (hp : Pick (row 246 3 v (c :: xs)) l m) :
  Con Tryz.prog 286 #[v, .int .i64 0, .int .i64 1] E l (fun v' : Value => v') (fun v' => row 246 3 v' xs :: m) := by
 refine Con.body (n := 33) Tryz.func286 Z Z _ (env_ok 3 Z) <| J_pick hp <| J_row .here fun hw a cap hv h1 h2 h3 => ?_
 obtain ⟨b, o, rfl⟩ := h3 (by simp)
 subst hv
 have hl : (c :: xs).length = xs.length + 1 := rfl
 have hm : cap ≤ 9223372036854775807 := h2
 refine sr <| ag Z Z <| nx <| mv Z Z <| mv Z Z <| mv Z Z <| mv Z Z <| L_pur Z (p_len Z Tryz.underlying114) <| L_pur Z (p_slice3 Z Tryz.underlying114 ty246 Z Z Z (by omega) (by omega) (by omega) (by omega)) <| nxx <| mv Z Z <| mv Z Z <| L_pur Z (p_eql Z Z) <| nq <| J_bool (t := 16) (c := false) Z (by decide) <| C_false Z <| J_skip <| qx <| mv Z Z <| L_pur Z (p_len Z Tryz.underlying114) <| ag Z Z <| nq <| J_seq <| J_drawT 6 mixed (by kernel_rfl) <| sm Z Z <| sm Z Z <| sp Z (p_slice Z Tryz.underlying114 ty246 Z Z (by omega) (by omega) (by omega)) <| J_slot (t := 22) (v := .slice (some ⟨b, o, none⟩) 0 cap) Z (by simp [Addr.add]) <| sm Z Z <| sm Z Z <| sp Z (p_slice Z Tryz.underlying114 ty246 Z Z (by omega) (by omega) (by omega)) <| S_nil ?_
 refine L_op <| x_appIn (ys := xs) (len := (c :: xs).length) Z Z Tryz.underlying114 ty246 PC (fun w H => (sep_reads HS H).drop (lo := 1) (by omega)) (by omega) Z <| ag Z Z <| nx <| mv Z Z <| mv Z Z <| L_pur Z (p_len Z Tryz.underlying114) <| mv Z Z <| L_pur Z (p_slice Z Tryz.underlying114 ty246 Z Z (by omega) (by omega) (by omega)) <| L_op <| x_clear (len := (c :: xs).length) Z Tryz.underlying114 ty246 Z Z PC (by simp) <| J_take (k := 0 + xs.length) (by simp) <| J_rowEq (ys := xs) (by simp) <| nx <| mv Z Z <| ag Z Z <| nq <| J_ret ?_
 exact J_return (_) Tryz.results286 (.tmp Z .nil) Z SU
theorem epSendG {b : Nat} {out : List Msg} {inn : List Rcv} (hp : Pick (epA b out inn) l m) (hbo : out.length ≤ 100000) (hbi : inn.length ≤ 100000) {x : Msg} :
    Con Tryz.prog 225 #[.pointer (some ⟨b, 0, none⟩), .agg (encM x).toArray] E l (fun _ : Unit => .tuple #[.agg (encR (inn.headD r0)).toArray, .bool (!inn.isEmpty)]) (fun _ => epA b (sendE x (out, inn)).1 (sendE x (out, inn)).2 :: m) := by
  rcases inn with _ | ⟨y, r⟩
  ·
    refine Con.body (n := 39) Tryz.func225 Z Z _ (env_ok 2 Z) <| J_pick hp <| J_epO fun vo vi _ => J_row (.there .here) fun hw a cap hv h1 h2 h3 => ?_
    subst hv
    refine J_row (.there (.there .here)) fun hw' a' cap' hv h1' h2' h3' => ?_
    subst hv
    have hmm : cap ≤ 9223372036854775807 := h2
    have hmm' : cap' ≤ 9223372036854775807 := h2'
    refine sr <| L_op <| x_box Z Z Z fun b3 => L_op <| x_alloc ty246 Z fun b4 => ag Z Z <| nxx <| mv Z Z <| nc Z Z <| fa Z Z fa222_1 <| L_val Z (v_load Z ty114 HS (by exact rfl)) <| L_pur Z (p_len Z Tryz.underlying114) <| L_pur Z (p_eql Z Z) <| nq <| J_bool (t := 12) (c := true) Z (by simp) <| C_true Z <| J_seq <| J_drawL (some 7) mixed <| ip 0 Z Z Z Z (p_move Z) <| ip 1 Z Z Z Z (p_move Z) <| ip 2 Z Z Z Z (p_nilCheck Z) <| ip 3 Z Z Z Z (p_fieldAddr Z fa222_0) <| iv 4 Z Z Z Z (fun _ => v_load Z ty220 HS (by exact rfl)) <| iv 5 Z Z Z Z (fun _ => v_loadA Z ty374 HS CT) ?_
    refine i1 6 Z <| x_lit (vals := [_]) Tryz.underlying220 ty374 Z (.cons Z .nil) (.agg .nil) (Wf.cons Z Z Wf.nil) Z (by decide) Z Z <| JR fun a19 c19 hw19 hl19 hm19 hz19 => i1 7 Z <| x_app Z Z Tryz.underlying220 ty374 Z Z PC (fun w H => sep_reads HS H) (by simp; omega) (by simp; omega) Z <| JE ((out ++ [x]).map encM) (by simp) fun a20 c20 hw20 hl20 hm20 hz20 => ip 8 Z Z Z Z (p_nilCheck Z) <| ip 9 Z Z Z Z (p_fieldAddr Z fa222_0) <| i1 10 Z <| x_store Z Z ty220 Z SM SM RO PT <| i0 <| qx <| L_pur Z (bld246 .nil (by repeat constructor)) <| L_op <| x_store Z Z ty246 Z SM SM RO PT <| ag Z Z <| nq <| J_ret <| Q_then_ret <| J_epS (b := b) (out := (out ++ [x])) (inn := []) _ _ PX trivial <| J_return (()) Tryz.results225 (.cellA Z ty246 HS CT (.tmp Z .nil)) ?_ ?_
    · rfl
    · exact SU
  ·
    refine Con.body (n := 39) Tryz.func225 Z Z _ (env_ok 2 Z) <| J_pick hp <| J_epO fun vo vi _ => J_row (.there .here) fun hw a cap hv h1 h2 h3 => ?_
    subst hv
    refine J_row (.there (.there .here)) fun hw' a' cap' hv h1' h2' h3' => ?_
    subst hv
    have hmm : cap ≤ 9223372036854775807 := h2
    have hmm' : cap' ≤ 9223372036854775807 := h2'
    obtain ⟨bq, oq, rfl⟩ := h3' (by simp)
    refine sr <| L_op <| x_box Z Z Z fun b3 => L_op <| x_alloc ty246 Z fun b4 => ag Z Z <| nxx <| mv Z Z <| nc Z Z <| fa Z Z fa222_1 <| L_val Z (v_load Z ty114 HS (by exact rfl)) <| L_pur Z (p_len Z Tryz.underlying114) <| L_pur Z (p_eql Z Z) <| nq <| J_bool (t := 12) (c := false) Z (by simp; omega) <| C_false Z <| J_skip <| qx <| mv Z Z <| nc Z Z <| fa Z Z fa222_1 <| L_val Z (v_load Z ty114 HS (by exact rfl)) <| L_pur Z (p_indexAddr Z Z Tryz.underlying114 ty246 (by simp) (by simp)) <| L_val Z (v_loadE Z ty246 HS (by rfl)) <| L_op <| x_alloc ty246 Z fun b6 => L_op <| x_store Z Z ty246 Z SM SM RO PT <| nq <| J_seq <| J_pick (A := row 246 3 _ _) PC <| J_rowEq (ys := encR y :: r.map encR) (by rfl) <| J_region <| mv Z Z <| mv Z Z <| nc Z Z <| fa Z Z fa222_1 <| L_val Z (v_load Z ty114 HS (by exact rfl)) ?_
    refine xo fc286 (A3 Z Z Z) Z (delete286 (c := encR y) (xs := r.map encR) PC) <| JR fun a35 c35 hw35 hl35 hm35 hz35 => nc Z Z <| fa Z Z fa222_1 <| L_op <| x_store Z Z ty114 Z SM SM RO PT <| nx <| L_val Z (v_loadA Z ty246 HS CT) <| L_op <| x_store Z Z ty246 Z SM SM RO PT <| ag Z Z <| nq <| J_ret <| J_epS (b := b) (out := out) (inn := r) _ _ PX trivial <| J_return (()) Tryz.results225 (.cellA Z ty246 HS CT (.tmp Z .nil)) ?_ ?_
    · rfl
    · exact SU
theorem rpTakeC {b : Nat} {c : ID × Bool} (hp : Pick (rpA b c) l m) :
    Con Tryz.prog 228 #[.pointer (some ⟨b, 0, none⟩)] E l (fun _ : Unit => .tuple #[.agg (encI c.1).toArray, .bool c.2]) (fun _ => rpA b ((0, 0), false) :: m) := by
  refine Con.body (n := 16) Tryz.func228 Z Z _ (env_ok 1 Z) <| J_pick hp <| sr <| L_op <| x_alloc ty36 Z fun b2 => ag Z Z <| nx <| mv Z Z <| xo fc289 (A1 Z) Z (rpCaller (c := c) PC) fun _ => mv Z Z <| L_pur Z (p_extract Z Z) <| L_pur Z (p_extract Z Z) <| L_op <| x_alloc ty36 Z fun b4 => L_op <| x_store Z Z ty36 Z SM SM RO PT <| J_pick (A := blk b4 _ _) PC <| J_asTo (B := blk b4 36 (encI c.1)) (by rfl) <| ag Z Z <| nq <| J_seq <| J_pick (A := rpA b c) PC <| J_asTo (B := blk b 243 [.int .i64 c.1.1, .int .i64 c.1.2, .bool c.2]) (by rfl) <| J_region <| mv Z Z <| L_pur Z (bld243 .nil (by repeat constructor)) <| nc Z Z <| L_op <| x_store Z Z ty243 Z SM SM RO PT <| nx <| L_val Z (v_loadA Z ty36 HS CT) <| mv Z Z <| L_op <| x_store Z Z ty36 Z SM SM RO PT <| ag Z Z <| nq <| J_ret <| J_pick (A := blk b _ _) PC <| J_asTo (B := rpA b ((0, 0), false)) (by rfl) ?_
  refine J_return (()) Tryz.results228 (.cellA Z ty36 HS CT (.tmp Z .nil)) ?_ ?_
  · rfl
  · exact SU
theorem coEpSendG (hp : Pick (coA p s) l m) {b : Nat} {out : List Msg} {inn : List Rcv} (hl : look s.ep u = some (b, out, inn)) (hbo : out.length ≤ 100000) (hbi : inn.length ≤ 100000) {z : Msg} :
  Con Tryz.prog 225 #[.pointer (some ⟨b, 0, none⟩), .agg (encM z).toArray] E l (fun _ : Unit => .tuple #[.agg (encR (inn.headD r0)).toArray, .bool (!inn.isEmpty)]) (fun _ => coA p { s with ep := updO s.ep u (sendE z) } :: m) := by
 refine J_con0 ?_
 obtain ⟨j, hj⟩ := look_ix hl
 have hjl := (List.getElem?_eq_some_iff.1 hj).1
 refine J_pick hp <| J_coO fun bn be br bg bt bs bp bl bk _ => J_keyd (ps := ptrs s.ep) HS fun hK => J_pick (A := each epF s.ep) PC <| J_eachOut hj ?_
 skip
 refine J_asTo (B := epA b out inn) (by rfl) <| J_con (epSendG (out := out) (inn := inn) (x := z) PC hbo hbi) fun x => J_pick (A := epA b (sendE z (out, inn)).1 (sendE z (out, inn)).2) PC <| J_asTo (B := epF (u, b, ((sendE z)) (out, inn))) (by rfl) <| J_pick (A := each epF _) PC <| J_pick (A := epF (u, b, _)) PC <| J_eachIn (u, b, ((sendE z)) (out, inn)) hjl ?_
 skip
 refine J_asTo (B := each epF (updO s.ep u (sendE z))) (by rw [updO_set hK hj]) <| J_pick (A := mapV kZ evA (.map (some be)) (ptrs s.ep)) PC <| J_mapEq (qs := ptrs (updO s.ep u (sendE z))) ptrs_updO.symm <| J_coS (p := p) (s := { s with ep := updO s.ep u (sendE z) }) bn be br bg bt bs bp bl bk PX trivial ?_
 exact J_end SU
theorem coRpTake (hp : Pick (coA p s) l m) {b : Nat} {c : ID × Bool} (hl : look s.rp u = some (b, c)) :
  Con Tryz.prog 228 #[.pointer (some ⟨b, 0, none⟩)] E l (fun _ : Unit => .tuple #[.agg (encI c.1).toArray, .bool c.2]) (fun _ => coA p { s with rp := updO s.rp u (fun _ => ((0, 0), false)) } :: m) := by
 refine J_con0 ?_
 obtain ⟨j, hj⟩ := look_ix hl
 have hjl := (List.getElem?_eq_some_iff.1 hj).1
 refine J_pick hp <| J_coO fun bn be br bg bt bs bp bl bk _ => J_keyd (ps := ptrs s.rp) HS fun hK => J_pick (A := each rpF s.rp) PC <| J_eachOut hj ?_
 skip
 refine J_asTo (B := rpA b c) (by rfl) <| J_con (rpTakeC (c := c) PC) fun x => J_pick (A := rpA b ((0, 0), false)) PC <| J_asTo (B := rpF (u, b, ((fun _ => ((0, 0), false))) (c))) (by rfl) <| J_pick (A := each rpF _) PC <| J_pick (A := rpF (u, b, _)) PC <| J_eachIn (u, b, ((fun _ => ((0, 0), false))) (c)) hjl ?_
 skip
 refine J_asTo (B := each rpF (updO s.rp u (fun _ => ((0, 0), false)))) (by rw [updO_set hK hj]) <| J_pick (A := mapV kZ evA (.map (some br)) (ptrs s.rp)) PC <| J_mapEq (qs := ptrs (updO s.rp u (fun _ => ((0, 0), false)))) ptrs_updO.symm <| J_coS (p := p) (s := { s with rp := updO s.rp u (fun _ => ((0, 0), false)) }) bn be br bg bt bs bp bl bk PX trivial ?_
 exact J_end SU
theorem coWaitsNo (hp : Pick (coA p s) l m) (h4 : k = 4 → look s.ep u = none) (h5 : k = 5 → look s.nt u = none) (h7 : k = 7 → look s.rp u = none) :
  Con Tryz.prog 323 #[.pointer (some ⟨p, 0, none⟩), .agg (encI (k, u)).toArray] E l (fun v : Value => v) (fun v => row 36 2 v (([] : List ID).map encI) :: coA p s :: m) := by
 refine Con.body (n := 80) Tryz.func323 Z Z _ (env_ok 2 Z) <| J_pick hp <| sr <| L_op <| x_box Z Z Z fun b3 => ag Z Z <| nx <| ag Z Z <| J_nil (el := 36) (sz := 2) <| nxx <| fa Z Z fa449_0 <| L_val Z (v_load Z ty3 HS (by exact rfl)) <| nq <| J_block <| sr <| L_pur Z (p_eql Z Z) <| ag Z Z <| nq <| C_dec Z (fun h17 => ?_) (fun h17 => ?_)
 refine sr <| mv Z Z <| fa Z Z fa449_1 <| L_val Z (v_load Z ty3 HS (by exact rfl)) <| xo fc60 (A2 Z Z) Z (coEp (s := s) (u := u) PC) fun _ => J_slot (t := 22) (v := .pointer none) Z (by rw [look_ptrs, h4 h17]; rfl) <| ag Z Z <| nx <| mv Z Z <| L_pur Z (p_neNilPtr Tryz.underlying112 Z) <| nq <| J_bool (t := 24) (c := false) Z (rfl) <| C_false Z <| J_skip <| Q_blk_normal <| qx <| mv Z Z <| ag Z Z <| nq <| J_ret <| J_pick (A := row 36 2 _ _) PC <| J_rowEq (ys := ([] : List ID).map encI) (by rfl) ?_
 exact J_return (_) Tryz.results323 (.tmp Z .nil) Z SU
 refine sr <| L_pur Z (p_eql Z Z) <| ag Z Z <| nq <| C_dec Z (fun h51 => ?_) (fun h51 => ?_)
 refine sr <| mv Z Z <| fa Z Z fa449_1 <| L_val Z (v_load Z ty3 HS (by exact rfl)) <| xo fc170 (A2 Z Z) Z (coNotif (s := s) (u := u) PC) fun _ => J_slot (t := 56) (v := .pointer none) Z (by rw [look_ptrs, h5 h51]; rfl) <| ag Z Z <| nx <| mv Z Z <| L_pur Z (p_neNilPtr Tryz.underlying223 Z) <| nq <| J_bool (t := 58) (c := false) Z (rfl) <| C_false Z <| J_skip <| Q_blk_normal <| qx <| mv Z Z <| ag Z Z <| nq <| J_ret <| J_pick (A := row 36 2 _ _) PC <| J_rowEq (ys := ([] : List ID).map encI) (by rfl) ?_
 exact J_return (_) Tryz.results323 (.tmp Z .nil) Z SU
 refine sr <| L_pur Z (p_eql Z Z) <| ag Z Z <| nq <| C_dec Z (fun h61 => ?_) (fun h61 => ?_)
 refine sr <| mv Z Z <| fa Z Z fa449_1 <| L_val Z (v_load Z ty3 HS (by exact rfl)) <| xo fc172 (A2 Z Z) Z (coReply (s := s) (u := u) PC) fun _ => J_slot (t := 66) (v := .pointer none) Z (by rw [look_ptrs, h7 h61]; rfl) <| ag Z Z <| nx <| mv Z Z <| L_pur Z (p_neNilPtr Tryz.underlying241 Z) <| nq <| J_bool (t := 68) (c := false) Z (rfl) <| C_false Z <| J_skip <| Q_blk_normal <| qx <| mv Z Z <| ag Z Z <| nq <| J_ret <| J_pick (A := row 36 2 _ _) PC <| J_rowEq (ys := ([] : List ID).map encI) (by rfl) ?_
 exact J_return (_) Tryz.results323 (.tmp Z .nil) Z SU
 refine J_skip <| Q_blk_normal <| qx <| mv Z Z <| ag Z Z <| nq <| J_ret <| J_pick (A := row 36 2 _ _) PC <| J_rowEq (ys := ([] : List ID).map encI) (by rfl) ?_
 exact J_return (_) Tryz.results323 (.tmp Z .nil) Z SU
theorem kWaits_ep {b : Nat} {o : List Msg} {i : List Rcv} (h : look s.ep u = some (b, o, i)) : kWaits s 4 u = o.map Prod.fst ++ i.map Prod.fst := by unfold kWaits; rw [if_pos rfl, h]
theorem kWaits_nt {b : Nat} {w : Int} {xs : List ID} (h : look s.nt u = some (b, w, xs)) : kWaits s 5 u = xs := by unfold kWaits; rw [if_neg (by decide), if_pos rfl, h]
theorem kWaits_rp {b : Nat} {c : ID × Bool} (h : look s.rp u = some (b, c)) : kWaits s 7 u = if c.2 = true then [c.1] else [] := by unfold kWaits; rw [if_neg (by decide), if_neg (by decide), if_pos rfl, h]
theorem kWaits_no (h4 : k = 4 → look s.ep u = none) (h5 : k = 5 → look s.nt u = none) (h7 : k = 7 → look s.rp u = none) : kWaits s k u = [] := by
  unfold kWaits
  split
  · rename_i h; rw [h4 h]
  · split
    · rename_i h; rw [h5 h]
    · split
      · rename_i h; rw [h7 h]
      · rfl
variable {N M : Nat}
theorem coWaits (hp : Pick (coA p s) l m) (hF : Fits s N M) : Con Tryz.prog 323 #[.pointer (some ⟨p, 0, none⟩), .agg (encI (k, u)).toArray] E l (fun v : Value => v) (fun v => row 36 2 v ((kWaits s k u).map encI) :: coA p s :: m) := by
  have hN := hF.n
  by_cases h4 : k = 4
  · subst h4
    cases hl : look s.ep u with
    | none => rw [kWaits_no (fun _ => hl) (fun h => by cases h) (fun h => by cases h)]; exact coWaitsNo hp (fun _ => hl) (fun h => by cases h) (fun h => by cases h)
    | some x =>
      obtain ⟨b, o, i⟩ := x
      have h := hF.ep _ (mem_look hl)
      rw [kWaits_ep hl]
      exact coWaitsEp hp hl (by have := h.2.1; dsimp only at this; omega) (by have := h.2.2; dsimp only at this; omega)
  by_cases h5 : k = 5
  · subst h5
    cases hl : look s.nt u with
    | none => rw [kWaits_no (fun h => by cases h) (fun _ => hl) (fun h => by cases h)]; exact coWaitsNo hp (fun h => by cases h) (fun _ => hl) (fun h => by cases h)
    | some x =>
      obtain ⟨b, w, xs⟩ := x
      have h := hF.nt _ (mem_look hl)
      rw [kWaits_nt hl]
      exact coWaitsNt hp hl (by have := h.2; dsimp only at this; omega)
  by_cases h7 : k = 7
  · subst h7
    cases hl : look s.rp u with
    | none => rw [kWaits_no (fun h => by cases h) (fun h => by cases h) (fun _ => hl)]; exact coWaitsNo hp (fun h => by cases h) (fun h => by cases h) (fun _ => hl)
    | some x =>
      obtain ⟨b, c⟩ := x
      rw [kWaits_rp hl]
      exact coWaitsRp hp hl
  · rw [kWaits_no (fun h => absurd h h4) (fun h => absurd h h5) (fun h => absurd h h7)]
    exact coWaitsNo hp (fun h => absurd h h4) (fun h => absurd h h5) (fun h => absurd h h7)
/-! ### plain: a ring is torn down, whatever it has -/
theorem look_delO {κ υ : Type} [DecidableEq κ] {ps : List (κ × υ)} {a i : κ} (h : a ≠ i) : look (del ps i) a = look ps a := by
  rw [look_del, if_neg (fun e => h e.symm)]
theorem Fits.tearOn {N M : Nat} : ∀ {l : List Rq} {s : KS}, Fits s N M → (l.map Rq.id).Nodup → (∀ q ∈ l, look s.rt q.id = some q) → Fits (kTearL s l) N M
  | [], _, h, _, _ => h
  | q :: l, s, h, hn, hm => by
    obtain ⟨M, rfl⟩ : ∃ M', M = M' + 1 := ⟨M - 1, by
      have h1 := del_less (hm q List.mem_cons_self)
      have h2 := h.jn
      omega⟩
    rw [List.map_cons, List.nodup_cons] at hn
    refine Fits.tearOn (l := l) (s := kTear1 s q) (((h.drop (hm q List.mem_cons_self)).forget q.id).jnl h.mm (deedG q)) hn.2 fun x hx => ?_
    show look (del s.rt q.id) x.id = some x
    rw [look_delO (fun e => hn.1 (List.mem_map.2 ⟨x, hx, e⟩))]
    exact hm x (List.mem_cons_of_mem _ hx)
theorem ofQ_ids {ps : List (ID × Rq)} (hK : Keyd ps) (hI : Ids ps) (g : Int) : ((ofQ ps g).map Rq.id).Nodup ∧ ∀ q ∈ ofQ ps g, look ps q.id = some q := by
  constructor
  · have h1 : (ofQ ps g).Perm (ofRing ps g) := sortF_isPerm _
    refine (h1.map Rq.id).nodup_iff.2 ?_
    unfold ofRing
    rw [List.map_map]
    have h2 : (ps.filter fun e => decide (e.1.1 = g)).map (Rq.id ∘ Prod.snd) = (ps.filter fun e => decide (e.1.1 = g)).map Prod.fst := List.map_congr_left fun e he => hI e (List.mem_filter.1 he).1
    rw [h2]
    exact List.Nodup.sublist (List.Sublist.map _ List.filter_sublist) hK
  · intro q hq
    obtain ⟨k, h1, h2⟩ := ofQ_mem.1 hq
    rw [hI _ h1]
    exact look_mem hK h1
theorem rem_mem {α : Type} {xs : List (Int × α)} {x : Int × α} (h : x ∈ rem xs u) : x ∈ xs := (List.mem_filter.1 h).1
theorem Fits.gone (h : Fits s N M) (k u : Int) : Fits (kGone s k u) N M := by
  unfold kGone
  split
  · exact ⟨h.n, h.mm, h.ids, h.jn, h.tm, fun x hx => h.ep x (rem_mem hx), h.nt, h.rp, h.rg, h.mem⟩
  · split
    · exact ⟨h.n, h.mm, h.ids, h.jn, h.tm, h.ep, fun x hx => h.nt x (rem_mem hx), h.rp, h.rg, h.mem⟩
    · split
      · exact ⟨h.n, h.mm, h.ids, h.jn, h.tm, h.ep, h.nt, fun x hx => h.rp x (rem_mem hx), h.rg, h.mem⟩
      · split
        · exact ⟨h.n, h.mm, h.ids, h.jn, h.tm, h.ep, h.nt, h.rp, h.rg, h.mem⟩
        · split
          · exact ⟨h.n, h.mm, h.ids, h.jn, h.tm, h.ep, h.nt, h.rp, h.rg, h.mem⟩
          · split
            · exact ⟨h.n, h.mm, h.ids, h.jn, h.tm, h.ep, h.nt, h.rp, h.rg, h.mem⟩
            · split
              · exact ⟨h.n, h.mm, h.ids, h.jn, h.tm, h.ep, h.nt, h.rp, fun x hx => h.rg x (rem_mem hx), h.mem⟩
              · exact h
theorem Fits.cleared (h : Fits s N M) (g : Int) : Fits (kCleared s g) N M :=
  ⟨h.n, h.mm, h.ids, h.jn, h.tm, h.ep, h.nt, h.rp, fun x hx => by
    obtain ⟨y, hy, h1, h2⟩ := updO_mem (show x ∈ updO s.rg g (fun r => { r with over := [] }) from hx)
    obtain ⟨g1, g2⟩ := h.rg y hy
    rcases h2 with h2 | h2 <;> rw [h2]
    · exact ⟨g1, g2⟩
    · exact ⟨⟨g1.sq, g1.cq, g1.cb, g1.tail, g1.sb, g1.head⟩, by have := h.jn; show 0 + s.rt.length ≤ M; omega⟩, h.mem⟩
theorem Fits.tear (hK : Keyd s.rt) (h : Fits s N M) (g : Int) : Fits (kTear s g) N M := by
  unfold kTear
  split
  · have hq := ofQ_ids hK h.ids g
    exact ((h.tearOn hq.1 hq.2).cleared g).gone 9 g
  · exact h
theorem kTearL_same : ∀ {l : List Rq} {s : KS}, (kTearL s l).q = s.q ∧ (kTearL s l).mp = s.mp ∧ (kTearL s l).sl = s.sl ∧ (kTearL s l).mr = s.mr
  | [], _ => ⟨rfl, rfl, rfl, rfl⟩
  | q :: l, s => kTearL_same (l := l) (s := kTear1 s q)
theorem kTearL_rt : ∀ {l : List Rq} {s : KS}, (kTearL s l).rt.Sublist s.rt
  | [], _ => List.Sublist.refl _
  | q :: l, s => (kTearL_rt (l := l) (s := kTear1 s q)).trans (List.filter_sublist (l := s.rt))
variable {g : Int}
theorem kTear_same : (kTear s g).q = s.q ∧ (kTear s g).mp = s.mp ∧ (kTear s g).sl = s.sl ∧ (kTear s g).mr = s.mr := by
  unfold kTear
  split
  · have h := kTearL_same (l := ofQ s.rt g) (s := s)
    exact h
  · exact ⟨rfl, rfl, rfl, rfl⟩
theorem kTear_rt : (kTear s g).rt.Sublist s.rt := by
  unfold kTear
  split
  · exact kTearL_rt
  · exact List.Sublist.refl _
theorem Keyd.sub {κ υ : Type} {ps qs : List (κ × υ)} (h : Keyd ps) (hs : qs.Sublist ps) : Keyd qs := List.Nodup.sublist (hs.map _) h
theorem look_remO {α : Type} {xs : List (Int × α)} {u a : Int} (h : a ≠ u) : look (rem xs u) a = look xs a := by
  unfold rem
  exact look_delO (ps := xs) h
theorem look_updN {α : Type} {xs : List (Int × Nat × α)} {u a : Int} {f : α → α} (h : a ≠ u) : look (updO xs u f) a = look xs a := by
  rw [look_updO]
  cases look xs a with
  | none => rfl
  | some y => simp [h]
theorem kTear_rg {g a : Int} (h : a ≠ g) : look (kTear s g).rg a = look s.rg a := by
  unfold kTear
  split
  · have e : (kGone (kCleared (kTearL s (ofQ s.rt g)) g) 9 g).rg = rem (updO (kTearL s (ofQ s.rt g)).rg g (fun r => { r with over := [] })) g := rfl
    rw [e, look_remO h, look_updN h, kTearL_rg.1]
  · rfl
theorem kTear_no (h : look s.rg g = none) : kTear s g = s := by unfold kTear; rw [h]; rfl
theorem coTearG (hp : Pick (coA p s) l m) (hF : Fits s N M) (hm : M ≤ 45000) : Con Tryz.prog 326 #[.pointer (some ⟨p, 0, none⟩), .int .i64 g] E l (fun _ : Unit => .bool (look s.rg g).isSome) (fun _ => coA p (kTear s g) :: m) := by
  cases hl : look s.rg g with
  | none => rw [kTear_no hl]; exact coTearNo hp hl
  | some x =>
    obtain ⟨b, r⟩ := x
    exact fun w H => ((coTear hp hl hF (by have := hF.jn; omega)) w H).mono fun e w' ⟨x, he, H'⟩ => ⟨x, he, Sub.sep (Sub.cons .here (Sub.drop .refl)) H'⟩
def tornStep (u : Int) (s : KS) (g : Int) : KS := match look s.rg g with
  | none => s
  | some x => if x.2.sq = u ∨ x.2.cq = u then kTear s g else s
def kTorn (s : KS) (u : Int) (l : List Int) : KS := l.foldl (tornStep u) s
def kDestroy (s : KS) (o : Obj2) : KS :=
  kGone (if o.1 = 3 then kTorn (kEnds s (kWaits s o.1 o.2)) o.2 (sortZ ((kEnds s (kWaits s o.1 o.2)).rg.map Prod.fst)) else if o.1 = 9 then kTear (kEnds s (kWaits s o.1 o.2)) o.2 else kEnds s (kWaits s o.1 o.2)) o.1 o.2
def kDestroyL (s : KS) (l : List Obj2) : KS := l.foldl kDestroy s
theorem kTorn_snoc {l : List Int} : kTorn s u (l ++ [g]) = tornStep u (kTorn s u l) g := by unfold kTorn; rw [List.foldl_append]; rfl
theorem kDestroyL_snoc {o : Obj2} {l : List Obj2} : kDestroyL s (l ++ [o]) = kDestroy (kDestroyL s l) o := by unfold kDestroyL; rw [List.foldl_append]; rfl
structure Kept (s t : KS) : Prop where
  q : t.q = s.q
  mp : t.mp = s.mp
  sl : t.sl = s.sl
  mr : t.mr = s.mr
theorem Kept.refl (s : KS) : Kept s s := ⟨rfl, rfl, rfl, rfl⟩
theorem Kept.trans {s t v : KS} (h : Kept s t) (g : Kept t v) : Kept s v := ⟨g.q.trans h.q, g.mp.trans h.mp, g.sl.trans h.sl, g.mr.trans h.mr⟩
theorem Kept.said (s : KS) (d : Deed) : Kept s (kSaid s d) := by unfold kSaid kPost; split <;> exact ⟨rfl, rfl, rfl, rfl⟩
theorem Kept.tell {D : KS → ID → Int → Int → KS} (hD : ∀ s i r v, Kept s (D s i r v)) (s : KS) (d : Deed) : Kept s (kTell D s d) := by
  unfold kTell
  split
  · exact Kept.said s d
  · split
    · exact (Kept.said s d).trans (Kept.trans (t := kRung (kSaid s d) d.1.1) ⟨rfl, rfl, rfl, rfl⟩ (hD _ _ _ _))
    · exact (Kept.said s d).trans ⟨rfl, rfl, rfl, rfl⟩
theorem Kept.dec : ∀ n (s : KS) (i : ID) (r v : Int), Kept s (kDec n s i r v)
  | 0, s, _, _, _ => .refl s
  | n + 1, s, i, r, v => by
    cases hq : look s.rt i with
    | none => rw [kDec_none hq]; exact .refl s
    | some q =>
      rw [kDec_some hq]
      have h0 : Kept s (kForget { s with rt := del s.rt i } i) := ⟨rfl, rfl, rfl, rfl⟩
      have h := h0.trans (Kept.tell (D := kDec n) (fun s i r v => Kept.dec n s i r v) (kForget { s with rt := del s.rt i } i) (i, q.e.tag, q.e.op, r, v, false))
      unfold kNext
      split
      · exact h
      · split
        · exact h.trans (Kept.dec n _ _ _ _)
        · exact h
theorem Kept.ends : ∀ (l : List ID) (s : KS), Kept s (kEnds s l)
  | [], s => .refl s
  | i :: l, s => (Kept.dec _ _ _ _ _).trans (Kept.ends l _)
theorem Kept.tear (s : KS) (g : Int) : Kept s (kTear s g) := ⟨kTear_same.1, kTear_same.2.1, kTear_same.2.2.1, kTear_same.2.2.2⟩
theorem Kept.tornStep (u : Int) (s : KS) (g : Int) : Kept s (tornStep u s g) := by
  unfold Go.Pse.tornStep
  split
  · exact .refl s
  · split
    · exact .tear s g
    · exact .refl s
theorem Kept.torn (u : Int) : ∀ (l : List Int) (s : KS), Kept s (kTorn s u l)
  | [], s => .refl s
  | g :: l, s => (Kept.tornStep u s g).trans (Kept.torn u l _)
theorem dec_rt : ∀ n (s : KS) (i : ID) (r v : Int), (kDec n s i r v).rt.Sublist s.rt
  | 0, s, _, _, _ => List.Sublist.refl _
  | n + 1, s, i, r, v => by
    cases hq : look s.rt i with
    | none => rw [kDec_none hq]; exact List.Sublist.refl _
    | some q =>
      rw [kDec_some hq]
      have h : (kTell (kDec n) (kForget { s with rt := del s.rt i } i) (i, q.e.tag, q.e.op, r, v, false)).rt.Sublist s.rt := by
        unfold kTell
        have h0 : (kSaid (kForget { s with rt := del s.rt i } i) (i, q.e.tag, q.e.op, r, v, false)).rt.Sublist s.rt := by
          rw [kSaid_rt]; exact List.filter_sublist (l := s.rt)
        split
        · exact h0
        · split
          · exact (dec_rt n _ _ _ _).trans h0
          · exact h0
      unfold kNext
      split
      · exact h
      · split
        · exact (dec_rt n _ _ _ _).trans h
        · exact h
theorem ends_rt : ∀ (l : List ID) (s : KS), (kEnds s l).rt.Sublist s.rt
  | [], s => List.Sublist.refl _
  | i :: l, s => (ends_rt l _).trans (dec_rt _ _ _ _ _)
theorem tornStep_rt (u : Int) (s : KS) (g : Int) : (tornStep u s g).rt.Sublist s.rt := by
  unfold tornStep
  split
  · exact List.Sublist.refl _
  · split
    · exact kTear_rt
    · exact List.Sublist.refl _
theorem torn_rt (u : Int) : ∀ (l : List Int) (s : KS), (kTorn s u l).rt.Sublist s.rt
  | [], s => List.Sublist.refl _
  | g :: l, s => (torn_rt u l _).trans (tornStep_rt u s g)
theorem Fits.tornStep {s : KS} {N M : Nat} (hK : Keyd s.rt) (h : Fits s N M) (u g : Int) : Fits (tornStep u s g) N M := by
  unfold Go.Pse.tornStep
  split
  · exact h
  · split
    · exact h.tear hK g
    · exact h
theorem Fits.torn {N M : Nat} (u : Int) : ∀ {l : List Int} {s : KS}, Keyd s.rt → Fits s N M → Fits (kTorn s u l) N M
  | [], _, _, h => h
  | g :: l, s, hK, h => Fits.torn u (l := l) (hK.sub (tornStep_rt u s g)) (h.tornStep hK u g)
theorem torn_rg (u : Int) {a : Int} : ∀ {l : List Int} {s : KS}, a ∉ l → look (kTorn s u l).rg a = look s.rg a
  | [], _, _ => rfl
  | g :: l, s, h => by
    have h1 := torn_rg u (l := l) (s := tornStep u s g) (fun e => h (List.mem_cons_of_mem _ e))
    show look (kTorn (tornStep u s g) u l).rg a = _
    rw [h1]
    have hne : a ≠ g := fun e => h (e ▸ List.mem_cons_self)
    unfold tornStep
    split
    · rfl
    · split
      · exact kTear_rg hne
      · rfl
theorem kDestroy_rt (s : KS) (o : Obj2) : (kDestroy s o).rt.Sublist s.rt := by
  have e : ∀ (t : KS) (k u : Int), (kGone t k u).rt = t.rt := fun t k u => by
    unfold kGone; (repeat' split) <;> rfl
  unfold kDestroy
  rw [e]
  split
  · exact (torn_rt _ _ _).trans (ends_rt _ _)
  · split
    · exact kTear_rt.trans (ends_rt _ _)
    · exact ends_rt _ _
theorem Fits.destroy (hK : Keyd s.rt) (h : Fits s N M) (o : Obj2) : Fits (kDestroy s o) N M := by
  have hE : Fits (kEnds s (kWaits s o.1 o.2)) N M := h.ends
  have hK2 := hK.sub (ends_rt (kWaits s o.1 o.2) s)
  unfold kDestroy
  refine Fits.gone ?_ _ _
  split
  · exact hE.torn _ hK2
  · split
    · exact hE.tear hK2 _
    · exact hE
theorem gone_len (s : KS) (k u : Int) : (kGone s k u).q.length ≤ s.q.length ∧ (kGone s k u).mp.length ≤ s.mp.length ∧ (kGone s k u).sl = s.sl ∧ (kGone s k u).mr = s.mr := by
  unfold kGone
  have h1 : ∀ p : (Int × Int) × (Int × Int) → Bool, (s.mp.filter p).length ≤ s.mp.length := fun p => List.length_filter_le _ _
  (repeat' split) <;> first | exact ⟨Nat.le_refl _, Nat.le_refl _, rfl, rfl⟩ | exact ⟨Nat.le_refl _, h1 _, rfl, rfl⟩ | exact ⟨qRem_len _ _, Nat.le_refl _, rfl, rfl⟩
theorem destroy_len (s : KS) (o : Obj2) : (kDestroy s o).q.length ≤ s.q.length ∧ (kDestroy s o).mp.length ≤ s.mp.length ∧ (kDestroy s o).sl = s.sl ∧ (kDestroy s o).mr = s.mr := by
  have hk : Kept s (if o.1 = 3 then kTorn (kEnds s (kWaits s o.1 o.2)) o.2 (sortZ ((kEnds s (kWaits s o.1 o.2)).rg.map Prod.fst)) else if o.1 = 9 then kTear (kEnds s (kWaits s o.1 o.2)) o.2 else kEnds s (kWaits s o.1 o.2)) := by
    split
    · exact (Kept.ends _ _).trans (Kept.torn _ _ _)
    · split
      · exact (Kept.ends _ _).trans (Kept.tear _ _)
      · exact Kept.ends _ _
  have h := gone_len (if o.1 = 3 then kTorn (kEnds s (kWaits s o.1 o.2)) o.2 (sortZ ((kEnds s (kWaits s o.1 o.2)).rg.map Prod.fst)) else if o.1 = 9 then kTear (kEnds s (kWaits s o.1 o.2)) o.2 else kEnds s (kWaits s o.1 o.2)) o.1 o.2
  rw [hk.q, hk.mp, hk.sl, hk.mr] at h
  exact h
theorem destroyL_rt : ∀ (l : List Obj2) (s : KS), (kDestroyL s l).rt.Sublist s.rt
  | [], s => List.Sublist.refl _
  | o :: l, s => (destroyL_rt l _).trans (kDestroy_rt s o)
theorem Fits.destroyL {N M : Nat} : ∀ {l : List Obj2} {s : KS}, Keyd s.rt → Fits s N M → Fits (kDestroyL s l) N M
  | [], _, _, h => h
  | o :: l, s, hK, h => Fits.destroyL (l := l) (hK.sub (kDestroy_rt s o)) (h.destroy hK o)
theorem destroyL_len : ∀ (l : List Obj2) (s : KS), (kDestroyL s l).q.length ≤ s.q.length ∧ (kDestroyL s l).mp.length ≤ s.mp.length ∧ (kDestroyL s l).sl = s.sl ∧ (kDestroyL s l).mr = s.mr
  | [], s => ⟨Nat.le_refl _, Nat.le_refl _, rfl, rfl⟩
  | o :: l, s => by
    have h1 := destroyL_len l (kDestroy s o)
    have h2 := destroy_len s o
    exact ⟨Nat.le_trans h1.1 h2.1, Nat.le_trans h1.2.1 h2.2.1, h1.2.2.1.trans h2.2.2.1, h1.2.2.2.trans h2.2.2.2⟩
theorem J_coRgKeyd (k : Keyd (ptrs s.rg) → Jk E (coA p s :: l) n F K) : Jk E (coA p s :: l) n F K :=
  J_coO fun bn be br bg bt bs bp bl bk _ => J_keyd (ps := ptrs s.rg) HS fun hK => J_coS (p := p) (s := s) bn be br bg bt bs bp bl bk PX trivial (k hK)
theorem J_coRtKeyd (k : Keyd s.rt → Jk E (coA p s :: l) n F K) : Jk E (coA p s :: l) n F K :=
  J_coO fun bn be br bg bt bs bp bl bk _ => J_pick (A := rtA p 10 s.rt) PC <| J_rtO fun ob _ => J_mapV (ek := kI) (ev := evQ) (ps := s.rt) HS (fun _ h1 => J_rtS (b := p) (o := 10) (ps := s.rt) ob PX trivial <| J_coS (p := p) (s := s) bn be br bg bt bs bp bl bk PX trivial <| k (by rw [h1]; exact Keyd.nil)) (fun _ _ hK => J_rtS (b := p) (o := 10) (ps := s.rt) ob PX trivial <| J_coS (p := p) (s := s) bn be br bg bt bs bp bl bk PX trivial <| k hK)
theorem kSaid_rglen (s : KS) (d : Deed) : (kSaid s d).rg.length = s.rg.length := by
  unfold kSaid kPost
  split
  · rfl
  · simp [updO]
theorem tell_rglen {D : KS → ID → Int → Int → KS} (hD : ∀ s i r v, (D s i r v).rg.length = s.rg.length) (s : KS) (d : Deed) : (kTell D s d).rg.length = s.rg.length := by
  unfold kTell
  split
  · exact kSaid_rglen s d
  · split
    · exact (hD _ _ _ _).trans (kSaid_rglen s d)
    · exact kSaid_rglen s d
theorem dec_rglen : ∀ n (s : KS) (i : ID) (r v : Int), (kDec n s i r v).rg.length = s.rg.length
  | 0, s, _, _, _ => rfl
  | n + 1, s, i, r, v => by
    cases hq : look s.rt i with
    | none => rw [kDec_none hq]
    | some q =>
      rw [kDec_some hq]
      have h := tell_rglen (D := kDec n) (fun s i r v => dec_rglen n s i r v) (kForget { s with rt := del s.rt i } i) (i, q.e.tag, q.e.op, r, v, false)
      unfold kNext
      split
      · exact h
      · split
        · exact (dec_rglen n _ _ _ _).trans h
        · exact h
theorem ends_rglen : ∀ (l : List ID) (s : KS), (kEnds s l).rg.length = s.rg.length
  | [], s => rfl
  | i :: l, s => (ends_rglen l _).trans (dec_rglen _ _ _ _ _)
theorem nodup_take {l : List Int} (h : l.Nodup) {j : Nat} {x : Int} (hx : l[j]? = some x) : x ∉ l.take j := fun hm => by
  obtain ⟨i, hi⟩ := List.getElem?_of_mem hm
  have hil : i < j := by
    have := (List.getElem?_eq_some_iff.1 hi).1
    rw [List.length_take] at this; omega
  rw [List.getElem?_take_of_lt hil] at hi
  have := nodup_idx h hi hx
  omega
theorem kTear_rglen (s : KS) (g : Int) : (kTear s g).rg.length ≤ s.rg.length := by
  unfold kTear
  split
  · have e : (kGone (kCleared (kTearL s (ofQ s.rt g)) g) 9 g).rg = rem (updO (kTearL s (ofQ s.rt g)).rg g (fun r => { r with over := [] })) g := rfl
    rw [e, kTearL_rg.1]
    unfold rem
    refine Nat.le_trans (List.length_filter_le _ _) ?_
    unfold updO; rw [List.length_map]; exact Nat.le_refl _
  · exact Nat.le_refl _
theorem torn_rglen (u : Int) : ∀ (l : List Int) (s : KS), (kTorn s u l).rg.length ≤ s.rg.length
  | [], s => Nat.le_refl _
  | g :: l, s => by
    refine Nat.le_trans (torn_rglen u l (tornStep u s g)) ?_
    unfold tornStep
    split
    · exact Nat.le_refl _
    · split
      · exact kTear_rglen s g
      · exact Nat.le_refl _
theorem gone_rglen (s : KS) (k u : Int) : (kGone s k u).rg.length ≤ s.rg.length := by
  unfold kGone
  (repeat' split) <;> first | exact Nat.le_refl _ | exact List.length_filter_le _ _
theorem destroy_rglen (s : KS) (o : Obj2) : (kDestroy s o).rg.length ≤ s.rg.length := by
  unfold kDestroy
  refine Nat.le_trans (gone_rglen _ _ _) ?_
  split
  · exact Nat.le_trans (torn_rglen _ _ _) (Nat.le_of_eq (ends_rglen _ _))
  · split
    · exact Nat.le_trans (kTear_rglen _ _) (Nat.le_of_eq (ends_rglen _ _))
    · exact Nat.le_of_eq (ends_rglen _ _)
theorem destroyL_rglen : ∀ (l : List Obj2) (s : KS), (kDestroyL s l).rg.length ≤ s.rg.length
  | [], s => Nat.le_refl _
  | o :: l, s => Nat.le_trans (destroyL_rglen l _) (destroy_rglen s o)
theorem coDestroy1 (hp : Pick (coA p s) l m) (hF : Fits s N M) (hM : M ≤ 45000) (hq : s.q.length ≤ 90000) (hz : s.mp.length ≤ 1000000) (hg0 : s.rg.length ≤ 1000) :
  Con Tryz.prog 311 #[.pointer (some ⟨p, 0, none⟩), .agg (encI (k, u)).toArray] E l (fun _ : Unit => .tuple #[]) (fun _ => coA p (kDestroy s (k, u)) :: m) := by
 refine Con.body (n := 63) Tryz.func311 Z Z _ (env_ok 2 Z) <| J_pick hp <| sr <| L_op <| x_box Z Z Z fun b3 => nxx <| mv Z Z <| L_val Z (v_loadA Z ty449 HS CT) <| xo fc323 (A2 Z Z) Z (coWaits (s := s) (k := k) (u := u) PC hF) <| JR fun a12 c12 hw12 hl12 hm12 hz12 => ?_
 have hml : ((kWaits s k u).map encI).length = (kWaits s k u).length := List.length_map _
 have hmcap : c12 ≤ 9223372036854775807 := hm12
 refine J_pick (A := coA p s) PC <| J_asTo (B := coA p (kEnds s ((kWaits s k u).take 0))) (by rw [List.take_zero]; rfl) <| L_pur Z (p_len Z Tryz.underlying224) <| mv Z Z <| nq <| J_block <| J_loop (α := Nat) (fun j => j ≤ (kWaits s k u).length) (fun j => row 36 2 (.slice a12 ((kWaits s k u).map encI).length c12) ((kWaits s k u).map encI) :: blk b3 449 [.int .i64 k, .int .i64 u] :: coA p (kEnds s ((kWaits s k u).take j)) :: m) (fun j => [(14, .int .i64 (j : Int)), (12, .slice a12 ((kWaits s k u).map encI).length c12), (13, .int .i64 (((kWaits s k u).map encI).length : Int)), (0, .pointer (some ⟨p, 0, none⟩)), (3, .pointer (some ⟨b3, 0, none⟩))]) (fun j => (kWaits s k u).length - j) 0 (by omega) SU KE ?_
 intro j hj
 refine sr <| L_pur Z (p_lss Z Z) <| nq <| J_seq <| C_dec Z (fun h15 => ?_) (fun h15 => ?_)
 have hlt : j < (kWaits s k u).length := by omega
 obtain ⟨bx, ox, rfl⟩ := hz12 (by intro h; rw [h] at hml; simp at hml; omega)
 obtain ⟨c, hcc⟩ : ∃ c, (kWaits s k u)[j]? = some c := ⟨_, List.getElem?_eq_getElem hlt⟩
 refine J_skip <| Q_then <| J_seq <| J_block <| sr <| L_pur Z (p_indexAddr Z Z Tryz.underlying224 ty36 (by omega) (by omega)) <| L_val Z (v_loadE Z ty36 HS (by first | (simp only [Int.toNat_natCast, List.getElem?_map, hcc]; rfl) | (simp only [Int.toNat_natCast, List.getElem?_map, hcd]; rfl) | simp | rfl)) ?_
 refine L_op <| x_alloc ty36 Z fun b5 => L_op <| x_store Z Z ty36 Z SM SM RO PT <| J_pick (A := blk b5 _ _) PC <| J_asTo (B := blk b5 36 (encI c)) (by rfl) <| ny <| mv Z Z <| L_val Z (v_loadA Z ty36 HS CT) <| xo fc72 (A4 Z Z Z Z) Z (coDecide (s := (kEnds s ((kWaits s k u).take j))) (i := c) (r := -9) (v := 0) PC (hF.ends (l := (kWaits s k u).take j))) fun _ => J_pick (A := coA p _) PC <| J_asTo (B := coA p (kEnds s ((kWaits s k u).take (j + 1)))) (by rw [List.take_add_one, hcc, Option.toList_some, kEnds_snoc]) <| L_nil <| Q_blk_normal <| qr <| L_pur Z (p_add64 Z Z (by omega)) <| mv Z Z <| nq ?_
 exact J_again (j + 1) (by omega) (by omega) SU KE
 have hjw : j = (kWaits s k u).length := by omega
 rw [hjw, List.take_length]
 obtain ⟨S, hS⟩ : ∃ S, S = (kEnds s (kWaits s k u)) := ⟨_, rfl⟩
 rw [← hS]
 have hFS : Fits S N M := by rw [hS]; exact hF.ends
 have hkS : Kept s S := by rw [hS]; exact Kept.ends _ _
 have hgS : S.rg.length = s.rg.length := by rw [hS]; exact ends_rglen _ _
 refine J_pick (A := coA p S) PC <| J_coRgKeyd fun hKg => J_coRtKeyd fun hKr => J_exit <| Q_then_exit <| Q_then_exit <| Q_blk_this <| Q_then <| J_seq <| sr <| fa Z Z fa449_0 <| L_val Z (v_load Z ty3 HS (by exact rfl)) <| nq <| J_block <| sr <| L_pur Z (p_eql Z Z) <| ag Z Z <| nq <| C_dec Z (fun h24 => ?_) (fun h24 => ?_)
 have hk3 : k = 3 := h24
 refine sr <| mv Z Z <| xo fc324 (A1 Z) Z (coRings (s := S) PC (by omega)) <| JR fun a27 c27 hw27 hl27 hm27 hz27 => ?_
 obtain ⟨zs, hzs⟩ : ∃ zs, zs = sortZ (S.rg.map Prod.fst) := ⟨_, rfl⟩
 refine J_pick (A := row 3 1 _ _) PC <| J_rowTo (ys := zs.map encN) (v' := .slice a27 (zs.map encN).length c27) (by rw [hzs]) (by rw [hzs]) <| J_slot (t := 27) (v := .slice a27 (zs.map encN).length c27) Z (by rw [hzs]) ?_
 rw [← hzs] at hz27
 have hmc : c27 ≤ 9223372036854775807 := hm27
 have hmlz : (zs.map encN).length = zs.length := List.length_map _
 have hzl : zs.length = s.rg.length := by rw [hzs, sortZ_len, List.length_map, hgS]
 have hzp : zs.Perm (S.rg.map Prod.fst) := by rw [hzs]; exact sortZ_isPerm _
 have hzn : zs.Nodup := hzp.nodup_iff.2 (by unfold Keyd at hKg; rwa [show (ptrs S.rg).map Prod.fst = S.rg.map Prod.fst by unfold ptrs; rw [List.map_map]; rfl] at hKg)
 refine J_pick (A := coA p S) PC <| J_asTo (B := coA p (kTorn S u (zs.take 0))) (by rfl) <| L_pur Z (p_len Z Tryz.underlying55) <| mv Z Z <| nq <| J_block <| J_loop (α := Nat) (fun j => j ≤ zs.length) (fun j => row 3 1 (.slice a27 (zs.map encN).length c27) (zs.map encN) :: blk b3 449 [.int .i64 k, .int .i64 u] :: coA p (kTorn S u (zs.take j)) :: m) (fun j => [(29, .int .i64 (j : Int)), (27, .slice a27 (zs.map encN).length c27), (28, .int .i64 ((zs.map encN).length : Int)), (0, .pointer (some ⟨p, 0, none⟩)), (3, .pointer (some ⟨b3, 0, none⟩))]) (fun j => zs.length - j) 0 (by omega) SU KE ?_
 intro j hj
 refine sr <| L_pur Z (p_lss Z Z) <| nq <| J_seq <| C_dec Z (fun h30 => ?_) (fun h30 => ?_)
 have hlt : j < zs.length := by omega
 obtain ⟨bx, ox, rfl⟩ := hz27 (by intro h; rw [h] at hmlz; simp at hmlz; omega)
 obtain ⟨c, hcc⟩ : ∃ c, zs[j]? = some c := ⟨_, List.getElem?_eq_getElem hlt⟩
 have hFT : Fits (kTorn S u (zs.take j)) N M := hFS.torn u hKr
 have hnot : c ∉ zs.take j := nodup_take hzn hcc
 obtain ⟨x, hx⟩ : ∃ x, look (kTorn S u (zs.take j)).rg c = some x := by
  rw [torn_rg u hnot]
  cases hq : look S.rg c with
  | none => exact absurd (hzp.mem_iff.1 (List.mem_of_getElem? hcc)) (look_none_iff.1 hq)
  | some y => exact ⟨y, rfl⟩
 obtain ⟨bR, r⟩ := x
 obtain ⟨nn, hnn⟩ := look_ix hx
 refine J_skip <| Q_then <| J_seq <| J_block <| sr <| L_pur Z (p_indexAddr Z Z Tryz.underlying55 ty3 (by omega) (by omega)) <| L_val Z (v_loadE1 Z ty3 HS (by first | (simp only [Int.toNat_natCast, List.getElem?_map, hcc]; rfl) | (simp only [Int.toNat_natCast, List.getElem?_map, hcd]; rfl) | simp | rfl)) ?_
 refine ag Z Z <| nx <| mv Z Z <| mv Z Z <| xo fc43 (A2 Z Z) Z (coRing (s := (kTorn S u (zs.take j))) (u := c) PC) fun _ => J_slot (t := 36) (v := .pointer (some ⟨bR, 0, none⟩)) Z (by rw [look_is hx]; rfl) <| xo fc325 (A1 Z) Z (coUnits (s := (kTorn S u (zs.take j))) (n := nn) (u := c) (r := r) PC hnn) fun _ => mv Z Z <| L_pur Z (p_extract Z Z) <| L_pur Z (p_extract Z Z) <| ag Z Z <| ag Z Z <| nx <| mv Z Z <| fa Z Z fa449_1 <| L_val Z (v_load Z ty3 HS (by exact rfl)) <| L_pur Z (p_eql Z Z) <| mv Z Z <| J_gsplit (t := 44) Z (fun h44 => ?_) (fun h44 => ?_)
 refine gz Z Z Z Z Z <| gz Z Z Z Z Z <| gz Z Z Z Z Z <| gz Z Z Z Z Z <| L_pur Z (p_pick_t Z Z) <| nq <| C_true Z ?_
 have hor : r.sq = u ∨ r.cq = u := by first | exact .inl (by simpa using h44) | exact .inr (by simpa using h49)
 refine J_region <| mv Z Z <| mv Z Z <| xo fc326 (A2 Z Z) Z (coTearG (s := (kTorn S u (zs.take j))) (g := c) PC hFT hM) fun _ => J_pick (A := coA p _) PC <| J_asTo (B := coA p (kTorn S u (zs.take (j + 1)))) (by rw [List.take_add_one, hcc, Option.toList_some, kTorn_snoc]; unfold tornStep; rw [hx]; dsimp only; rw [if_pos hor]) <| L_nil <| Q_blk_normal <| qr <| L_pur Z (p_add64 Z Z (by omega)) <| mv Z Z <| nq ?_
 exact J_again (j + 1) (by omega) (by omega) SU KE
 refine gp Z Z Z (p_move Z) Z <| gp Z Z Z (p_fieldAddr Z fa449_1) Z <| L_op <| G_on Z Z Z <| J_val (v_load Z ty3 HS (by exact rfl)) Z Z Z <| gp Z Z Z (p_eql Z Z) Z <| L_pur Z (p_pick_f Z Z) <| nq <| C_dec Z (fun h49 => ?_) (fun h49 => ?_)
 have hor : r.sq = u ∨ r.cq = u := by first | exact .inl (by simpa using h44) | exact .inr (by simpa using h49)
 refine J_region <| mv Z Z <| mv Z Z <| xo fc326 (A2 Z Z) Z (coTearG (s := (kTorn S u (zs.take j))) (g := c) PC hFT hM) fun _ => J_pick (A := coA p _) PC <| J_asTo (B := coA p (kTorn S u (zs.take (j + 1)))) (by rw [List.take_add_one, hcc, Option.toList_some, kTorn_snoc]; unfold tornStep; rw [hx]; dsimp only; rw [if_pos hor]) <| L_nil <| Q_blk_normal <| qr <| L_pur Z (p_add64 Z Z (by omega)) <| mv Z Z <| nq ?_
 exact J_again (j + 1) (by omega) (by omega) SU KE
 have hor : ¬ (r.sq = u ∨ r.cq = u) := fun e => e.elim (by simpa using h44) (by simpa using h49)
 refine J_pick (A := coA p _) PC <| J_asTo (B := coA p (kTorn S u (zs.take (j + 1)))) (by rw [List.take_add_one, hcc, Option.toList_some, kTorn_snoc]; unfold tornStep; rw [hx]; dsimp only; rw [if_neg hor]) <| J_skip <| Q_blk_normal <| qr <| L_pur Z (p_add64 Z Z (by omega)) <| mv Z Z <| nq ?_
 exact J_again (j + 1) (by omega) (by omega) SU KE
 have hjz : j = zs.length := by omega
 rw [hjz, List.take_length, hzs]
 have hfin : kDestroy s (k, u) = kGone (kTorn S u (sortZ (S.rg.map Prod.fst))) k u := by unfold kDestroy; dsimp only; rw [← hS, if_pos hk3]
 refine J_exit <| Q_then_exit <| Q_then_exit <| Q_blk_this <| Q_blk_normal <| qr <| mv Z Z <| L_val Z (v_loadA Z ty449 HS CT) <| xo fc327 (A2 Z Z) Z (coGone (k := k) (u := u) PC (by first | (rw [(Kept.torn u _ S).q, hkS.q]; exact hq) | (rw [(Kept.tear S u).q, hkS.q]; exact hq) | (rw [hkS.q]; exact hq)) (by first | (rw [(Kept.torn u _ S).mp, hkS.mp]; exact hz) | (rw [(Kept.tear S u).mp, hkS.mp]; exact hz) | (rw [hkS.mp]; exact hz))) fun _ => L_nil <| J_endnormal <| J_pick (A := coA p _) PC <| J_asTo (B := coA p (kDestroy s (k, u))) (by rw [hfin]) ?_
 exact J_return (()) Tryz.results311 .nil Z SU
 have hk3 : ¬ k = 3 := h24
 refine sr <| L_pur Z (p_eql Z Z) <| ag Z Z <| nq <| C_dec Z (fun h54 => ?_) (fun h54 => ?_)
 have hfin : kDestroy s (k, u) = kGone (kTear S u) k u := by unfold kDestroy; dsimp only; rw [← hS, if_neg hk3, if_pos h54]
 refine J_region <| mv Z Z <| fa Z Z fa449_1 <| L_val Z (v_load Z ty3 HS (by exact rfl)) <| xo fc326 (A2 Z Z) Z (coTearG (s := S) (g := u) PC hFS hM) fun _ => L_nil <| Q_blk_normal <| qr <| mv Z Z <| L_val Z (v_loadA Z ty449 HS CT) <| xo fc327 (A2 Z Z) Z (coGone (k := k) (u := u) PC (by first | (rw [(Kept.torn u _ S).q, hkS.q]; exact hq) | (rw [(Kept.tear S u).q, hkS.q]; exact hq) | (rw [hkS.q]; exact hq)) (by first | (rw [(Kept.torn u _ S).mp, hkS.mp]; exact hz) | (rw [(Kept.tear S u).mp, hkS.mp]; exact hz) | (rw [hkS.mp]; exact hz))) fun _ => L_nil <| J_endnormal <| J_pick (A := coA p _) PC <| J_asTo (B := coA p (kDestroy s (k, u))) (by rw [hfin]) ?_
 exact J_return (()) Tryz.results311 .nil Z SU
 have hfin : kDestroy s (k, u) = kGone S k u := by unfold kDestroy; dsimp only; rw [← hS, if_neg hk3, if_neg h54]
 refine J_skip <| Q_blk_normal <| qr <| mv Z Z <| L_val Z (v_loadA Z ty449 HS CT) <| xo fc327 (A2 Z Z) Z (coGone (k := k) (u := u) PC (by first | (rw [(Kept.torn u _ S).q, hkS.q]; exact hq) | (rw [(Kept.tear S u).q, hkS.q]; exact hq) | (rw [hkS.q]; exact hq)) (by first | (rw [(Kept.torn u _ S).mp, hkS.mp]; exact hz) | (rw [(Kept.tear S u).mp, hkS.mp]; exact hz) | (rw [hkS.mp]; exact hz))) fun _ => L_nil <| J_endnormal <| J_pick (A := coA p _) PC <| J_asTo (B := coA p (kDestroy s (k, u))) (by rw [hfin]) ?_
 exact J_return (()) Tryz.results311 .nil Z SU
theorem coDestroyG {v : Value} {os : List Obj2} (hp : Picks [coA p s, row 449 2 v (os.map encI)] l m) (hF : Fits s N M) (hM : M ≤ 45000) (hq : s.q.length ≤ 90000) (hz : s.mp.length ≤ 1000000) (hg0 : s.rg.length ≤ 1000) :
  Con Tryz.prog 276 #[.pointer (some ⟨p, 0, none⟩), v] E l (fun _ : Unit => .tuple #[]) (fun _ => coA p (kDestroyL s os) :: m) := by
 refine Con.body (n := 16) Tryz.func276 Z Z _ (env_ok 2 Z) <| J_picks2 hp <| J_coRtKeyd fun hKr => J_row (.there .here) fun hw a6 c6 hv h1 h2 hz6 => ?_
 subst hv
 have hmc : c6 ≤ 9223372036854775807 := h2
 have hml : (os.map encI).length = os.length := List.length_map _
 refine sr <| mv Z Z <| L_pur Z (p_len Z Tryz.underlying361) <| mv Z Z <| J_pick (A := coA p s) PC <| J_asTo (B := coA p (kDestroyL s (os.take 0))) (by rw [List.take_zero]; rfl) <| nq <| J_block <| J_loop (α := Nat) (fun j => j ≤ os.length) (fun j => row 449 2 (.slice a6 (os.map encI).length c6) (os.map encI) :: coA p (kDestroyL s (os.take j)) :: m) (fun j => [(8, .int .i64 (j : Int)), (6, .slice a6 (os.map encI).length c6), (7, .int .i64 ((os.map encI).length : Int)), (0, .pointer (some ⟨p, 0, none⟩))]) (fun j => os.length - j) 0 (by omega) SU KE ?_
 intro j hj
 refine sr <| L_pur Z (p_lss Z Z) <| nq <| J_seq <| C_dec Z (fun h9 => ?_) (fun h9 => ?_)
 have hlt : j < os.length := by omega
 obtain ⟨bx, ox, rfl⟩ := hz6 (by intro h; rw [h] at hml; simp at hml; omega)
 obtain ⟨c, hcc⟩ : ∃ c, os[j]? = some c := ⟨_, List.getElem?_eq_getElem hlt⟩
 have hFj : Fits (kDestroyL s (os.take j)) N M := hF.destroyL hKr
 have hlj := destroyL_len (os.take j) s
 have hrj := destroyL_rglen (os.take j) s
 refine J_skip <| Q_then <| J_seq <| J_block <| sr <| L_pur Z (p_indexAddr Z Z Tryz.underlying361 ty449 (by omega) (by omega)) <| L_val Z (v_loadE Z ty449 HS (by first | (simp only [Int.toNat_natCast, List.getElem?_map, hcc]; rfl) | (simp only [Int.toNat_natCast, List.getElem?_map, hcd]; rfl) | simp | rfl)) ?_
 refine L_op <| x_alloc ty449 Z fun b5 => L_op <| x_store Z Z ty449 Z SM SM RO PT <| ny <| mv Z Z <| L_val Z (v_loadA Z ty449 HS CT) <| xo fc311 (A2 Z Z) Z (coDestroy1 (s := (kDestroyL s (os.take j))) (k := c.1) (u := c.2) PC hFj hM (by omega) (by omega) (by omega)) fun _ => J_pick (A := coA p _) PC <| J_asTo (B := coA p (kDestroyL s (os.take (j + 1)))) (by rw [List.take_add_one, hcc, Option.toList_some, kDestroyL_snoc]) <| L_nil <| Q_blk_normal <| qr <| L_pur Z (p_add64 Z Z (by omega)) <| mv Z Z <| nq ?_
 exact J_again (j + 1) (by omega) (by omega) SU KE
 have hjo : j = os.length := by omega
 refine J_pick (A := coA p _) PC <| J_asTo (B := coA p (kDestroyL s os)) (by rw [hjo, List.take_length]) <| J_exit <| Q_then_exit <| Q_then_exit <| Q_blk_this <| J_endnormal ?_
 exact J_return (()) Tryz.results276 .nil Z SU
variable {root : Cap}
theorem coFindG (hp : Pick (coA p s) l m) {a : Int} (ha : 0 ≤ a ∧ a < 4294967296) :
    Con Tryz.prog 309 #[.pointer (some ⟨p, 6, none⟩), .agg (encC root).toArray, .int .u32 a] E l (fun _ : Unit => .tuple #[.agg (encI ((kFind s.sl root a).getD (0, 0))).toArray, .int .i64 (if (kFind s.sl root a).isSome then 0 else 2)]) (fun _ => coA p s :: m) := fun w H => by
  refine (?_ : Jk E l 0 [] fun _ w => Calls Tryz.prog 309 #[.pointer (some ⟨p, 6, none⟩), .agg (encC root).toArray, .int .u32 a] w fun e w' => ∃ x, e = .returned ((fun _ : Unit => .tuple #[.agg (encI ((kFind s.sl root a).getD (0, 0))).toArray, .int .i64 (if (kFind s.sl root a).isSome then 0 else 2)]) x) ∧ Sep E w' ((fun _ : Unit => coA p s :: m) x)) w _ H fr0
  refine J_pick hp <| J_coO fun bn be br bg bt bs bp bl bk _ => J_con (findG (ps := s.sl) (root := root) (a := a) PC ha) fun x => J_coS (p := p) (s := s) bn be br bg bt bs bp bl bk PX trivial ?_
  exact J_end SU
theorem coCapG (hp : Pick (coA p s) l m) {a kind : Int} (ha : 0 ≤ a ∧ a < 4294967296) :
    Con Tryz.prog 285 #[.pointer (some ⟨p, 6, none⟩), .agg (encC root).toArray, .int .u32 a, .int .i64 kind] E l (fun _ : Unit => .tuple #[.agg (encC (kCap s.sl root a kind).1).toArray, .agg (encI (kCap s.sl root a kind).2.1).toArray, .int .i64 (kCap s.sl root a kind).2.2]) (fun _ => coA p s :: m) := fun w H => by
  refine (?_ : Jk E l 0 [] fun _ w => Calls Tryz.prog 285 #[.pointer (some ⟨p, 6, none⟩), .agg (encC root).toArray, .int .u32 a, .int .i64 kind] w fun e w' => ∃ x, e = .returned ((fun _ : Unit => .tuple #[.agg (encC (kCap s.sl root a kind).1).toArray, .agg (encI (kCap s.sl root a kind).2.1).toArray, .int .i64 (kCap s.sl root a kind).2.2]) x) ∧ Sep E w' ((fun _ : Unit => coA p s :: m) x)) w _ H fr0
  refine J_pick hp <| J_coO fun bn be br bg bt bs bp bl bk _ => J_con (capG (ps := s.sl) (root := root) (a := a) (kind := kind) PC ha) fun x => J_coS (p := p) (s := s) bn be br bg bt bs bp bl bk PX trivial ?_
  exact J_end SU
variable {xp yp : Place} {r : Int}
theorem coCopyG (hp : Pick (coA p s) l m) :
    Con Tryz.prog 208 #[.pointer (some ⟨p, 6, none⟩), .agg (encI xp).toArray, .agg (encI yp).toArray, .int .i64 r] E l (fun _ : Unit => .int .i64 (copyS s.sl xp yp r).2) (fun _ => coA p { s with sl := (copyS s.sl xp yp r).1 } :: m) := fun w H => by
  refine (?_ : Jk E l 0 [] fun _ w => Calls Tryz.prog 208 #[.pointer (some ⟨p, 6, none⟩), .agg (encI xp).toArray, .agg (encI yp).toArray, .int .i64 r] w fun e w' => ∃ x, e = .returned ((fun _ : Unit => .int .i64 (copyS s.sl xp yp r).2) x) ∧ Sep E w' ((fun _ : Unit => coA p { s with sl := (copyS s.sl xp yp r).1 } :: m) x)) w _ H fr0
  refine J_pick hp <| J_coO fun bn be br bg bt bs bp bl bk _ => J_con (copyG (ps := s.sl) (p := xp) (q := yp) (r := r) PC) fun x => J_coS (p := p) (s := { s with sl := (copyS s.sl xp yp r).1 }) bn be br bg bt bs bp bl bk PX trivial ?_
  exact J_end SU
theorem coMintG (hp : Pick (coA p s) l m) (hn : 0 ≤ r ∧ r < 4294967296) :
    Con Tryz.prog 210 #[.pointer (some ⟨p, 6, none⟩), .agg (encI xp).toArray, .agg (encI yp).toArray, .int .u32 r] E l (fun _ : Unit => .int .i64 (mintS s.sl xp yp r).2) (fun _ => coA p { s with sl := (mintS s.sl xp yp r).1 } :: m) := fun w H => by
  refine (?_ : Jk E l 0 [] fun _ w => Calls Tryz.prog 210 #[.pointer (some ⟨p, 6, none⟩), .agg (encI xp).toArray, .agg (encI yp).toArray, .int .u32 r] w fun e w' => ∃ x, e = .returned ((fun _ : Unit => .int .i64 (mintS s.sl xp yp r).2) x) ∧ Sep E w' ((fun _ : Unit => coA p { s with sl := (mintS s.sl xp yp r).1 } :: m) x)) w _ H fr0
  refine J_pick hp <| J_coO fun bn be br bg bt bs bp bl bk _ => J_con (mintG (ps := s.sl) (p := xp) (q := yp) (n := r) PC hn) fun x => J_coS (p := p) (s := { s with sl := (mintS s.sl xp yp r).1 }) bn be br bg bt bs bp bl bk PX trivial ?_
  exact J_end SU
theorem coMoveG (hp : Pick (coA p s) l m) (hsl : s.sl.length ≤ 100000) :
    Con Tryz.prog 212 #[.pointer (some ⟨p, 6, none⟩), .agg (encI xp).toArray, .agg (encI yp).toArray] E l (fun _ : Unit => .int .i64 (dmoveS s.sl xp yp).2) (fun _ => coA p { s with sl := (dmoveS s.sl xp yp).1 } :: m) := fun w H => by
  refine (?_ : Jk E l 0 [] fun _ w => Calls Tryz.prog 212 #[.pointer (some ⟨p, 6, none⟩), .agg (encI xp).toArray, .agg (encI yp).toArray] w fun e w' => ∃ x, e = .returned ((fun _ : Unit => .int .i64 (dmoveS s.sl xp yp).2) x) ∧ Sep E w' ((fun _ : Unit => coA p { s with sl := (dmoveS s.sl xp yp).1 } :: m) x)) w _ H fr0
  refine J_pick hp <| J_coO fun bn be br bg bt bs bp bl bk _ => J_con (dmoveG (ps := s.sl) (p := xp) (q := yp) PC hsl) fun x => J_coS (p := p) (s := { s with sl := (dmoveS s.sl xp yp).1 }) bn be br bg bt bs bp bl bk PX trivial ?_
  exact J_end SU
theorem coDeleteG (hp : Pick (coA p s) l m) (hsl : s.sl.length ≤ 100000) :
    Con Tryz.prog 215 #[.pointer (some ⟨p, 6, none⟩), .agg (encI xp).toArray] E l (fun v : Value => .tuple #[v, .int .i64 (deleteS s.sl xp).2]) (fun v => row 449 2 v (((deleteS s.sl xp).1.2).map encI) :: coA p { s with sl := (deleteS s.sl xp).1.1 } :: m) := fun w H => by
  refine (?_ : Jk E l 0 [] fun _ w => Calls Tryz.prog 215 #[.pointer (some ⟨p, 6, none⟩), .agg (encI xp).toArray] w fun e w' => ∃ x, e = .returned ((fun v : Value => .tuple #[v, .int .i64 (deleteS s.sl xp).2]) x) ∧ Sep E w' ((fun v : Value => row 449 2 v (((deleteS s.sl xp).1.2).map encI) :: coA p { s with sl := (deleteS s.sl xp).1.1 } :: m) x)) w _ H fr0
  refine J_pick hp <| J_coO fun bn be br bg bt bs bp bl bk _ => J_con (deleteG (ps := s.sl) (p := xp) PC hsl) fun x => J_coS (p := p) (s := { s with sl := (deleteS s.sl xp).1.1 }) bn be br bg bt bs bp bl bk PX trivial ?_
  exact J_end SU
theorem coRevokeG (hp : Pick (coA p s) l m) (hR : RevOk s.sl xp) (hsl : s.sl.length ≤ 100000) :
    Con Tryz.prog 217 #[.pointer (some ⟨p, 6, none⟩), .agg (encI xp).toArray] E l (fun v : Value => .tuple #[v, .int .i64 (revokeS s.sl xp).2]) (fun v => row 449 2 v (((revokeS s.sl xp).1.2).map encI) :: coA p { s with sl := (revokeS s.sl xp).1.1 } :: m) := fun w H => by
  refine (?_ : Jk E l 0 [] fun _ w => Calls Tryz.prog 217 #[.pointer (some ⟨p, 6, none⟩), .agg (encI xp).toArray] w fun e w' => ∃ x, e = .returned ((fun v : Value => .tuple #[v, .int .i64 (revokeS s.sl xp).2]) x) ∧ Sep E w' ((fun v : Value => row 449 2 v (((revokeS s.sl xp).1.2).map encI) :: coA p { s with sl := (revokeS s.sl xp).1.1 } :: m) x)) w _ H fr0
  refine J_pick hp <| J_coO fun bn be br bg bt bs bp bl bk _ => J_con (revokeG (ps := s.sl) (p := xp) PC hR hsl) fun x => J_coS (p := p) (s := { s with sl := (revokeS s.sl xp).1.1 }) bn be br bg bt bs bp bl bk PX trivial ?_
  exact J_end SU
theorem coMakeG (hp : Pick (coA p s) l m) {size : Int} (hck : CapsOk s.sl) (hmk : MarksOk s.mr) (hsl : s.sl.length ≤ 100000) :
    Con Tryz.prog 219 #[.pointer (some ⟨p, 6, none⟩), .pointer (some ⟨p, 7, none⟩), .agg (encI xp).toArray, .agg (encI yp).toArray, .int .i64 kind, .int .i64 size] E l (fun _ : Unit => .tuple #[.agg (encC (makeS s.sl s.mr xp yp kind size).2.1).toArray, .int .i64 (makeS s.sl s.mr xp yp kind size).2.2]) (fun _ => coA p { s with sl := (makeS s.sl s.mr xp yp kind size).1.1, mr := (makeS s.sl s.mr xp yp kind size).1.2 } :: m) := fun w H => by
  refine (?_ : Jk E l 0 [] fun _ w => Calls Tryz.prog 219 #[.pointer (some ⟨p, 6, none⟩), .pointer (some ⟨p, 7, none⟩), .agg (encI xp).toArray, .agg (encI yp).toArray, .int .i64 kind, .int .i64 size] w fun e w' => ∃ x, e = .returned ((fun _ : Unit => .tuple #[.agg (encC (makeS s.sl s.mr xp yp kind size).2.1).toArray, .int .i64 (makeS s.sl s.mr xp yp kind size).2.2]) x) ∧ Sep E w' ((fun _ : Unit => coA p { s with sl := (makeS s.sl s.mr xp yp kind size).1.1, mr := (makeS s.sl s.mr xp yp kind size).1.2 } :: m) x)) w _ H fr0
  refine J_pick hp <| J_coO fun bn be br bg bt bs bp bl bk _ => J_con (makeG (ps := s.sl) (mr := s.mr) (p := xp) (q := yp) (kind := kind) (size := size) PX hck hmk hsl) fun x => J_coS (p := p) (s := { s with sl := (makeS s.sl s.mr xp yp kind size).1.1, mr := (makeS s.sl s.mr xp yp kind size).1.2 }) bn be br bg bt bs bp bl bk PX trivial ?_
  exact J_end SU
variable {C : As}
theorem J_picks3 {A B : As} (hp : Picks [A, B, C] l m) (k : Jk E (A :: B :: C :: m) n F K) : Jk E l n F K := fun w a H hF => k w a (hp.sep H) hF
/-! ### plain: what an entry asks of slots -/
def in32 (n : Int) : Prop := 0 ≤ n ∧ n < 4294967296
structure SqeOk (e : Sqe) : Prop where
  cap : in32 e.cap
  a : in32 e.a
  b : in32 e.b
  c : in32 e.c
def twoAt (s : KS) (T : Th) (e : Sqe) : Option (Place × Place) := match kFind s.sl T.root e.cap with
  | none => none
  | some x => match kFind s.sl T.root e.a with
    | none => none
    | some y => some (x, y)
def twoS (s : KS) (F : Place → Place → KS × Int) : Option (Place × Place) → KS × Int
  | none => (s, 2)
  | some x => F x.1 x.2
def twoC (C : As) (D : Place → Place → As) : Option (Place × Place) → As
  | none => C
  | some x => D x.1 x.2
def killS (s : KS) (F : Place → (List (Place × SV) × List Obj2) × Int) : Option Place → KS × Int
  | none => (s, 2)
  | some x => (kDestroyL { s with sl := (F x).1.1 } (F x).1.2, (F x).2)
def mayS (s : KS) (T : Th) (e : Sqe) (kind r : Int) : Cap × Int :=
  if (kCap s.sl T.root e.cap kind).2.2 = 0 ∧ bits .and .i64 (kCap s.sl T.root e.cap kind).1.rights r ≠ r then (c0, 6) else ((kCap s.sl T.root e.cap kind).1, (kCap s.sl T.root e.cap kind).2.2)
theorem kCap_code {sl : List (Place × SV)} {a kind : Int} : 0 ≤ (kCap sl root a kind).2.2 ∧ (kCap sl root a kind).2.2 ≤ 5 := by
  unfold kCap
  split
  · simp
  · split
    · simp
    · split <;> simp
variable {T : Th} {e : Sqe}
theorem mayS_code : 0 ≤ (mayS s T e kind r).2 ∧ (mayS s T e kind r).2 ≤ 6 := by
  unfold mayS
  split
  · simp
  · have := kCap_code (sl := s.sl) (root := T.root) (a := e.cap) (kind := kind)
    simp only; omega
theorem bothS_code {p q : Place} : 0 ≤ (bothS ps p q).2 ∧ (bothS ps p q).2 ≤ 7 := by
  unfold bothS
  split
  · simp
  · split
    · simp
    · split <;> simp
theorem badgeC_code {c : Cap} {n : Int} : 0 ≤ (badgeC c n).2 ∧ (badgeC c n).2 ≤ 12 := by
  unfold badgeC
  (repeat' split) <;> simp
theorem copyS_code {p q : Place} : 0 ≤ (copyS ps p q r).2 ∧ (copyS ps p q r).2 ≤ 100 := by
  have := bothS_code (ps := ps) (p := p) (q := q)
  unfold copyS
  split
  · simp only; omega
  · split <;> simp
theorem mintS_code {p q : Place} : 0 ≤ (mintS ps p q r).2 ∧ (mintS ps p q r).2 ≤ 100 := by
  have := bothS_code (ps := ps) (p := p) (q := q)
  have := badgeC_code (c := (bothS ps p q).1) (n := r)
  unfold mintS
  split
  · simp only; omega
  · split
    · simp only; omega
    · simp
theorem dmoveS_code {p q : Place} : 0 ≤ (dmoveS ps p q).2 ∧ (dmoveS ps p q).2 ≤ 100 := by
  have := bothS_code (ps := ps) (p := p) (q := q)
  unfold dmoveS
  simp only; omega
theorem kindsC_code : 0 ≤ kindsC k z ∧ kindsC k z ≤ 7 := by
  unfold kindsC
  (repeat' split) <;> simp
theorem makeS_code {mr : List (Place × Int)} {p q : Place} : 0 ≤ (makeS ps mr p q k z).2.2 ∧ (makeS ps mr p q k z).2.2 ≤ 100 := by
  have := kindsC_code (k := k) (z := z)
  unfold makeS
  (repeat' split) <;> first | (simp; done) | (simp only; omega)
theorem deleteS_code {p : Place} : 0 ≤ (deleteS ps p).2 ∧ (deleteS ps p).2 ≤ 100 := by
  unfold deleteS; split <;> simp
theorem revokeS_code {p : Place} : 0 ≤ (revokeS ps p).2 ∧ (revokeS ps p).2 ≤ 100 := by
  unfold revokeS; split <;> simp
variable {i : ID}
theorem placeG {a p : Nat} {q : Rq} (hp : Picks [actA a p T q i, coA p s] l m) {a_ : Int} (ha : in32 a_) :
    Con Tryz.prog 271 #[.pointer (some ⟨a, 0, none⟩), .int .u32 a_] E l (fun _ : Unit => .tuple #[.agg (encI ((kFind s.sl T.root a_).getD (0, 0))).toArray, .int .i64 (if (kFind s.sl T.root a_).isSome then 0 else 2)]) (fun _ => actA a p T q i :: coA p s :: m) := by
  refine Con.body (n := 20) Tryz.func271 Z Z _ (env_ok 2 Z) <| J_picks2 hp <| J_act <| sr <| L_op <| x_alloc ty108 Z fun b4 => ag Z Z <| nq <| J_seq <| J_drawL (some 14) mixed <| ip 0 Z Z Z Z (p_move Z) <| ip 1 Z Z Z Z (p_nilCheck Z) <| ip 2 Z Z Z Z (p_fieldAddr Z fa279_0) <| iv 3 Z Z Z Z (fun _ => v_load Z ty24 HS (by exact rfl)) <| ip 5 Z Z Z Z (p_move Z) <| ip 6 Z Z Z Z (p_nilCheck Z) <| ip 7 Z Z Z Z (p_fieldAddr Z fa279_1) <| ip 8 Z Z Z Z (p_fieldAddr Z fa213_3) <| iv 9 Z Z Z Z (fun _ => v_loadA Z ty110 HS CT) <| J_slot (t := 15) (v := .agg (encC T.root).toArray) Z Z <| ip 10 Z Z Z Z (p_move Z) <| i1 4 Z <| xc fc28 (A1 Z) Z (coSlots) fun _ => i1 11 Z <| xc fc309 (A3 Z Z Z) Z (coFindG (s := s) (root := T.root) (a := a_) PC ha) fun _ => ip 12 Z Z Z Z (p_extract Z Z) <| ip 13 Z Z Z Z (p_extract Z Z) <| i1 14 Z <| x_store Z Z ty108 Z SM SM RO PT ?_
  refine ip 15 Z Z Z Z (p_assign Z) <| i0 <| Q_then <| J_ret <| J_pick (A := blk a _ _) PC <| J_asTo (B := actA a p T q i) (by rfl) <| J_return (()) Tryz.results271 (.cellA Z ty108 HS CT (.tmp Z .nil)) ?_ ?_
  · rfl
  · exact SU
theorem foundG {a p : Nat} {q : Rq} (hp : Picks [actA a p T q i, coA p s] l m) {a_ : Int} (ha : in32 a_) :
    Con Tryz.prog 221 #[.pointer (some ⟨a, 0, none⟩), .int .u32 a_, .int .i64 kind] E l (fun _ : Unit => .tuple #[.agg (encC (kCap s.sl T.root a_ kind).1).toArray, .int .i64 (kCap s.sl T.root a_ kind).2.2]) (fun _ => actA a p T q i :: coA p s :: m) := by
  refine Con.body (n := 30) Tryz.func221 Z Z _ (env_ok 3 Z) <| J_picks2 hp <| J_act <| sr <| L_op <| x_alloc ty110 Z fun b6 => ag Z Z <| nq <| J_seq <| J_drawL none mixed <| ip 0 Z Z Z Z (p_move Z) <| ip 1 Z Z Z Z (p_nilCheck Z) <| ip 2 Z Z Z Z (p_fieldAddr Z fa279_0) <| iv 3 Z Z Z Z (fun _ => v_load Z ty24 HS (by exact rfl)) <| ip 5 Z Z Z Z (p_move Z) <| ip 6 Z Z Z Z (p_nilCheck Z) <| ip 7 Z Z Z Z (p_fieldAddr Z fa279_1) <| ip 8 Z Z Z Z (p_fieldAddr Z fa213_3) <| iv 9 Z Z Z Z (fun _ => v_loadA Z ty110 HS CT) <| J_slot (t := 21) (v := .agg (encC T.root).toArray) Z Z <| ip 10 Z Z Z Z (p_move Z) <| ip 11 Z Z Z Z (p_move Z) <| I_ready (rs := [4, 17, 18]) SI (by kernel_rfl) (by simp) <| (I_cons Z ?_ (I_cons Z ?_ (I_cons Z ?_ I_nil)))
  refine xc fc28 (A1 Z) Z (coSlots) fun _ => I_ready (rs := [12, 17, 18]) SI (by kernel_rfl) (by simp) <| (I_cons Z ?_ (I_cons Z ?_ (I_cons Z ?_ I_nil)))
  refine xc fc285 (A4 Z Z Z Z) Z (coCapG (s := s) (root := T.root) (a := a_) (kind := kind) PC ha) fun _ => ip 13 Z Z Z Z (p_move Z) <| ip 14 Z Z Z Z (p_extract Z Z) <| ip 15 Z Z Z Z (p_extract Z Z) <| ip 16 Z Z Z Z (p_extract Z Z) <| I_ready (rs := [17, 18]) SI (by kernel_rfl) (by simp) <| (I_cons Z ?_ (I_cons Z ?_ I_nil))
  refine x_alloc ty110 Z fun b8 => i1 18 Z <| x_alloc ty108 Z fun b9 => i1 19 Z <| x_store Z Z ty110 Z SM SM RO PT <| i1 20 Z <| x_store Z Z ty108 Z SM SM RO PT <| ip 21 Z Z Z Z (p_assign Z) <| i0 <| qx <| L_val Z (v_loadA Z ty110 HS CT) <| mv Z Z <| L_op <| x_store Z Z ty110 Z SM SM RO PT <| ag Z Z <| nq <| J_ret <| J_pick (A := blk a _ _) PC <| J_asTo (B := actA a p T q i) (by rfl) <| J_return (()) Tryz.results221 (.cellA Z ty110 HS CT (.tmp Z .nil)) ?_ ?_
  · rfl
  · exact SU
  refine x_alloc ty108 Z fun b9 => i1 17 Z <| x_alloc ty110 Z fun b8 => i1 19 Z <| x_store Z Z ty110 Z SM SM RO PT <| i1 20 Z <| x_store Z Z ty108 Z SM SM RO PT <| ip 21 Z Z Z Z (p_assign Z) <| i0 <| qx <| L_val Z (v_loadA Z ty110 HS CT) <| mv Z Z <| L_op <| x_store Z Z ty110 Z SM SM RO PT <| ag Z Z <| nq <| J_ret <| J_pick (A := blk a _ _) PC <| J_asTo (B := actA a p T q i) (by rfl) <| J_return (()) Tryz.results221 (.cellA Z ty110 HS CT (.tmp Z .nil)) ?_ ?_
  · rfl
  · exact SU
  refine x_alloc ty110 Z fun b8 => I_ready (rs := [12, 18]) SI (by kernel_rfl) (by simp) <| (I_cons Z ?_ (I_cons Z ?_ I_nil))
  refine xc fc285 (A4 Z Z Z Z) Z (coCapG (s := s) (root := T.root) (a := a_) (kind := kind) PC ha) fun _ => ip 13 Z Z Z Z (p_move Z) <| ip 14 Z Z Z Z (p_extract Z Z) <| ip 15 Z Z Z Z (p_extract Z Z) <| ip 16 Z Z Z Z (p_extract Z Z) <| i1 18 Z <| x_alloc ty108 Z fun b9 => i1 19 Z <| x_store Z Z ty110 Z SM SM RO PT <| i1 20 Z <| x_store Z Z ty108 Z SM SM RO PT <| ip 21 Z Z Z Z (p_assign Z) <| i0 <| qx <| L_val Z (v_loadA Z ty110 HS CT) <| mv Z Z <| L_op <| x_store Z Z ty110 Z SM SM RO PT <| ag Z Z <| nq <| J_ret <| J_pick (A := blk a _ _) PC <| J_asTo (B := actA a p T q i) (by rfl) <| J_return (()) Tryz.results221 (.cellA Z ty110 HS CT (.tmp Z .nil)) ?_ ?_
  · rfl
  · exact SU
  refine x_alloc ty108 Z fun b9 => i1 12 Z <| xc fc285 (A4 Z Z Z Z) Z (coCapG (s := s) (root := T.root) (a := a_) (kind := kind) PC ha) fun _ => ip 13 Z Z Z Z (p_move Z) <| ip 14 Z Z Z Z (p_extract Z Z) <| ip 15 Z Z Z Z (p_extract Z Z) <| ip 16 Z Z Z Z (p_extract Z Z) <| i1 19 Z <| x_store Z Z ty110 Z SM SM RO PT <| i1 20 Z <| x_store Z Z ty108 Z SM SM RO PT <| ip 21 Z Z Z Z (p_assign Z) <| i0 <| qx <| L_val Z (v_loadA Z ty110 HS CT) <| mv Z Z <| L_op <| x_store Z Z ty110 Z SM SM RO PT <| ag Z Z <| nq <| J_ret <| J_pick (A := blk a _ _) PC <| J_asTo (B := actA a p T q i) (by rfl) <| J_return (()) Tryz.results221 (.cellA Z ty110 HS CT (.tmp Z .nil)) ?_ ?_
  · rfl
  · exact SU
  refine x_alloc ty108 Z fun b9 => I_ready (rs := [12, 17]) SI (by kernel_rfl) (by simp) <| (I_cons Z ?_ (I_cons Z ?_ I_nil))
  refine xc fc285 (A4 Z Z Z Z) Z (coCapG (s := s) (root := T.root) (a := a_) (kind := kind) PC ha) fun _ => ip 13 Z Z Z Z (p_move Z) <| ip 14 Z Z Z Z (p_extract Z Z) <| ip 15 Z Z Z Z (p_extract Z Z) <| ip 16 Z Z Z Z (p_extract Z Z) <| i1 17 Z <| x_alloc ty110 Z fun b8 => i1 19 Z <| x_store Z Z ty110 Z SM SM RO PT <| i1 20 Z <| x_store Z Z ty108 Z SM SM RO PT <| ip 21 Z Z Z Z (p_assign Z) <| i0 <| qx <| L_val Z (v_loadA Z ty110 HS CT) <| mv Z Z <| L_op <| x_store Z Z ty110 Z SM SM RO PT <| ag Z Z <| nq <| J_ret <| J_pick (A := blk a _ _) PC <| J_asTo (B := actA a p T q i) (by rfl) <| J_return (()) Tryz.results221 (.cellA Z ty110 HS CT (.tmp Z .nil)) ?_ ?_
  · rfl
  · exact SU
  refine x_alloc ty110 Z fun b8 => i1 12 Z <| xc fc285 (A4 Z Z Z Z) Z (coCapG (s := s) (root := T.root) (a := a_) (kind := kind) PC ha) fun _ => ip 13 Z Z Z Z (p_move Z) <| ip 14 Z Z Z Z (p_extract Z Z) <| ip 15 Z Z Z Z (p_extract Z Z) <| ip 16 Z Z Z Z (p_extract Z Z) <| i1 19 Z <| x_store Z Z ty110 Z SM SM RO PT <| i1 20 Z <| x_store Z Z ty108 Z SM SM RO PT <| ip 21 Z Z Z Z (p_assign Z) <| i0 <| qx <| L_val Z (v_loadA Z ty110 HS CT) <| mv Z Z <| L_op <| x_store Z Z ty110 Z SM SM RO PT <| ag Z Z <| nq <| J_ret <| J_pick (A := blk a _ _) PC <| J_asTo (B := actA a p T q i) (by rfl) <| J_return (()) Tryz.results221 (.cellA Z ty110 HS CT (.tmp Z .nil)) ?_ ?_
  · rfl
  · exact SU
  refine x_alloc ty110 Z fun b8 => I_ready (rs := [4, 18]) SI (by kernel_rfl) (by simp) <| (I_cons Z ?_ (I_cons Z ?_ I_nil))
  refine xc fc28 (A1 Z) Z (coSlots) fun _ => I_ready (rs := [12, 18]) SI (by kernel_rfl) (by simp) <| (I_cons Z ?_ (I_cons Z ?_ I_nil))
  refine xc fc285 (A4 Z Z Z Z) Z (coCapG (s := s) (root := T.root) (a := a_) (kind := kind) PC ha) fun _ => ip 13 Z Z Z Z (p_move Z) <| ip 14 Z Z Z Z (p_extract Z Z) <| ip 15 Z Z Z Z (p_extract Z Z) <| ip 16 Z Z Z Z (p_extract Z Z) <| i1 18 Z <| x_alloc ty108 Z fun b9 => i1 19 Z <| x_store Z Z ty110 Z SM SM RO PT <| i1 20 Z <| x_store Z Z ty108 Z SM SM RO PT <| ip 21 Z Z Z Z (p_assign Z) <| i0 <| qx <| L_val Z (v_loadA Z ty110 HS CT) <| mv Z Z <| L_op <| x_store Z Z ty110 Z SM SM RO PT <| ag Z Z <| nq <| J_ret <| J_pick (A := blk a _ _) PC <| J_asTo (B := actA a p T q i) (by rfl) <| J_return (()) Tryz.results221 (.cellA Z ty110 HS CT (.tmp Z .nil)) ?_ ?_
  · rfl
  · exact SU
  refine x_alloc ty108 Z fun b9 => i1 12 Z <| xc fc285 (A4 Z Z Z Z) Z (coCapG (s := s) (root := T.root) (a := a_) (kind := kind) PC ha) fun _ => ip 13 Z Z Z Z (p_move Z) <| ip 14 Z Z Z Z (p_extract Z Z) <| ip 15 Z Z Z Z (p_extract Z Z) <| ip 16 Z Z Z Z (p_extract Z Z) <| i1 19 Z <| x_store Z Z ty110 Z SM SM RO PT <| i1 20 Z <| x_store Z Z ty108 Z SM SM RO PT <| ip 21 Z Z Z Z (p_assign Z) <| i0 <| qx <| L_val Z (v_loadA Z ty110 HS CT) <| mv Z Z <| L_op <| x_store Z Z ty110 Z SM SM RO PT <| ag Z Z <| nq <| J_ret <| J_pick (A := blk a _ _) PC <| J_asTo (B := actA a p T q i) (by rfl) <| J_return (()) Tryz.results221 (.cellA Z ty110 HS CT (.tmp Z .nil)) ?_ ?_
  · rfl
  · exact SU
  refine x_alloc ty108 Z fun b9 => i1 4 Z <| xc fc28 (A1 Z) Z (coSlots) fun _ => i1 12 Z <| xc fc285 (A4 Z Z Z Z) Z (coCapG (s := s) (root := T.root) (a := a_) (kind := kind) PC ha) fun _ => ip 13 Z Z Z Z (p_move Z) <| ip 14 Z Z Z Z (p_extract Z Z) <| ip 15 Z Z Z Z (p_extract Z Z) <| ip 16 Z Z Z Z (p_extract Z Z) <| i1 19 Z <| x_store Z Z ty110 Z SM SM RO PT <| i1 20 Z <| x_store Z Z ty108 Z SM SM RO PT <| ip 21 Z Z Z Z (p_assign Z) <| i0 <| qx <| L_val Z (v_loadA Z ty110 HS CT) <| mv Z Z <| L_op <| x_store Z Z ty110 Z SM SM RO PT <| ag Z Z <| nq <| J_ret <| J_pick (A := blk a _ _) PC <| J_asTo (B := actA a p T q i) (by rfl) <| J_return (()) Tryz.results221 (.cellA Z ty110 HS CT (.tmp Z .nil)) ?_ ?_
  · rfl
  · exact SU
  refine x_alloc ty108 Z fun b9 => I_ready (rs := [4, 17]) SI (by kernel_rfl) (by simp) <| (I_cons Z ?_ (I_cons Z ?_ I_nil))
  refine xc fc28 (A1 Z) Z (coSlots) fun _ => I_ready (rs := [12, 17]) SI (by kernel_rfl) (by simp) <| (I_cons Z ?_ (I_cons Z ?_ I_nil))
  refine xc fc285 (A4 Z Z Z Z) Z (coCapG (s := s) (root := T.root) (a := a_) (kind := kind) PC ha) fun _ => ip 13 Z Z Z Z (p_move Z) <| ip 14 Z Z Z Z (p_extract Z Z) <| ip 15 Z Z Z Z (p_extract Z Z) <| ip 16 Z Z Z Z (p_extract Z Z) <| i1 17 Z <| x_alloc ty110 Z fun b8 => i1 19 Z <| x_store Z Z ty110 Z SM SM RO PT <| i1 20 Z <| x_store Z Z ty108 Z SM SM RO PT <| ip 21 Z Z Z Z (p_assign Z) <| i0 <| qx <| L_val Z (v_loadA Z ty110 HS CT) <| mv Z Z <| L_op <| x_store Z Z ty110 Z SM SM RO PT <| ag Z Z <| nq <| J_ret <| J_pick (A := blk a _ _) PC <| J_asTo (B := actA a p T q i) (by rfl) <| J_return (()) Tryz.results221 (.cellA Z ty110 HS CT (.tmp Z .nil)) ?_ ?_
  · rfl
  · exact SU
  refine x_alloc ty110 Z fun b8 => i1 12 Z <| xc fc285 (A4 Z Z Z Z) Z (coCapG (s := s) (root := T.root) (a := a_) (kind := kind) PC ha) fun _ => ip 13 Z Z Z Z (p_move Z) <| ip 14 Z Z Z Z (p_extract Z Z) <| ip 15 Z Z Z Z (p_extract Z Z) <| ip 16 Z Z Z Z (p_extract Z Z) <| i1 19 Z <| x_store Z Z ty110 Z SM SM RO PT <| i1 20 Z <| x_store Z Z ty108 Z SM SM RO PT <| ip 21 Z Z Z Z (p_assign Z) <| i0 <| qx <| L_val Z (v_loadA Z ty110 HS CT) <| mv Z Z <| L_op <| x_store Z Z ty110 Z SM SM RO PT <| ag Z Z <| nq <| J_ret <| J_pick (A := blk a _ _) PC <| J_asTo (B := actA a p T q i) (by rfl) <| J_return (()) Tryz.results221 (.cellA Z ty110 HS CT (.tmp Z .nil)) ?_ ?_
  · rfl
  · exact SU
  refine x_alloc ty110 Z fun b8 => i1 4 Z <| xc fc28 (A1 Z) Z (coSlots) fun _ => i1 12 Z <| xc fc285 (A4 Z Z Z Z) Z (coCapG (s := s) (root := T.root) (a := a_) (kind := kind) PC ha) fun _ => ip 13 Z Z Z Z (p_move Z) <| ip 14 Z Z Z Z (p_extract Z Z) <| ip 15 Z Z Z Z (p_extract Z Z) <| ip 16 Z Z Z Z (p_extract Z Z) <| i1 19 Z <| x_store Z Z ty110 Z SM SM RO PT <| i1 20 Z <| x_store Z Z ty108 Z SM SM RO PT <| ip 21 Z Z Z Z (p_assign Z) <| i0 <| qx <| L_val Z (v_loadA Z ty110 HS CT) <| mv Z Z <| L_op <| x_store Z Z ty110 Z SM SM RO PT <| ag Z Z <| nq <| J_ret <| J_pick (A := blk a _ _) PC <| J_asTo (B := actA a p T q i) (by rfl) <| J_return (()) Tryz.results221 (.cellA Z ty110 HS CT (.tmp Z .nil)) ?_ ?_
  · rfl
  · exact SU
theorem mayG {a p : Nat} {q : Rq} (hp : Picks [actA a p T q i, coA p s] l m) (hE : SqeOk q.e) :
    Con Tryz.prog 224 #[.pointer (some ⟨a, 0, none⟩), .int .i64 kind, .int .i64 r] E l (fun _ : Unit => .tuple #[.agg (encC (mayS s T q.e kind r).1).toArray, .int .i64 (mayS s T q.e kind r).2]) (fun _ => actA a p T q i :: coA p s :: m) := by
  refine Con.body (n := 35) Tryz.func224 Z Z _ (env_ok 3 Z) <| J_picks2 hp <| J_act <| sr <| L_op <| x_alloc ty110 Z fun b6 => ag Z Z <| nx <| mv Z Z <| mv Z Z <| nc Z Z <| fa Z Z fa279_2 <| fa Z Z fa122_1 <| fa Z Z fa34_3 <| L_val Z (v_load Z ty22 HS (by exact rfl)) <| J_pick (A := blk a _ _) PC <| J_asTo (B := actA a p T q i) (by rfl) <| mv Z Z <| xo fc221 (A3 Z Z Z) Z (foundG (a_ := q.e.cap) (kind := kind) PX hE.cap) fun _ => mv Z Z <| L_pur Z (p_extract Z Z) <| L_pur Z (p_extract Z Z) <| L_op <| x_alloc ty110 Z fun b8 => L_op <| x_store Z Z ty110 Z SM SM RO PT <| J_pick (A := blk b8 _ _) PC <| J_asTo (B := blk b8 110 (encC (kCap s.sl T.root q.e.cap kind).1)) (by rfl) <| ag Z Z <| nxx <| mv Z Z <| L_pur Z (p_eql Z Z) <| mv Z Z <| J_gsplit (t := 24) Z (fun h24 => ?_) (fun h24 => ?_)
  refine gp Z Z Z (p_fieldAddr Z fa110_4) Z <| L_op <| G_on Z Z Z <| J_val (v_load Z ty3 HS (by exact rfl)) Z Z Z <| gp Z Z Z (p_move Z) Z <| gp Z Z Z (p_and Z Z) Z <| L_op <| G_on Z Z Z <| J_pur (p_move Z) Z Z Z <| gp Z Z Z (p_neq Z Z) Z <| L_pur Z (p_pick_t Z Z) <| nq <| C_split Z (fun h31 => ?_) (fun h31 => ?_)
  refine J_seq ?_
  have hmy : (mayS s T q.e kind r) = (c0, 6) := by unfold mayS; exact if_pos ⟨by simpa using h24, by simpa using h31⟩
  refine J_region <| L_pur Z (bld110 .nil (by repeat constructor)) <| L_op <| x_store Z Z ty110 Z SM SM RO PT <| ag Z Z <| nq <| J_ret <| Q_then_ret <| J_return (()) Tryz.results224 (.cellA Z ty110 HS CT (.tmp Z .nil)) ?_ ?_
  · rw [hmy]; rfl
  · exact SU
  refine J_skip <| Q_then <| J_seq ?_
  have hmy : (mayS s T q.e kind r) = ((kCap s.sl T.root q.e.cap kind).1, (kCap s.sl T.root q.e.cap kind).2.2) := by unfold mayS; exact if_neg (fun e => by first | exact absurd e.1 (by simpa using h24) | exact absurd e.2 (by simpa using h31))
  refine J_region <| L_val Z (v_loadA Z ty110 HS CT) <| mv Z Z <| L_op <| x_store Z Z ty110 Z SM SM RO PT <| ag Z Z <| nq <| J_ret <| J_return (()) Tryz.results224 (.cellA Z ty110 HS CT (.tmp Z .nil)) ?_ ?_
  · rw [hmy]; rfl
  · exact SU
  refine gz Z Z Z Z Z <| gz Z Z Z Z Z <| gz Z Z Z Z Z <| gz Z Z Z Z Z <| gz Z Z Z Z Z <| gz Z Z Z Z Z <| L_pur Z (p_pick_f Z Z) <| nq <| C_false Z <| J_skip <| Q_then <| J_seq ?_
  have hmy : (mayS s T q.e kind r) = ((kCap s.sl T.root q.e.cap kind).1, (kCap s.sl T.root q.e.cap kind).2.2) := by unfold mayS; exact if_neg (fun e => by first | exact absurd e.1 (by simpa using h24) | exact absurd e.2 (by simpa using h31))
  refine J_region <| L_val Z (v_loadA Z ty110 HS CT) <| mv Z Z <| L_op <| x_store Z Z ty110 Z SM SM RO PT <| ag Z Z <| nq <| J_ret <| J_return (()) Tryz.results224 (.cellA Z ty110 HS CT (.tmp Z .nil)) ?_ ?_
  · rw [hmy]; rfl
  · exact SU
theorem twoG {a p : Nat} {q : Rq} {D : Place → Place → As} {F : Place → Place → KS × Int} {g : FuncId} {caps : Array Value} {fn : Func} (hf : Tryz.prog.funcs[g]? = some fn) (hn : (fn.name == "runtime.NumGoroutine") = false) (hb : fn.body.isNone = false) (hg : ∀ (l m : List As) (x y : Place), Picks [actA a p T q i, C, coA p s] l m → Con Tryz.prog g (#[.agg (encI x).toArray, .agg (encI y).toArray] ++ caps) E l (fun _ : Unit => .int .i64 (F x y).2) (fun _ => actA a p T q i :: D x y :: coA p (F x y).1 :: m)) (hp : Picks [actA a p T q i, C, coA p s] l m) (hE : SqeOk q.e) (hc : ∀ x y, 0 ≤ (F x y).2 ∧ (F x y).2 ≤ 100) :
    Con Tryz.prog 206 #[.pointer (some ⟨a, 0, none⟩), .func (.func g) #[] caps] E l (fun _ : Unit => encE (some (-(twoS s F (twoAt s T q.e)).2, 0))) (fun _ => actA a p T q i :: twoC C D (twoAt s T q.e) :: coA p (twoS s F (twoAt s T q.e)).1 :: m) := by
  refine Con.body (n := 43) Tryz.func206 Z Z _ (env_ok 2 Z) <| J_picks3 hp <| J_pick (A := actA a p T q i) PC <| J_act <| sr <| L_op <| x_alloc ty276 Z fun b4 => nx <| mv Z Z <| mv Z Z <| nc Z Z <| fa Z Z fa279_2 <| fa Z Z fa122_1 <| fa Z Z fa34_3 <| L_val Z (v_load Z ty22 HS (by exact rfl)) <| J_pick (A := blk a _ _) PC <| J_asTo (B := actA a p T q i) (by rfl) <| xo fc271 (A2 Z Z) Z (placeG (a_ := q.e.cap) PX hE.cap) fun _ => mv Z Z <| L_pur Z (p_extract Z Z) <| L_pur Z (p_extract Z Z) <| L_op <| x_alloc ty108 Z fun b5 => L_op <| x_store Z Z ty108 Z SM SM RO PT <| ag Z Z <| nxx <| mv Z Z <| L_pur Z (p_neq Z Z) <| nq <| C_split Z (fun h20 => ?_) (fun h20 => ?_)
  have hf1 : (kFind s.sl T.root q.e.cap) = none := by
    cases hq : (kFind s.sl T.root q.e.cap) with
    | none => rfl
    | some y => rw [hq] at h20; simp at h20
  have htw : (twoAt s T q.e) = none := by unfold twoAt; rw [hf1]
  refine J_slot (t := 6) (v := .int .i64 (2)) Z (by rw [hf1]; rfl) <| sr <| mv Z Z <| xo fc167 (A1 Z) Z (failsC (by decide)) fun _ => L_op <| x_store Z Z ty276 Z SM SM RO PT <| nq <| J_ret <| Q_then_ret <| J_pick (A := coA p _) PC <| J_asTo (B := coA p (twoS s F (twoAt s T q.e)).1) (by rw [htw]; try rfl) <| J_pick (A := C) PC <| J_asTo (B := twoC C D (twoAt s T q.e)) (by rw [htw]; try rfl) <| J_pick (A := actA a p T q i) PC <| J_return (()) Tryz.results206 (.cellA Z ty276 HS CT .nil) ?_ ?_
  · rw [htw]; rfl
  · exact SU
  obtain ⟨x, hf1⟩ : ∃ x, (kFind s.sl T.root q.e.cap) = some x := by
    cases hq : (kFind s.sl T.root q.e.cap) with
    | none => rw [hq] at h20; simp at h20
    | some y => exact ⟨y, rfl⟩
  refine J_pick (A := blk b5 _ _) PC <| J_asTo (B := blk b5 108 (encI x)) (by rw [hf1]; rfl) <| J_skip <| Q_then <| J_seq <| J_pick (A := actA a p T q i) PC <| J_act <| J_region <| mv Z Z <| mv Z Z <| nc Z Z <| fa Z Z fa279_2 <| fa Z Z fa122_1 <| fa Z Z fa34_4 <| L_val Z (v_load Z ty22 HS (by exact rfl)) <| J_pick (A := blk a _ _) PC <| J_asTo (B := actA a p T q i) (by rfl) <| xo fc271 (A2 Z Z) Z (placeG (a_ := q.e.a) PX hE.a) fun _ => mv Z Z <| L_pur Z (p_extract Z Z) <| L_pur Z (p_extract Z Z) <| L_op <| x_alloc ty108 Z fun b7 => L_op <| x_store Z Z ty108 Z SM SM RO PT <| ag Z Z <| nxx <| mv Z Z <| L_pur Z (p_neq Z Z) <| nq <| C_split Z (fun h35 => ?_) (fun h35 => ?_)
  have hf2 : (kFind s.sl T.root q.e.a) = none := by
    cases hq : (kFind s.sl T.root q.e.a) with
    | none => rfl
    | some y => rw [hq] at h35; simp at h35
  have htw : (twoAt s T q.e) = none := by unfold twoAt; rw [hf1]; dsimp only; rw [hf2]
  refine J_slot (t := 6) (v := .int .i64 (2)) Z (by rw [hf2]; rfl) <| sr <| mv Z Z <| xo fc167 (A1 Z) Z (failsC (by decide)) fun _ => L_op <| x_store Z Z ty276 Z SM SM RO PT <| nq <| J_ret <| Q_then_ret <| J_pick (A := coA p _) PC <| J_asTo (B := coA p (twoS s F (twoAt s T q.e)).1) (by rw [htw]; try rfl) <| J_pick (A := C) PC <| J_asTo (B := twoC C D (twoAt s T q.e)) (by rw [htw]; try rfl) <| J_pick (A := actA a p T q i) PC <| J_return (()) Tryz.results206 (.cellA Z ty276 HS CT .nil) ?_ ?_
  · rw [htw]; rfl
  · exact SU
  obtain ⟨y, hf2⟩ : ∃ x, (kFind s.sl T.root q.e.a) = some x := by
    cases hq : (kFind s.sl T.root q.e.a) with
    | none => rw [hq] at h35; simp at h35
    | some y => exact ⟨y, rfl⟩
  have htw : (twoAt s T q.e) = some (x, y) := by unfold twoAt; rw [hf1]; dsimp only; rw [hf2]
  refine J_pick (A := blk b7 _ _) PC <| J_asTo (B := blk b7 108 (encI y)) (by rw [hf2]; rfl) <| J_skip <| qx <| mv Z Z <| L_val Z (v_loadA Z ty108 HS CT) <| L_val Z (v_loadA Z ty108 HS CT) <| L_op <| x_callc Z hf hn hb (.cons Z (.cons Z .nil)) Z (hg _ _ x y PX) fun _ => xo fc167 (A1 Z) Z (failsC (hc x y)) fun _ => L_op <| x_store Z Z ty276 Z SM SM RO PT <| nq <| J_ret <| J_pick (A := coA p _) PC <| J_asTo (B := coA p (twoS s F (twoAt s T q.e)).1) (by rw [htw]; try rfl) <| J_pick (A := D x y) PC <| J_asTo (B := twoC C D (twoAt s T q.e)) (by rw [htw]; try rfl) <| J_pick (A := actA a p T q i) PC <| J_return (()) Tryz.results206 (.cellA Z ty276 HS CT .nil) ?_ ?_
  · rw [htw]; rfl
  · exact SU
theorem killsG {a p : Nat} {q : Rq} {F : Place → (List (Place × SV) × List Obj2) × Int} {g : FuncId} {caps : Array Value} {fn : Func} (hf : Tryz.prog.funcs[g]? = some fn) (hn : (fn.name == "runtime.NumGoroutine") = false) (hb : fn.body.isNone = false) (hg : ∀ (l m : List As) (x : Place), Picks [C, coA p s] l m → Con Tryz.prog g (#[.agg (encI x).toArray] ++ caps) E l (fun v : Value => .tuple #[v, .int .i64 (F x).2]) (fun v => row 449 2 v (((F x).1.2).map encI) :: C :: coA p { s with sl := (F x).1.1 } :: m)) (hp : Picks [actA a p T q i, C, coA p s] l m) (hE : SqeOk q.e) (hc : ∀ x, 0 ≤ (F x).2 ∧ (F x).2 ≤ 100) (hF : Fits s N M) (hM : M ≤ 45000) (hq : s.q.length ≤ 90000) (hz : s.mp.length ≤ 1000000) (hg0 : s.rg.length ≤ 1000) :
    Con Tryz.prog 213 #[.pointer (some ⟨a, 0, none⟩), .func (.func g) #[] caps] E l (fun _ : Unit => encE (some (-(killS s F (kFind s.sl T.root q.e.cap)).2, 0))) (fun _ => actA a p T q i :: C :: coA p (killS s F (kFind s.sl T.root q.e.cap)).1 :: m) := by
  refine Con.body (n := 37) Tryz.func213 Z Z _ (env_ok 2 Z) <| J_picks3 hp <| J_pick (A := actA a p T q i) PC <| J_act <| sr <| L_op <| x_alloc ty276 Z fun b4 => nx <| mv Z Z <| mv Z Z <| nc Z Z <| fa Z Z fa279_2 <| fa Z Z fa122_1 <| fa Z Z fa34_3 <| L_val Z (v_load Z ty22 HS (by exact rfl)) <| J_pick (A := blk a _ _) PC <| J_asTo (B := actA a p T q i) (by rfl) <| xo fc271 (A2 Z Z) Z (placeG (a_ := q.e.cap) PX hE.cap) fun _ => mv Z Z <| L_pur Z (p_extract Z Z) <| L_pur Z (p_extract Z Z) <| L_op <| x_alloc ty108 Z fun b5 => L_op <| x_store Z Z ty108 Z SM SM RO PT <| ag Z Z <| nxx <| mv Z Z <| L_pur Z (p_neq Z Z) <| nq <| C_split Z (fun h20 => ?_) (fun h20 => ?_)
  have hf1 : (kFind s.sl T.root q.e.cap) = none := by
    cases hq : (kFind s.sl T.root q.e.cap) with
    | none => rfl
    | some y => rw [hq] at h20; simp at h20
  refine J_slot (t := 6) (v := .int .i64 (2)) Z (by rw [hf1]; rfl) <| sr <| mv Z Z <| xo fc167 (A1 Z) Z (failsC (by decide)) fun _ => L_op <| x_store Z Z ty276 Z SM SM RO PT <| nq <| J_ret <| Q_then_ret <| J_pick (A := coA p _) PC <| J_asTo (B := coA p (killS s F (kFind s.sl T.root q.e.cap)).1) (by rw [hf1]; try rfl) <| J_pick (A := C) PC <| J_pick (A := actA a p T q i) PC <| J_return (()) Tryz.results213 (.cellA Z ty276 HS CT .nil) ?_ ?_
  · rw [hf1]; rfl
  · exact SU
  obtain ⟨x, hf1⟩ : ∃ x, (kFind s.sl T.root q.e.cap) = some x := by
    cases hq : (kFind s.sl T.root q.e.cap) with
    | none => rw [hq] at h20; simp at h20
    | some y => exact ⟨y, rfl⟩
  refine J_pick (A := blk b5 _ _) PC <| J_asTo (B := blk b5 108 (encI x)) (by rw [hf1]; rfl) <| J_skip <| qx <| mv Z Z <| L_val Z (v_loadA Z ty108 HS CT) <| L_op <| x_callc Z hf hn hb (.cons Z .nil) Z (hg _ _ x PX) fun v26 => mv Z Z <| L_pur Z (p_extract Z Z) <| L_pur Z (p_extract Z Z) <| ag Z Z <| ag Z Z <| nq <| J_seq <| J_pick (A := actA a p T q i) PC <| J_act <| J_region <| mv Z Z <| nc Z Z <| fa Z Z fa279_0 <| L_val Z (v_load Z ty24 HS (by exact rfl)) <| J_pick (A := blk a _ _) PC <| J_asTo (B := actA a p T q i) (by rfl) <| mv Z Z <| xo fc276 (A2 Z Z) Z (coDestroyG (s := { s with sl := (F x).1.1 }) (os := (F x).1.2) PX ⟨hF.n, hF.mm, hF.ids, hF.jn, hF.tm, hF.ep, hF.nt, hF.rp, hF.rg, hF.mem⟩ hM hq hz hg0) fun _ => nx <| mv Z Z <| xo fc167 (A1 Z) Z (failsC (hc x)) fun _ => L_op <| x_store Z Z ty276 Z SM SM RO PT <| nq <| J_ret <| J_pick (A := coA p _) PC ?_
  refine J_asTo (B := coA p (killS s F (kFind s.sl T.root q.e.cap)).1) (by rw [hf1]; try rfl) <| J_pick (A := C) PC <| J_pick (A := actA a p T q i) PC <| J_return (()) Tryz.results213 (.cellA Z ty276 HS CT .nil) ?_ ?_
  · rw [hf1]; rfl
  · exact SU
def scP (_ _ _ : Nat) (_ : Sqe)  : Prop := True
def scL (c3 c4 p : Nat) (e : Sqe)  : List As := [blk c3 58 [.pointer (some ⟨p, 6, none⟩)], blk c4 34 [.int .i64 e.op, .int .i64 e.flags, .int .u32 e.tag, .int .u32 e.cap, .int .u32 e.a, .int .u32 e.b, .int .u32 e.c, .int .u32 e.time]]
def scA (c3 c4 p : Nat) (e : Sqe) : As := As.ex fun g : Unit => As.all (As.pure (scP c3 c4 p e ) :: scL c3 c4 p e )
variable {c3 : Nat}
theorem J_scO {c4 : Nat} (k : ∀ (_ : Unit), scP c3 c4 p e  → Jk E (blk c3 58 [.pointer (some ⟨p, 6, none⟩)] :: blk c4 34 [.int .i64 e.op, .int .i64 e.flags, .int .u32 e.tag, .int .u32 e.cap, .int .u32 e.a, .int .u32 e.b, .int .u32 e.c, .int .u32 e.time] :: l) n F K) : Jk E (scA c3 c4 p e :: l) n F K := J_unfold (f := fun g : Unit => As.all (As.pure (scP c3 c4 p e ) :: scL c3 c4 p e )) (fun _ => rfl) (fun g h => k () h)
theorem J_scS {c4 : Nat}  (hs : Picks [blk c3 58 [.pointer (some ⟨p, 6, none⟩)], blk c4 34 [.int .i64 e.op, .int .i64 e.flags, .int .u32 e.tag, .int .u32 e.cap, .int .u32 e.a, .int .u32 e.b, .int .u32 e.c, .int .u32 e.time]] l m) (h : scP c3 c4 p e ) (k : Jk E (scA c3 c4 p e :: m) n F K) : Jk E l n F K := J_fold (f := fun g : Unit => As.all (As.pure (scP c3 c4 p e ) :: scL c3 c4 p e )) () rfl hs h k
def rcP (_ _ _ : Nat) (_ : Cap)  : Prop := True
def rcL (b1 b3 a : Nat) (c : Cap)  : List As := [blk b1 277 [.pointer (some ⟨a, 0, none⟩)], blk b3 110 (encC c)]
def rcA (b1 b3 a : Nat) (c : Cap) : As := As.ex fun g : Unit => As.all (As.pure (rcP b1 b3 a c ) :: rcL b1 b3 a c )
theorem J_rcO {b1 b3 a : Nat} {c : Cap} (k : ∀ (_ : Unit), rcP b1 b3 a c  → Jk E (blk b1 277 [.pointer (some ⟨a, 0, none⟩)] :: blk b3 110 (encC c) :: l) n F K) : Jk E (rcA b1 b3 a c :: l) n F K := J_unfold (f := fun g : Unit => As.all (As.pure (rcP b1 b3 a c ) :: rcL b1 b3 a c )) (fun _ => rfl) (fun g h => k () h)
theorem J_rcS {b1 b3 a : Nat} {c : Cap}  (hs : Picks [blk b1 277 [.pointer (some ⟨a, 0, none⟩)], blk b3 110 (encC c)] l m) (h : rcP b1 b3 a c ) (k : Jk E (rcA b1 b3 a c :: m) n F K) : Jk E l n F K := J_fold (f := fun g : Unit => As.all (As.pure (rcP b1 b3 a c ) :: rcL b1 b3 a c )) () rfl hs h k
def copyF (s : KS) (e : Sqe) (x y : Place) : KS × Int := ({ s with sl := (copyS s.sl x y e.b).1 }, (copyS s.sl x y e.b).2)
def mintF (s : KS) (e : Sqe) (x y : Place) : KS × Int := ({ s with sl := (mintS s.sl x y e.b).1 }, (mintS s.sl x y e.b).2)
def moveF (s : KS) (x y : Place) : KS × Int := ({ s with sl := (dmoveS s.sl x y).1 }, (dmoveS s.sl x y).2)
def retF (s : KS) (e : Sqe) (x y : Place) : KS × Int := ({ s with sl := (makeS s.sl s.mr x y e.b e.c).1.1, mr := (makeS s.sl s.mr x y e.b e.c).1.2 }, (makeS s.sl s.mr x y e.b e.c).2.2)
def kSlots (s : KS) (T : Th) (e : Sqe) : KS × Int :=
  if e.op = 2 then twoS s (copyF s e) (twoAt s T e) else if e.op = 3 then twoS s (mintF s e) (twoAt s T e) else if e.op = 4 then twoS s (moveF s) (twoAt s T e)
  else if e.op = 5 then killS s (deleteS s.sl) (kFind s.sl T.root e.cap) else killS s (revokeS s.sl) (kFind s.sl T.root e.cap)
def kRetC (s : KS) (T : Th) (e : Sqe) : Int := (twoS s (retF s e) (twoAt s T e)).2
def kRetK (s : KS) (T : Th) (e : Sqe) : Cap := match twoAt s T e with
  | none => c0
  | some x => (makeS s.sl s.mr x.1 x.2 e.b e.c).2.1
def kRetS (s : KS) (T : Th) (e : Sqe) (b : Nat) : KS := if kRetC s T e = 0 then kMade (twoS s (retF s e) (twoAt s T e)).1 (kRetK s T e) b else (twoS s (retF s e) (twoAt s T e)).1
def kRetV (s : KS) (T : Th) (e : Sqe) : Int := if kRetC s T e = 0 then (kRetK s T e).obj else 0
theorem makeS_obj {mr : List (Place × Int)} {p q : Place} (hc : CapsOk ps) (hm : MarksOk mr) (h : (makeS ps mr p q k z).2.2 = 0) : 1 ≤ (makeS ps mr p q k z).2.1.obj ∧ (makeS ps mr p q k z).2.1.obj ≤ 64 := by
  unfold makeS at h ⊢
  split at h
  · simp at h
  · rename_i u hu
    have hcu := checkC_is (hc _ (mem_look hu))
    dsimp only at hcu
    split at h
    · simp at h
    · rename_i h1
      split at h
      · simp at h
      · rename_i h2
        split at h
        · simp at h
        · rename_i h3
          split at h
          · rename_i h4; exact absurd h h4
          · rename_i h4
            split at h
            · rename_i h5
              rw [if_neg h1, if_neg h2, if_neg h3, if_neg h4, if_pos h5]
              have hus := usedM_is (hm.reset ps u.1) (rangeC u.1)
              have hk1 : u.1.kind = 1 := by simpa using h1
              have hr : rangeC u.1 = (u.1.obj, u.1.size) := if_neg h1
              have hto := h5
              unfold mtkOk at hto
              simp only [Bool.and_eq_true, decide_eq_true_eq, hr] at hto
              show 1 ≤ mtkV _ _ _ ∧ mtkV _ _ _ ≤ 64
              unfold mtkV
              rw [if_pos h5, hr]
              rw [hr] at hus
              have := hcu.2.2 hk1
              dsimp only
              omega
            · simp at h
variable {x y : Place}
theorem clo1 {a p c3 c4 : Nat} {q : Rq} (hp : Picks [actA a p T q i, scA c3 c4 p q.e, coA p s] l m) (hE : in32 q.e.b) :
    Con Tryz.prog 207 #[.agg (encI x).toArray, .agg (encI y).toArray, .pointer (some ⟨c3, 0, none⟩), .pointer (some ⟨c4, 0, none⟩)] E l (fun _ : Unit => .int .i64 (copyF s q.e x y).2) (fun _ => actA a p T q i :: scA c3 c4 p q.e :: coA p (copyF s q.e x y).1 :: m) := by
  refine Con.body (n := 14) Tryz.func207 Z Z _ (env_ok 4 Z) <| J_picks3 hp <| J_pick (A := scA c3 c4 p q.e) PC <| J_scO fun _ _ => sr <| L_op <| x_box Z Z Z fun b4 => L_op <| x_box Z Z Z fun b5 => ag Z Z <| nx <| L_val Z (v_load Z ty58 HS (by exact rfl)) <| L_val Z (v_loadA Z ty108 HS CT) <| L_val Z (v_loadA Z ty108 HS CT) <| fa Z Z fa34_5 <| L_val Z (v_load Z ty22 HS (by exact rfl)) <| L_pur Z (p_conv Z Tryz.underlying22 Tryz.underlying3) <| J_slot (t := 12) (v := .int .i64 (q.e.b)) Z (by rw [wrap64_of (by have := hE.1; have := hE.2; omega)]) <| xo fc208 (A4 Z Z Z Z) Z (coCopyG (s := s) (xp := x) (yp := y) (r := q.e.b) PC) fun _ => ag Z Z <| nq <| J_ret <| J_scS (c3 := c3) (c4 := c4) (p := p) (e := q.e) PX trivial <| J_pick (A := actA a p T q i) PC <| J_return (()) Tryz.results207 (.tmp Z .nil) ?_ ?_
  · rfl
  · exact SU
theorem clo2 {a p c3 c4 : Nat} {q : Rq} (hp : Picks [actA a p T q i, scA c3 c4 p q.e, coA p s] l m) (hE : in32 q.e.b) :
    Con Tryz.prog 209 #[.agg (encI x).toArray, .agg (encI y).toArray, .pointer (some ⟨c3, 0, none⟩), .pointer (some ⟨c4, 0, none⟩)] E l (fun _ : Unit => .int .i64 (mintF s q.e x y).2) (fun _ => actA a p T q i :: scA c3 c4 p q.e :: coA p (mintF s q.e x y).1 :: m) := by
  refine Con.body (n := 13) Tryz.func209 Z Z _ (env_ok 4 Z) <| J_picks3 hp <| J_pick (A := scA c3 c4 p q.e) PC <| J_scO fun _ _ => sr <| L_op <| x_box Z Z Z fun b4 => L_op <| x_box Z Z Z fun b5 => ag Z Z <| nx <| L_val Z (v_load Z ty58 HS (by exact rfl)) <| L_val Z (v_loadA Z ty108 HS CT) <| L_val Z (v_loadA Z ty108 HS CT) <| fa Z Z fa34_5 <| L_val Z (v_load Z ty22 HS (by exact rfl)) <| xo fc210 (A4 Z Z Z Z) Z (coMintG (s := s) (xp := x) (yp := y) (r := q.e.b) PC hE) fun _ => ag Z Z <| nq <| J_ret <| J_scS (c3 := c3) (c4 := c4) (p := p) (e := q.e) PX trivial <| J_pick (A := actA a p T q i) PC <| J_return (()) Tryz.results209 (.tmp Z .nil) ?_ ?_
  · rfl
  · exact SU
theorem clo3 {a p c3 : Nat} {q : Rq} (hp : Picks [actA a p T q i, blk c3 58 [.pointer (some ⟨p, 6, none⟩)], coA p s] l m) (hsl : s.sl.length ≤ 100000) :
    Con Tryz.prog 211 #[.agg (encI x).toArray, .agg (encI y).toArray, .pointer (some ⟨c3, 0, none⟩)] E l (fun _ : Unit => .int .i64 (moveF s x y).2) (fun _ => actA a p T q i :: blk c3 58 [.pointer (some ⟨p, 6, none⟩)] :: coA p (moveF s x y).1 :: m) := by
  refine Con.body (n := 10) Tryz.func211 Z Z _ (env_ok 3 Z) <| J_picks3 hp <| sr <| L_op <| x_box Z Z Z fun b3 => L_op <| x_box Z Z Z fun b4 => ag Z Z <| nx <| L_val Z (v_load Z ty58 HS (by exact rfl)) <| L_val Z (v_loadA Z ty108 HS CT) <| L_val Z (v_loadA Z ty108 HS CT) <| xo fc212 (A3 Z Z Z) Z (coMoveG (s := s) (xp := x) (yp := y) PC hsl) fun _ => ag Z Z <| nq <| J_ret <| J_return (()) Tryz.results211 (.tmp Z .nil) ?_ ?_
  · rfl
  · exact SU
theorem clo4 (hp : Picks [blk c3 58 [.pointer (some ⟨p, 6, none⟩)], coA p s] l m) (hsl : s.sl.length ≤ 100000) :
    Con Tryz.prog 214 #[.agg (encI x).toArray, .pointer (some ⟨c3, 0, none⟩)] E l (fun v : Value => .tuple #[v, .int .i64 (deleteS s.sl x).2]) (fun v => row 449 2 v (((deleteS s.sl x).1.2).map encI) :: blk c3 58 [.pointer (some ⟨p, 6, none⟩)] :: coA p { s with sl := (deleteS s.sl x).1.1 } :: m) := by
  refine Con.body (n := 10) Tryz.func214 Z Z _ (env_ok 2 Z) <| J_picks2 hp <| sr <| L_op <| x_box Z Z Z fun b2 => ag Z Z <| ag Z Z <| nx <| L_val Z (v_load Z ty58 HS (by exact rfl)) <| L_val Z (v_loadA Z ty108 HS CT) <| xo fc215 (A2 Z Z) Z (coDeleteG (s := s) (xp := x) PC hsl) fun w7 => L_pur Z (p_extract Z Z) <| L_pur Z (p_extract Z Z) <| ag Z Z <| ag Z Z <| nq <| J_ret <| J_return (w7) Tryz.results214 (.tmp Z (.tmp Z .nil)) ?_ ?_
  · rfl
  · exact SU
theorem clo5 (hp : Picks [blk c3 58 [.pointer (some ⟨p, 6, none⟩)], coA p s] l m) (hsl : s.sl.length ≤ 100000) (hR : RevOk s.sl x) :
    Con Tryz.prog 216 #[.agg (encI x).toArray, .pointer (some ⟨c3, 0, none⟩)] E l (fun v : Value => .tuple #[v, .int .i64 (revokeS s.sl x).2]) (fun v => row 449 2 v (((revokeS s.sl x).1.2).map encI) :: blk c3 58 [.pointer (some ⟨p, 6, none⟩)] :: coA p { s with sl := (revokeS s.sl x).1.1 } :: m) := by
  refine Con.body (n := 10) Tryz.func216 Z Z _ (env_ok 2 Z) <| J_picks2 hp <| sr <| L_op <| x_box Z Z Z fun b2 => ag Z Z <| ag Z Z <| nx <| L_val Z (v_load Z ty58 HS (by exact rfl)) <| L_val Z (v_loadA Z ty108 HS CT) <| xo fc217 (A2 Z Z) Z (coRevokeG (s := s) (xp := x) PC hR hsl) fun w7 => L_pur Z (p_extract Z Z) <| L_pur Z (p_extract Z Z) <| ag Z Z <| ag Z Z <| nq <| J_ret <| J_return (w7) Tryz.results216 (.tmp Z (.tmp Z .nil)) ?_ ?_
  · rfl
  · exact SU
theorem slots2G {a p : Nat} {q : Rq} (hp : Picks [actA a p T q i, coA p s] l m) (hE : SqeOk q.e) (hop : q.e.op = 2) :
    Con Tryz.prog 156 #[.pointer (some ⟨a, 0, none⟩)] E l (fun _ : Unit => encE (some (-(kSlots s T q.e).2, 0))) (fun _ => actA a p T q i :: coA p (kSlots s T q.e).1 :: m) := by
  refine Con.body (n := 40) Tryz.func156 Z Z _ (env_ok 1 Z) <| J_picks2 hp <| J_act <| sr <| L_op <| x_alloc ty276 Z fun b2 => nq <| J_cut (α := Nat × Nat) (fun x : Nat × Nat => blk x.1 58 [.pointer (some ⟨p, 6, none⟩)] :: blk x.2 34 [.int .i64 q.e.op, .int .i64 q.e.flags, .int .u32 q.e.tag, .int .u32 q.e.cap, .int .u32 q.e.a, .int .u32 q.e.b, .int .u32 q.e.c, .int .u32 q.e.time] :: blk b2 276 [.int .i64 0, .int .u32 0, .bool false] :: actA a p T q i :: coA p s :: m) (fun x : Nat × Nat => [(0, .pointer (some ⟨a, 0, none⟩)), (2, .pointer (some ⟨b2, 0, none⟩)), (3, .pointer (some ⟨x.1, 0, none⟩)), (4, .pointer (some ⟨x.2, 0, none⟩))]) ?_ ?_
  refine J_drawL none mixed <| ip 0 Z Z Z Z (p_move Z) <| ip 1 Z Z Z Z (p_nilCheck Z) <| ip 2 Z Z Z Z (p_fieldAddr Z fa279_0) <| iv 3 Z Z Z Z (fun _ => v_load Z ty24 HS (by exact rfl)) <| ip 5 Z Z Z Z (p_move Z) <| ip 6 Z Z Z Z (p_nilCheck Z) <| ip 7 Z Z Z Z (p_fieldAddr Z fa279_2) <| ip 8 Z Z Z Z (p_fieldAddr Z fa122_1) <| iv 9 Z Z Z Z (fun _ => v_loadA Z ty34 HS CT) <| I_ready (rs := [4, 10, 11]) SI (by kernel_rfl) (by simp) <| (I_cons Z ?_ (I_cons Z ?_ (I_cons Z ?_ I_nil)))
  refine xc fc28 (A1 Z) Z (coSlots) fun _ => I_ready (rs := [10, 11]) SI (by kernel_rfl) (by simp) <| (I_cons Z ?_ (I_cons Z ?_ I_nil))
  refine x_alloc ty58 Z fun b3 => i1 11 Z <| x_alloc ty34 Z fun b4 => i1 12 Z <| x_store Z Z ty58 Z SM SM RO PT <| i1 13 Z <| x_store Z Z ty34 Z SM SM RO PT <| i0 <| Q_then <| J_pick (A := blk a _ _) PC <| J_asTo (B := actA a p T q i) (by rfl) <| J_pick (A := blk b4 _ _) PC <| J_asTo (B := blk b4 34 [.int .i64 q.e.op, .int .i64 q.e.flags, .int .u32 q.e.tag, .int .u32 q.e.cap, .int .u32 q.e.a, .int .u32 q.e.b, .int .u32 q.e.c, .int .u32 q.e.time]) (by rfl) ?_
  exact J_at (b3, b4) SU KE
  refine x_alloc ty34 Z fun b4 => i1 10 Z <| x_alloc ty58 Z fun b3 => i1 12 Z <| x_store Z Z ty58 Z SM SM RO PT <| i1 13 Z <| x_store Z Z ty34 Z SM SM RO PT <| i0 <| Q_then <| J_pick (A := blk a _ _) PC <| J_asTo (B := actA a p T q i) (by rfl) <| J_pick (A := blk b4 _ _) PC <| J_asTo (B := blk b4 34 [.int .i64 q.e.op, .int .i64 q.e.flags, .int .u32 q.e.tag, .int .u32 q.e.cap, .int .u32 q.e.a, .int .u32 q.e.b, .int .u32 q.e.c, .int .u32 q.e.time]) (by rfl) ?_
  exact J_at (b3, b4) SU KE
  refine x_alloc ty58 Z fun b3 => I_ready (rs := [4, 11]) SI (by kernel_rfl) (by simp) <| (I_cons Z ?_ (I_cons Z ?_ I_nil))
  refine xc fc28 (A1 Z) Z (coSlots) fun _ => i1 11 Z <| x_alloc ty34 Z fun b4 => i1 12 Z <| x_store Z Z ty58 Z SM SM RO PT <| i1 13 Z <| x_store Z Z ty34 Z SM SM RO PT <| i0 <| Q_then <| J_pick (A := blk a _ _) PC <| J_asTo (B := actA a p T q i) (by rfl) <| J_pick (A := blk b4 _ _) PC <| J_asTo (B := blk b4 34 [.int .i64 q.e.op, .int .i64 q.e.flags, .int .u32 q.e.tag, .int .u32 q.e.cap, .int .u32 q.e.a, .int .u32 q.e.b, .int .u32 q.e.c, .int .u32 q.e.time]) (by rfl) ?_
  exact J_at (b3, b4) SU KE
  refine x_alloc ty34 Z fun b4 => i1 4 Z <| xc fc28 (A1 Z) Z (coSlots) fun _ => i1 12 Z <| x_store Z Z ty58 Z SM SM RO PT <| i1 13 Z <| x_store Z Z ty34 Z SM SM RO PT <| i0 <| Q_then <| J_pick (A := blk a _ _) PC <| J_asTo (B := actA a p T q i) (by rfl) <| J_pick (A := blk b4 _ _) PC <| J_asTo (B := blk b4 34 [.int .i64 q.e.op, .int .i64 q.e.flags, .int .u32 q.e.tag, .int .u32 q.e.cap, .int .u32 q.e.a, .int .u32 q.e.b, .int .u32 q.e.c, .int .u32 q.e.time]) (by rfl) ?_
  exact J_at (b3, b4) SU KE
  refine x_alloc ty34 Z fun b4 => I_ready (rs := [4, 10]) SI (by kernel_rfl) (by simp) <| (I_cons Z ?_ (I_cons Z ?_ I_nil))
  refine xc fc28 (A1 Z) Z (coSlots) fun _ => i1 10 Z <| x_alloc ty58 Z fun b3 => i1 12 Z <| x_store Z Z ty58 Z SM SM RO PT <| i1 13 Z <| x_store Z Z ty34 Z SM SM RO PT <| i0 <| Q_then <| J_pick (A := blk a _ _) PC <| J_asTo (B := actA a p T q i) (by rfl) <| J_pick (A := blk b4 _ _) PC <| J_asTo (B := blk b4 34 [.int .i64 q.e.op, .int .i64 q.e.flags, .int .u32 q.e.tag, .int .u32 q.e.cap, .int .u32 q.e.a, .int .u32 q.e.b, .int .u32 q.e.c, .int .u32 q.e.time]) (by rfl) ?_
  exact J_at (b3, b4) SU KE
  refine x_alloc ty58 Z fun b3 => i1 4 Z <| xc fc28 (A1 Z) Z (coSlots) fun _ => i1 12 Z <| x_store Z Z ty58 Z SM SM RO PT <| i1 13 Z <| x_store Z Z ty34 Z SM SM RO PT <| i0 <| Q_then <| J_pick (A := blk a _ _) PC <| J_asTo (B := actA a p T q i) (by rfl) <| J_pick (A := blk b4 _ _) PC <| J_asTo (B := blk b4 34 [.int .i64 q.e.op, .int .i64 q.e.flags, .int .u32 q.e.tag, .int .u32 q.e.cap, .int .u32 q.e.a, .int .u32 q.e.b, .int .u32 q.e.c, .int .u32 q.e.time]) (by rfl) ?_
  exact J_at (b3, b4) SU KE
  intro x
  obtain ⟨b3, b4⟩ := x
  dsimp only
  refine J_seq <| J_seq ?_
  have hks : (kSlots s T q.e) = twoS s (copyF s q.e) (twoAt s T q.e) := by unfold kSlots; rw [if_pos hop]
  refine J_region <| fa Z Z fa34_0 <| L_val Z (v_load Z ty3 HS (by exact rfl)) <| nq <| J_block <| sr <| L_pur Z (p_eql Z Z) <| ag Z Z <| nq <| J_bool (t := 17) (c := true) Z (by simp [hop]) <| C_true Z <| J_seq <| J_scS (c3 := b3) (c4 := b4) (p := p) (e := q.e) PX trivial <| J_region <| mv Z Z <| L_pur Z (p_makeFunc (.cons Z (.cons Z .nil))) <| xo fc206 (A2 Z Z) Z (twoG (C := scA b3 b4 p q.e) (D := fun _ _ => scA b3 b4 p q.e) (F := copyF s q.e) Tryz.func207 nm207 bd207 (fun l m x y hp => clo1 hp hE.b) PX hE (fun x y => copyS_code)) fun _ => L_op <| x_store Z Z ty276 Z SM SM RO PT <| nq <| J_ret <| Q_blk_ret <| Q_then_ret <| J_pick (A := coA p _) PC <| J_asTo (B := coA p (kSlots s T q.e).1) (by rw [hks]) <| J_pick (A := actA a p T q i) PC <| J_return (()) Tryz.results156 (.cellA Z ty276 HS CT .nil) ?_ ?_
  · rw [hks]; rfl
  · exact SU
theorem slots3G {a p : Nat} {q : Rq} (hp : Picks [actA a p T q i, coA p s] l m) (hE : SqeOk q.e) (hop : q.e.op = 3) :
    Con Tryz.prog 156 #[.pointer (some ⟨a, 0, none⟩)] E l (fun _ : Unit => encE (some (-(kSlots s T q.e).2, 0))) (fun _ => actA a p T q i :: coA p (kSlots s T q.e).1 :: m) := by
  refine Con.body (n := 40) Tryz.func156 Z Z _ (env_ok 1 Z) <| J_picks2 hp <| J_act <| sr <| L_op <| x_alloc ty276 Z fun b2 => nq <| J_cut (α := Nat × Nat) (fun x : Nat × Nat => blk x.1 58 [.pointer (some ⟨p, 6, none⟩)] :: blk x.2 34 [.int .i64 q.e.op, .int .i64 q.e.flags, .int .u32 q.e.tag, .int .u32 q.e.cap, .int .u32 q.e.a, .int .u32 q.e.b, .int .u32 q.e.c, .int .u32 q.e.time] :: blk b2 276 [.int .i64 0, .int .u32 0, .bool false] :: actA a p T q i :: coA p s :: m) (fun x : Nat × Nat => [(0, .pointer (some ⟨a, 0, none⟩)), (2, .pointer (some ⟨b2, 0, none⟩)), (3, .pointer (some ⟨x.1, 0, none⟩)), (4, .pointer (some ⟨x.2, 0, none⟩))]) ?_ ?_
  refine J_drawL none mixed <| ip 0 Z Z Z Z (p_move Z) <| ip 1 Z Z Z Z (p_nilCheck Z) <| ip 2 Z Z Z Z (p_fieldAddr Z fa279_0) <| iv 3 Z Z Z Z (fun _ => v_load Z ty24 HS (by exact rfl)) <| ip 5 Z Z Z Z (p_move Z) <| ip 6 Z Z Z Z (p_nilCheck Z) <| ip 7 Z Z Z Z (p_fieldAddr Z fa279_2) <| ip 8 Z Z Z Z (p_fieldAddr Z fa122_1) <| iv 9 Z Z Z Z (fun _ => v_loadA Z ty34 HS CT) <| I_ready (rs := [4, 10, 11]) SI (by kernel_rfl) (by simp) <| (I_cons Z ?_ (I_cons Z ?_ (I_cons Z ?_ I_nil)))
  refine xc fc28 (A1 Z) Z (coSlots) fun _ => I_ready (rs := [10, 11]) SI (by kernel_rfl) (by simp) <| (I_cons Z ?_ (I_cons Z ?_ I_nil))
  refine x_alloc ty58 Z fun b3 => i1 11 Z <| x_alloc ty34 Z fun b4 => i1 12 Z <| x_store Z Z ty58 Z SM SM RO PT <| i1 13 Z <| x_store Z Z ty34 Z SM SM RO PT <| i0 <| Q_then <| J_pick (A := blk a _ _) PC <| J_asTo (B := actA a p T q i) (by rfl) <| J_pick (A := blk b4 _ _) PC <| J_asTo (B := blk b4 34 [.int .i64 q.e.op, .int .i64 q.e.flags, .int .u32 q.e.tag, .int .u32 q.e.cap, .int .u32 q.e.a, .int .u32 q.e.b, .int .u32 q.e.c, .int .u32 q.e.time]) (by rfl) ?_
  exact J_at (b3, b4) SU KE
  refine x_alloc ty34 Z fun b4 => i1 10 Z <| x_alloc ty58 Z fun b3 => i1 12 Z <| x_store Z Z ty58 Z SM SM RO PT <| i1 13 Z <| x_store Z Z ty34 Z SM SM RO PT <| i0 <| Q_then <| J_pick (A := blk a _ _) PC <| J_asTo (B := actA a p T q i) (by rfl) <| J_pick (A := blk b4 _ _) PC <| J_asTo (B := blk b4 34 [.int .i64 q.e.op, .int .i64 q.e.flags, .int .u32 q.e.tag, .int .u32 q.e.cap, .int .u32 q.e.a, .int .u32 q.e.b, .int .u32 q.e.c, .int .u32 q.e.time]) (by rfl) ?_
  exact J_at (b3, b4) SU KE
  refine x_alloc ty58 Z fun b3 => I_ready (rs := [4, 11]) SI (by kernel_rfl) (by simp) <| (I_cons Z ?_ (I_cons Z ?_ I_nil))
  refine xc fc28 (A1 Z) Z (coSlots) fun _ => i1 11 Z <| x_alloc ty34 Z fun b4 => i1 12 Z <| x_store Z Z ty58 Z SM SM RO PT <| i1 13 Z <| x_store Z Z ty34 Z SM SM RO PT <| i0 <| Q_then <| J_pick (A := blk a _ _) PC <| J_asTo (B := actA a p T q i) (by rfl) <| J_pick (A := blk b4 _ _) PC <| J_asTo (B := blk b4 34 [.int .i64 q.e.op, .int .i64 q.e.flags, .int .u32 q.e.tag, .int .u32 q.e.cap, .int .u32 q.e.a, .int .u32 q.e.b, .int .u32 q.e.c, .int .u32 q.e.time]) (by rfl) ?_
  exact J_at (b3, b4) SU KE
  refine x_alloc ty34 Z fun b4 => i1 4 Z <| xc fc28 (A1 Z) Z (coSlots) fun _ => i1 12 Z <| x_store Z Z ty58 Z SM SM RO PT <| i1 13 Z <| x_store Z Z ty34 Z SM SM RO PT <| i0 <| Q_then <| J_pick (A := blk a _ _) PC <| J_asTo (B := actA a p T q i) (by rfl) <| J_pick (A := blk b4 _ _) PC <| J_asTo (B := blk b4 34 [.int .i64 q.e.op, .int .i64 q.e.flags, .int .u32 q.e.tag, .int .u32 q.e.cap, .int .u32 q.e.a, .int .u32 q.e.b, .int .u32 q.e.c, .int .u32 q.e.time]) (by rfl) ?_
  exact J_at (b3, b4) SU KE
  refine x_alloc ty34 Z fun b4 => I_ready (rs := [4, 10]) SI (by kernel_rfl) (by simp) <| (I_cons Z ?_ (I_cons Z ?_ I_nil))
  refine xc fc28 (A1 Z) Z (coSlots) fun _ => i1 10 Z <| x_alloc ty58 Z fun b3 => i1 12 Z <| x_store Z Z ty58 Z SM SM RO PT <| i1 13 Z <| x_store Z Z ty34 Z SM SM RO PT <| i0 <| Q_then <| J_pick (A := blk a _ _) PC <| J_asTo (B := actA a p T q i) (by rfl) <| J_pick (A := blk b4 _ _) PC <| J_asTo (B := blk b4 34 [.int .i64 q.e.op, .int .i64 q.e.flags, .int .u32 q.e.tag, .int .u32 q.e.cap, .int .u32 q.e.a, .int .u32 q.e.b, .int .u32 q.e.c, .int .u32 q.e.time]) (by rfl) ?_
  exact J_at (b3, b4) SU KE
  refine x_alloc ty58 Z fun b3 => i1 4 Z <| xc fc28 (A1 Z) Z (coSlots) fun _ => i1 12 Z <| x_store Z Z ty58 Z SM SM RO PT <| i1 13 Z <| x_store Z Z ty34 Z SM SM RO PT <| i0 <| Q_then <| J_pick (A := blk a _ _) PC <| J_asTo (B := actA a p T q i) (by rfl) <| J_pick (A := blk b4 _ _) PC <| J_asTo (B := blk b4 34 [.int .i64 q.e.op, .int .i64 q.e.flags, .int .u32 q.e.tag, .int .u32 q.e.cap, .int .u32 q.e.a, .int .u32 q.e.b, .int .u32 q.e.c, .int .u32 q.e.time]) (by rfl) ?_
  exact J_at (b3, b4) SU KE
  intro x
  obtain ⟨b3, b4⟩ := x
  dsimp only
  refine J_seq <| J_seq ?_
  have hks : (kSlots s T q.e) = twoS s (mintF s q.e) (twoAt s T q.e) := by unfold kSlots; rw [if_neg (by omega), if_pos hop]
  refine J_region <| fa Z Z fa34_0 <| L_val Z (v_load Z ty3 HS (by exact rfl)) <| nq <| J_block <| sr <| L_pur Z (p_eql Z Z) <| ag Z Z <| nq <| J_bool (t := 17) (c := false) Z (by simp [hop]) <| C_false Z <| sr <| L_pur Z (p_eql Z Z) <| ag Z Z <| nq <| J_bool (t := 22) (c := true) Z (by simp [hop]) <| C_true Z <| J_seq <| J_scS (c3 := b3) (c4 := b4) (p := p) (e := q.e) PX trivial <| J_region <| mv Z Z <| L_pur Z (p_makeFunc (.cons Z (.cons Z .nil))) <| xo fc206 (A2 Z Z) Z (twoG (C := scA b3 b4 p q.e) (D := fun _ _ => scA b3 b4 p q.e) (F := mintF s q.e) Tryz.func209 nm209 bd209 (fun l m x y hp => clo2 hp hE.b) PX hE (fun x y => mintS_code)) fun _ => L_op <| x_store Z Z ty276 Z SM SM RO PT <| nq <| J_ret <| Q_blk_ret <| Q_then_ret <| J_pick (A := coA p _) PC <| J_asTo (B := coA p (kSlots s T q.e).1) (by rw [hks]) <| J_pick (A := actA a p T q i) PC ?_
  refine J_return (()) Tryz.results156 (.cellA Z ty276 HS CT .nil) ?_ ?_
  · rw [hks]; rfl
  · exact SU
theorem slots4G {a p : Nat} {q : Rq} (hp : Picks [actA a p T q i, coA p s] l m) (hE : SqeOk q.e) (hop : q.e.op = 4) (hsl : s.sl.length ≤ 100000) :
    Con Tryz.prog 156 #[.pointer (some ⟨a, 0, none⟩)] E l (fun _ : Unit => encE (some (-(kSlots s T q.e).2, 0))) (fun _ => actA a p T q i :: coA p (kSlots s T q.e).1 :: m) := by
  refine Con.body (n := 40) Tryz.func156 Z Z _ (env_ok 1 Z) <| J_picks2 hp <| J_act <| sr <| L_op <| x_alloc ty276 Z fun b2 => nq <| J_cut (α := Nat × Nat) (fun x : Nat × Nat => blk x.1 58 [.pointer (some ⟨p, 6, none⟩)] :: blk x.2 34 [.int .i64 q.e.op, .int .i64 q.e.flags, .int .u32 q.e.tag, .int .u32 q.e.cap, .int .u32 q.e.a, .int .u32 q.e.b, .int .u32 q.e.c, .int .u32 q.e.time] :: blk b2 276 [.int .i64 0, .int .u32 0, .bool false] :: actA a p T q i :: coA p s :: m) (fun x : Nat × Nat => [(0, .pointer (some ⟨a, 0, none⟩)), (2, .pointer (some ⟨b2, 0, none⟩)), (3, .pointer (some ⟨x.1, 0, none⟩)), (4, .pointer (some ⟨x.2, 0, none⟩))]) ?_ ?_
  refine J_drawL none mixed <| ip 0 Z Z Z Z (p_move Z) <| ip 1 Z Z Z Z (p_nilCheck Z) <| ip 2 Z Z Z Z (p_fieldAddr Z fa279_0) <| iv 3 Z Z Z Z (fun _ => v_load Z ty24 HS (by exact rfl)) <| ip 5 Z Z Z Z (p_move Z) <| ip 6 Z Z Z Z (p_nilCheck Z) <| ip 7 Z Z Z Z (p_fieldAddr Z fa279_2) <| ip 8 Z Z Z Z (p_fieldAddr Z fa122_1) <| iv 9 Z Z Z Z (fun _ => v_loadA Z ty34 HS CT) <| I_ready (rs := [4, 10, 11]) SI (by kernel_rfl) (by simp) <| (I_cons Z ?_ (I_cons Z ?_ (I_cons Z ?_ I_nil)))
  refine xc fc28 (A1 Z) Z (coSlots) fun _ => I_ready (rs := [10, 11]) SI (by kernel_rfl) (by simp) <| (I_cons Z ?_ (I_cons Z ?_ I_nil))
  refine x_alloc ty58 Z fun b3 => i1 11 Z <| x_alloc ty34 Z fun b4 => i1 12 Z <| x_store Z Z ty58 Z SM SM RO PT <| i1 13 Z <| x_store Z Z ty34 Z SM SM RO PT <| i0 <| Q_then <| J_pick (A := blk a _ _) PC <| J_asTo (B := actA a p T q i) (by rfl) <| J_pick (A := blk b4 _ _) PC <| J_asTo (B := blk b4 34 [.int .i64 q.e.op, .int .i64 q.e.flags, .int .u32 q.e.tag, .int .u32 q.e.cap, .int .u32 q.e.a, .int .u32 q.e.b, .int .u32 q.e.c, .int .u32 q.e.time]) (by rfl) ?_
  exact J_at (b3, b4) SU KE
  refine x_alloc ty34 Z fun b4 => i1 10 Z <| x_alloc ty58 Z fun b3 => i1 12 Z <| x_store Z Z ty58 Z SM SM RO PT <| i1 13 Z <| x_store Z Z ty34 Z SM SM RO PT <| i0 <| Q_then <| J_pick (A := blk a _ _) PC <| J_asTo (B := actA a p T q i) (by rfl) <| J_pick (A := blk b4 _ _) PC <| J_asTo (B := blk b4 34 [.int .i64 q.e.op, .int .i64 q.e.flags, .int .u32 q.e.tag, .int .u32 q.e.cap, .int .u32 q.e.a, .int .u32 q.e.b, .int .u32 q.e.c, .int .u32 q.e.time]) (by rfl) ?_
  exact J_at (b3, b4) SU KE
  refine x_alloc ty58 Z fun b3 => I_ready (rs := [4, 11]) SI (by kernel_rfl) (by simp) <| (I_cons Z ?_ (I_cons Z ?_ I_nil))
  refine xc fc28 (A1 Z) Z (coSlots) fun _ => i1 11 Z <| x_alloc ty34 Z fun b4 => i1 12 Z <| x_store Z Z ty58 Z SM SM RO PT <| i1 13 Z <| x_store Z Z ty34 Z SM SM RO PT <| i0 <| Q_then <| J_pick (A := blk a _ _) PC <| J_asTo (B := actA a p T q i) (by rfl) <| J_pick (A := blk b4 _ _) PC <| J_asTo (B := blk b4 34 [.int .i64 q.e.op, .int .i64 q.e.flags, .int .u32 q.e.tag, .int .u32 q.e.cap, .int .u32 q.e.a, .int .u32 q.e.b, .int .u32 q.e.c, .int .u32 q.e.time]) (by rfl) ?_
  exact J_at (b3, b4) SU KE
  refine x_alloc ty34 Z fun b4 => i1 4 Z <| xc fc28 (A1 Z) Z (coSlots) fun _ => i1 12 Z <| x_store Z Z ty58 Z SM SM RO PT <| i1 13 Z <| x_store Z Z ty34 Z SM SM RO PT <| i0 <| Q_then <| J_pick (A := blk a _ _) PC <| J_asTo (B := actA a p T q i) (by rfl) <| J_pick (A := blk b4 _ _) PC <| J_asTo (B := blk b4 34 [.int .i64 q.e.op, .int .i64 q.e.flags, .int .u32 q.e.tag, .int .u32 q.e.cap, .int .u32 q.e.a, .int .u32 q.e.b, .int .u32 q.e.c, .int .u32 q.e.time]) (by rfl) ?_
  exact J_at (b3, b4) SU KE
  refine x_alloc ty34 Z fun b4 => I_ready (rs := [4, 10]) SI (by kernel_rfl) (by simp) <| (I_cons Z ?_ (I_cons Z ?_ I_nil))
  refine xc fc28 (A1 Z) Z (coSlots) fun _ => i1 10 Z <| x_alloc ty58 Z fun b3 => i1 12 Z <| x_store Z Z ty58 Z SM SM RO PT <| i1 13 Z <| x_store Z Z ty34 Z SM SM RO PT <| i0 <| Q_then <| J_pick (A := blk a _ _) PC <| J_asTo (B := actA a p T q i) (by rfl) <| J_pick (A := blk b4 _ _) PC <| J_asTo (B := blk b4 34 [.int .i64 q.e.op, .int .i64 q.e.flags, .int .u32 q.e.tag, .int .u32 q.e.cap, .int .u32 q.e.a, .int .u32 q.e.b, .int .u32 q.e.c, .int .u32 q.e.time]) (by rfl) ?_
  exact J_at (b3, b4) SU KE
  refine x_alloc ty58 Z fun b3 => i1 4 Z <| xc fc28 (A1 Z) Z (coSlots) fun _ => i1 12 Z <| x_store Z Z ty58 Z SM SM RO PT <| i1 13 Z <| x_store Z Z ty34 Z SM SM RO PT <| i0 <| Q_then <| J_pick (A := blk a _ _) PC <| J_asTo (B := actA a p T q i) (by rfl) <| J_pick (A := blk b4 _ _) PC <| J_asTo (B := blk b4 34 [.int .i64 q.e.op, .int .i64 q.e.flags, .int .u32 q.e.tag, .int .u32 q.e.cap, .int .u32 q.e.a, .int .u32 q.e.b, .int .u32 q.e.c, .int .u32 q.e.time]) (by rfl) ?_
  exact J_at (b3, b4) SU KE
  intro x
  obtain ⟨b3, b4⟩ := x
  dsimp only
  refine J_seq <| J_seq ?_
  have hks : (kSlots s T q.e) = twoS s (moveF s) (twoAt s T q.e) := by unfold kSlots; rw [if_neg (by omega), if_neg (by omega), if_pos hop]
  refine J_region <| fa Z Z fa34_0 <| L_val Z (v_load Z ty3 HS (by exact rfl)) <| nq <| J_block <| sr <| L_pur Z (p_eql Z Z) <| ag Z Z <| nq <| J_bool (t := 17) (c := false) Z (by simp [hop]) <| C_false Z <| sr <| L_pur Z (p_eql Z Z) <| ag Z Z <| nq <| J_bool (t := 22) (c := false) Z (by simp [hop]) <| C_false Z <| sr <| L_pur Z (p_eql Z Z) <| ag Z Z <| nq <| J_bool (t := 27) (c := true) Z (by simp [hop]) <| C_true Z <| sr <| mv Z Z <| L_pur Z (p_makeFunc (.cons Z .nil)) <| xo fc206 (A2 Z Z) Z (twoG (C := blk b3 58 [.pointer (some ⟨p, 6, none⟩)]) (D := fun _ _ => blk b3 58 [.pointer (some ⟨p, 6, none⟩)]) (F := moveF s) Tryz.func211 nm211 bd211 (fun l m x y hp => clo3 hp hsl) PX hE (fun x y => dmoveS_code)) fun _ => L_op <| x_store Z Z ty276 Z SM SM RO PT <| nq <| J_ret <| Q_blk_ret <| Q_then_ret <| J_pick (A := coA p _) PC ?_
  refine J_asTo (B := coA p (kSlots s T q.e).1) (by rw [hks]) <| J_pick (A := actA a p T q i) PC <| J_return (()) Tryz.results156 (.cellA Z ty276 HS CT .nil) ?_ ?_
  · rw [hks]; rfl
  · exact SU
theorem slots5G {a p : Nat} {q : Rq} (hp : Picks [actA a p T q i, coA p s] l m) (hE : SqeOk q.e) (hop : q.e.op = 5) (hsl : s.sl.length ≤ 100000) (hF : Fits s N M) (hM : M ≤ 45000) (hq : s.q.length ≤ 90000) (hz : s.mp.length ≤ 1000000) (hg0 : s.rg.length ≤ 1000) :
    Con Tryz.prog 156 #[.pointer (some ⟨a, 0, none⟩)] E l (fun _ : Unit => encE (some (-(kSlots s T q.e).2, 0))) (fun _ => actA a p T q i :: coA p (kSlots s T q.e).1 :: m) := by
  refine Con.body (n := 40) Tryz.func156 Z Z _ (env_ok 1 Z) <| J_picks2 hp <| J_act <| sr <| L_op <| x_alloc ty276 Z fun b2 => nq <| J_cut (α := Nat × Nat) (fun x : Nat × Nat => blk x.1 58 [.pointer (some ⟨p, 6, none⟩)] :: blk x.2 34 [.int .i64 q.e.op, .int .i64 q.e.flags, .int .u32 q.e.tag, .int .u32 q.e.cap, .int .u32 q.e.a, .int .u32 q.e.b, .int .u32 q.e.c, .int .u32 q.e.time] :: blk b2 276 [.int .i64 0, .int .u32 0, .bool false] :: actA a p T q i :: coA p s :: m) (fun x : Nat × Nat => [(0, .pointer (some ⟨a, 0, none⟩)), (2, .pointer (some ⟨b2, 0, none⟩)), (3, .pointer (some ⟨x.1, 0, none⟩)), (4, .pointer (some ⟨x.2, 0, none⟩))]) ?_ ?_
  refine J_drawL none mixed <| ip 0 Z Z Z Z (p_move Z) <| ip 1 Z Z Z Z (p_nilCheck Z) <| ip 2 Z Z Z Z (p_fieldAddr Z fa279_0) <| iv 3 Z Z Z Z (fun _ => v_load Z ty24 HS (by exact rfl)) <| ip 5 Z Z Z Z (p_move Z) <| ip 6 Z Z Z Z (p_nilCheck Z) <| ip 7 Z Z Z Z (p_fieldAddr Z fa279_2) <| ip 8 Z Z Z Z (p_fieldAddr Z fa122_1) <| iv 9 Z Z Z Z (fun _ => v_loadA Z ty34 HS CT) <| I_ready (rs := [4, 10, 11]) SI (by kernel_rfl) (by simp) <| (I_cons Z ?_ (I_cons Z ?_ (I_cons Z ?_ I_nil)))
  refine xc fc28 (A1 Z) Z (coSlots) fun _ => I_ready (rs := [10, 11]) SI (by kernel_rfl) (by simp) <| (I_cons Z ?_ (I_cons Z ?_ I_nil))
  refine x_alloc ty58 Z fun b3 => i1 11 Z <| x_alloc ty34 Z fun b4 => i1 12 Z <| x_store Z Z ty58 Z SM SM RO PT <| i1 13 Z <| x_store Z Z ty34 Z SM SM RO PT <| i0 <| Q_then <| J_pick (A := blk a _ _) PC <| J_asTo (B := actA a p T q i) (by rfl) <| J_pick (A := blk b4 _ _) PC <| J_asTo (B := blk b4 34 [.int .i64 q.e.op, .int .i64 q.e.flags, .int .u32 q.e.tag, .int .u32 q.e.cap, .int .u32 q.e.a, .int .u32 q.e.b, .int .u32 q.e.c, .int .u32 q.e.time]) (by rfl) ?_
  exact J_at (b3, b4) SU KE
  refine x_alloc ty34 Z fun b4 => i1 10 Z <| x_alloc ty58 Z fun b3 => i1 12 Z <| x_store Z Z ty58 Z SM SM RO PT <| i1 13 Z <| x_store Z Z ty34 Z SM SM RO PT <| i0 <| Q_then <| J_pick (A := blk a _ _) PC <| J_asTo (B := actA a p T q i) (by rfl) <| J_pick (A := blk b4 _ _) PC <| J_asTo (B := blk b4 34 [.int .i64 q.e.op, .int .i64 q.e.flags, .int .u32 q.e.tag, .int .u32 q.e.cap, .int .u32 q.e.a, .int .u32 q.e.b, .int .u32 q.e.c, .int .u32 q.e.time]) (by rfl) ?_
  exact J_at (b3, b4) SU KE
  refine x_alloc ty58 Z fun b3 => I_ready (rs := [4, 11]) SI (by kernel_rfl) (by simp) <| (I_cons Z ?_ (I_cons Z ?_ I_nil))
  refine xc fc28 (A1 Z) Z (coSlots) fun _ => i1 11 Z <| x_alloc ty34 Z fun b4 => i1 12 Z <| x_store Z Z ty58 Z SM SM RO PT <| i1 13 Z <| x_store Z Z ty34 Z SM SM RO PT <| i0 <| Q_then <| J_pick (A := blk a _ _) PC <| J_asTo (B := actA a p T q i) (by rfl) <| J_pick (A := blk b4 _ _) PC <| J_asTo (B := blk b4 34 [.int .i64 q.e.op, .int .i64 q.e.flags, .int .u32 q.e.tag, .int .u32 q.e.cap, .int .u32 q.e.a, .int .u32 q.e.b, .int .u32 q.e.c, .int .u32 q.e.time]) (by rfl) ?_
  exact J_at (b3, b4) SU KE
  refine x_alloc ty34 Z fun b4 => i1 4 Z <| xc fc28 (A1 Z) Z (coSlots) fun _ => i1 12 Z <| x_store Z Z ty58 Z SM SM RO PT <| i1 13 Z <| x_store Z Z ty34 Z SM SM RO PT <| i0 <| Q_then <| J_pick (A := blk a _ _) PC <| J_asTo (B := actA a p T q i) (by rfl) <| J_pick (A := blk b4 _ _) PC <| J_asTo (B := blk b4 34 [.int .i64 q.e.op, .int .i64 q.e.flags, .int .u32 q.e.tag, .int .u32 q.e.cap, .int .u32 q.e.a, .int .u32 q.e.b, .int .u32 q.e.c, .int .u32 q.e.time]) (by rfl) ?_
  exact J_at (b3, b4) SU KE
  refine x_alloc ty34 Z fun b4 => I_ready (rs := [4, 10]) SI (by kernel_rfl) (by simp) <| (I_cons Z ?_ (I_cons Z ?_ I_nil))
  refine xc fc28 (A1 Z) Z (coSlots) fun _ => i1 10 Z <| x_alloc ty58 Z fun b3 => i1 12 Z <| x_store Z Z ty58 Z SM SM RO PT <| i1 13 Z <| x_store Z Z ty34 Z SM SM RO PT <| i0 <| Q_then <| J_pick (A := blk a _ _) PC <| J_asTo (B := actA a p T q i) (by rfl) <| J_pick (A := blk b4 _ _) PC <| J_asTo (B := blk b4 34 [.int .i64 q.e.op, .int .i64 q.e.flags, .int .u32 q.e.tag, .int .u32 q.e.cap, .int .u32 q.e.a, .int .u32 q.e.b, .int .u32 q.e.c, .int .u32 q.e.time]) (by rfl) ?_
  exact J_at (b3, b4) SU KE
  refine x_alloc ty58 Z fun b3 => i1 4 Z <| xc fc28 (A1 Z) Z (coSlots) fun _ => i1 12 Z <| x_store Z Z ty58 Z SM SM RO PT <| i1 13 Z <| x_store Z Z ty34 Z SM SM RO PT <| i0 <| Q_then <| J_pick (A := blk a _ _) PC <| J_asTo (B := actA a p T q i) (by rfl) <| J_pick (A := blk b4 _ _) PC <| J_asTo (B := blk b4 34 [.int .i64 q.e.op, .int .i64 q.e.flags, .int .u32 q.e.tag, .int .u32 q.e.cap, .int .u32 q.e.a, .int .u32 q.e.b, .int .u32 q.e.c, .int .u32 q.e.time]) (by rfl) ?_
  exact J_at (b3, b4) SU KE
  intro x
  obtain ⟨b3, b4⟩ := x
  dsimp only
  refine J_seq <| J_seq ?_
  have hks : (kSlots s T q.e) = killS s (deleteS s.sl) (kFind s.sl T.root q.e.cap) := by unfold kSlots; rw [if_neg (by omega), if_neg (by omega), if_neg (by omega), if_pos hop]
  refine J_region <| fa Z Z fa34_0 <| L_val Z (v_load Z ty3 HS (by exact rfl)) <| nq <| J_block <| sr <| L_pur Z (p_eql Z Z) <| ag Z Z <| nq <| J_bool (t := 17) (c := false) Z (by simp [hop]) <| C_false Z <| sr <| L_pur Z (p_eql Z Z) <| ag Z Z <| nq <| J_bool (t := 22) (c := false) Z (by simp [hop]) <| C_false Z <| sr <| L_pur Z (p_eql Z Z) <| ag Z Z <| nq <| J_bool (t := 27) (c := false) Z (by simp [hop]) <| C_false Z <| sr <| L_pur Z (p_eql Z Z) <| ag Z Z <| nq <| J_bool (t := 32) (c := true) Z (by simp [hop]) <| C_true Z <| sr <| mv Z Z <| L_pur Z (p_makeFunc (.cons Z .nil)) <| xo fc213 (A2 Z Z) Z (killsG (C := blk b3 58 [.pointer (some ⟨p, 6, none⟩)]) (F := deleteS s.sl) Tryz.func214 nm214 bd214 (fun l m x hp => clo4 hp hsl) PX hE (fun x => deleteS_code) hF hM hq hz hg0) fun _ => L_op <| x_store Z Z ty276 Z SM SM RO PT ?_
  refine nq <| J_ret <| Q_blk_ret <| Q_then_ret <| J_pick (A := coA p _) PC <| J_asTo (B := coA p (kSlots s T q.e).1) (by rw [hks]) <| J_pick (A := actA a p T q i) PC <| J_return (()) Tryz.results156 (.cellA Z ty276 HS CT .nil) ?_ ?_
  · rw [hks]; rfl
  · exact SU
theorem slots6G {a p : Nat} {q : Rq} (hp : Picks [actA a p T q i, coA p s] l m) (hE : SqeOk q.e) (hop : q.e.op = 6) (hsl : s.sl.length ≤ 100000) (hR : ∀ x, RevOk s.sl x) (hF : Fits s N M) (hM : M ≤ 45000) (hq : s.q.length ≤ 90000) (hz : s.mp.length ≤ 1000000) (hg0 : s.rg.length ≤ 1000) :
    Con Tryz.prog 156 #[.pointer (some ⟨a, 0, none⟩)] E l (fun _ : Unit => encE (some (-(kSlots s T q.e).2, 0))) (fun _ => actA a p T q i :: coA p (kSlots s T q.e).1 :: m) := by
  refine Con.body (n := 40) Tryz.func156 Z Z _ (env_ok 1 Z) <| J_picks2 hp <| J_act <| sr <| L_op <| x_alloc ty276 Z fun b2 => nq <| J_cut (α := Nat × Nat) (fun x : Nat × Nat => blk x.1 58 [.pointer (some ⟨p, 6, none⟩)] :: blk x.2 34 [.int .i64 q.e.op, .int .i64 q.e.flags, .int .u32 q.e.tag, .int .u32 q.e.cap, .int .u32 q.e.a, .int .u32 q.e.b, .int .u32 q.e.c, .int .u32 q.e.time] :: blk b2 276 [.int .i64 0, .int .u32 0, .bool false] :: actA a p T q i :: coA p s :: m) (fun x : Nat × Nat => [(0, .pointer (some ⟨a, 0, none⟩)), (2, .pointer (some ⟨b2, 0, none⟩)), (3, .pointer (some ⟨x.1, 0, none⟩)), (4, .pointer (some ⟨x.2, 0, none⟩))]) ?_ ?_
  refine J_drawL none mixed <| ip 0 Z Z Z Z (p_move Z) <| ip 1 Z Z Z Z (p_nilCheck Z) <| ip 2 Z Z Z Z (p_fieldAddr Z fa279_0) <| iv 3 Z Z Z Z (fun _ => v_load Z ty24 HS (by exact rfl)) <| ip 5 Z Z Z Z (p_move Z) <| ip 6 Z Z Z Z (p_nilCheck Z) <| ip 7 Z Z Z Z (p_fieldAddr Z fa279_2) <| ip 8 Z Z Z Z (p_fieldAddr Z fa122_1) <| iv 9 Z Z Z Z (fun _ => v_loadA Z ty34 HS CT) <| I_ready (rs := [4, 10, 11]) SI (by kernel_rfl) (by simp) <| (I_cons Z ?_ (I_cons Z ?_ (I_cons Z ?_ I_nil)))
  refine xc fc28 (A1 Z) Z (coSlots) fun _ => I_ready (rs := [10, 11]) SI (by kernel_rfl) (by simp) <| (I_cons Z ?_ (I_cons Z ?_ I_nil))
  refine x_alloc ty58 Z fun b3 => i1 11 Z <| x_alloc ty34 Z fun b4 => i1 12 Z <| x_store Z Z ty58 Z SM SM RO PT <| i1 13 Z <| x_store Z Z ty34 Z SM SM RO PT <| i0 <| Q_then <| J_pick (A := blk a _ _) PC <| J_asTo (B := actA a p T q i) (by rfl) <| J_pick (A := blk b4 _ _) PC <| J_asTo (B := blk b4 34 [.int .i64 q.e.op, .int .i64 q.e.flags, .int .u32 q.e.tag, .int .u32 q.e.cap, .int .u32 q.e.a, .int .u32 q.e.b, .int .u32 q.e.c, .int .u32 q.e.time]) (by rfl) ?_
  exact J_at (b3, b4) SU KE
  refine x_alloc ty34 Z fun b4 => i1 10 Z <| x_alloc ty58 Z fun b3 => i1 12 Z <| x_store Z Z ty58 Z SM SM RO PT <| i1 13 Z <| x_store Z Z ty34 Z SM SM RO PT <| i0 <| Q_then <| J_pick (A := blk a _ _) PC <| J_asTo (B := actA a p T q i) (by rfl) <| J_pick (A := blk b4 _ _) PC <| J_asTo (B := blk b4 34 [.int .i64 q.e.op, .int .i64 q.e.flags, .int .u32 q.e.tag, .int .u32 q.e.cap, .int .u32 q.e.a, .int .u32 q.e.b, .int .u32 q.e.c, .int .u32 q.e.time]) (by rfl) ?_
  exact J_at (b3, b4) SU KE
  refine x_alloc ty58 Z fun b3 => I_ready (rs := [4, 11]) SI (by kernel_rfl) (by simp) <| (I_cons Z ?_ (I_cons Z ?_ I_nil))
  refine xc fc28 (A1 Z) Z (coSlots) fun _ => i1 11 Z <| x_alloc ty34 Z fun b4 => i1 12 Z <| x_store Z Z ty58 Z SM SM RO PT <| i1 13 Z <| x_store Z Z ty34 Z SM SM RO PT <| i0 <| Q_then <| J_pick (A := blk a _ _) PC <| J_asTo (B := actA a p T q i) (by rfl) <| J_pick (A := blk b4 _ _) PC <| J_asTo (B := blk b4 34 [.int .i64 q.e.op, .int .i64 q.e.flags, .int .u32 q.e.tag, .int .u32 q.e.cap, .int .u32 q.e.a, .int .u32 q.e.b, .int .u32 q.e.c, .int .u32 q.e.time]) (by rfl) ?_
  exact J_at (b3, b4) SU KE
  refine x_alloc ty34 Z fun b4 => i1 4 Z <| xc fc28 (A1 Z) Z (coSlots) fun _ => i1 12 Z <| x_store Z Z ty58 Z SM SM RO PT <| i1 13 Z <| x_store Z Z ty34 Z SM SM RO PT <| i0 <| Q_then <| J_pick (A := blk a _ _) PC <| J_asTo (B := actA a p T q i) (by rfl) <| J_pick (A := blk b4 _ _) PC <| J_asTo (B := blk b4 34 [.int .i64 q.e.op, .int .i64 q.e.flags, .int .u32 q.e.tag, .int .u32 q.e.cap, .int .u32 q.e.a, .int .u32 q.e.b, .int .u32 q.e.c, .int .u32 q.e.time]) (by rfl) ?_
  exact J_at (b3, b4) SU KE
  refine x_alloc ty34 Z fun b4 => I_ready (rs := [4, 10]) SI (by kernel_rfl) (by simp) <| (I_cons Z ?_ (I_cons Z ?_ I_nil))
  refine xc fc28 (A1 Z) Z (coSlots) fun _ => i1 10 Z <| x_alloc ty58 Z fun b3 => i1 12 Z <| x_store Z Z ty58 Z SM SM RO PT <| i1 13 Z <| x_store Z Z ty34 Z SM SM RO PT <| i0 <| Q_then <| J_pick (A := blk a _ _) PC <| J_asTo (B := actA a p T q i) (by rfl) <| J_pick (A := blk b4 _ _) PC <| J_asTo (B := blk b4 34 [.int .i64 q.e.op, .int .i64 q.e.flags, .int .u32 q.e.tag, .int .u32 q.e.cap, .int .u32 q.e.a, .int .u32 q.e.b, .int .u32 q.e.c, .int .u32 q.e.time]) (by rfl) ?_
  exact J_at (b3, b4) SU KE
  refine x_alloc ty58 Z fun b3 => i1 4 Z <| xc fc28 (A1 Z) Z (coSlots) fun _ => i1 12 Z <| x_store Z Z ty58 Z SM SM RO PT <| i1 13 Z <| x_store Z Z ty34 Z SM SM RO PT <| i0 <| Q_then <| J_pick (A := blk a _ _) PC <| J_asTo (B := actA a p T q i) (by rfl) <| J_pick (A := blk b4 _ _) PC <| J_asTo (B := blk b4 34 [.int .i64 q.e.op, .int .i64 q.e.flags, .int .u32 q.e.tag, .int .u32 q.e.cap, .int .u32 q.e.a, .int .u32 q.e.b, .int .u32 q.e.c, .int .u32 q.e.time]) (by rfl) ?_
  exact J_at (b3, b4) SU KE
  intro x
  obtain ⟨b3, b4⟩ := x
  dsimp only
  refine J_seq <| J_seq ?_
  have hks : (kSlots s T q.e) = killS s (revokeS s.sl) (kFind s.sl T.root q.e.cap) := by unfold kSlots; rw [if_neg (by omega), if_neg (by omega), if_neg (by omega), if_neg (by omega)]
  refine J_region <| fa Z Z fa34_0 <| L_val Z (v_load Z ty3 HS (by exact rfl)) <| nq <| J_block <| sr <| L_pur Z (p_eql Z Z) <| ag Z Z <| nq <| J_bool (t := 17) (c := false) Z (by simp [hop]) <| C_false Z <| sr <| L_pur Z (p_eql Z Z) <| ag Z Z <| nq <| J_bool (t := 22) (c := false) Z (by simp [hop]) <| C_false Z <| sr <| L_pur Z (p_eql Z Z) <| ag Z Z <| nq <| J_bool (t := 27) (c := false) Z (by simp [hop]) <| C_false Z <| sr <| L_pur Z (p_eql Z Z) <| ag Z Z <| nq <| J_bool (t := 32) (c := false) Z (by simp [hop]) <| C_false Z <| J_skip <| Q_blk_normal <| qx <| mv Z Z <| L_pur Z (p_makeFunc (.cons Z .nil)) <| xo fc213 (A2 Z Z) Z (killsG (C := blk b3 58 [.pointer (some ⟨p, 6, none⟩)]) (F := revokeS s.sl) Tryz.func216 nm216 bd216 (fun l m x hp => clo5 hp hsl (hR x)) PX hE (fun x => revokeS_code) hF hM hq hz hg0) fun _ => L_op <| x_store Z Z ty276 Z SM SM RO PT ?_
  refine nq <| J_ret <| J_pick (A := coA p _) PC <| J_asTo (B := coA p (kSlots s T q.e).1) (by rw [hks]) <| J_pick (A := actA a p T q i) PC <| J_return (()) Tryz.results156 (.cellA Z ty276 HS CT .nil) ?_ ?_
  · rw [hks]; rfl
  · exact SU
theorem cloR {a p b1 b3 : Nat} {q : Rq} {c : Cap} (hp : Picks [actA a p T q i, rcA b1 b3 a c, coA p s] l m) (hE : SqeOk q.e) (hck : CapsOk s.sl) (hmk : MarksOk s.mr) (hsl : s.sl.length ≤ 100000) :
    Con Tryz.prog 218 #[.agg (encI x).toArray, .agg (encI y).toArray, .pointer (some ⟨b1, 0, none⟩), .pointer (some ⟨b3, 0, none⟩)] E l (fun _ : Unit => .int .i64 (retF s q.e x y).2) (fun _ => actA a p T q i :: rcA b1 b3 a (makeS s.sl s.mr x y q.e.b q.e.c).2.1 :: coA p (retF s q.e x y).1 :: m) := by
  refine Con.body (n := 41) Tryz.func218 Z Z _ (env_ok 4 Z) <| J_picks3 hp <| J_pick (A := rcA b1 b3 a c) PC <| J_rcO fun _ _ => J_pick (A := actA a p T q i) PC <| J_act <| sr <| L_op <| x_box Z Z Z fun b4 => L_op <| x_box Z Z Z fun b5 => ag Z Z <| nq <| J_seq <| J_drawL (some 26) mixed <| iv 0 Z Z Z Z (fun _ => v_load Z ty277 HS (by exact rfl)) <| ip 1 Z Z Z Z (p_nilCheck Z) <| ip 2 Z Z Z Z (p_fieldAddr Z fa279_0) <| iv 3 Z Z Z Z (fun _ => v_load Z ty24 HS (by exact rfl)) <| iv 5 Z Z Z Z (fun _ => v_load Z ty277 HS (by exact rfl)) <| ip 6 Z Z Z Z (p_nilCheck Z) <| ip 7 Z Z Z Z (p_fieldAddr Z fa279_0) <| iv 8 Z Z Z Z (fun _ => v_load Z ty24 HS (by exact rfl)) <| iv 10 Z Z Z Z (fun _ => v_loadA Z ty108 HS CT) <| iv 11 Z Z Z Z (fun _ => v_loadA Z ty108 HS CT) <| iv 12 Z Z Z Z (fun _ => v_load Z ty277 HS (by exact rfl)) ?_
  refine ip 13 Z Z Z Z (p_nilCheck Z) <| ip 14 Z Z Z Z (p_fieldAddr Z fa279_2) <| ip 15 Z Z Z Z (p_fieldAddr Z fa122_1) <| ip 16 Z Z Z Z (p_fieldAddr Z fa34_5) <| iv 17 Z Z Z Z (fun _ => v_load Z ty22 HS (by exact rfl)) <| ip 18 Z Z Z Z (p_conv Z Tryz.underlying22 Tryz.underlying3) <| J_slot (t := 28) (v := .int .i64 (q.e.b)) Z (by rw [wrap64_of (by have := hE.b.1; have := hE.b.2; omega)]) <| iv 19 Z Z Z Z (fun _ => v_load Z ty277 HS (by exact rfl)) <| ip 20 Z Z Z Z (p_nilCheck Z) <| ip 21 Z Z Z Z (p_fieldAddr Z fa279_2) <| ip 22 Z Z Z Z (p_fieldAddr Z fa122_1) <| ip 23 Z Z Z Z (p_fieldAddr Z fa34_6) <| iv 24 Z Z Z Z (fun _ => v_load Z ty22 HS (by exact rfl)) ?_
  refine ip 25 Z Z Z Z (p_conv Z Tryz.underlying22 Tryz.underlying3) <| J_slot (t := 35) (v := .int .i64 (q.e.c)) Z (by rw [wrap64_of (by have := hE.c.1; have := hE.c.2; omega)]) <| I_ready (rs := [4, 30]) SI (by kernel_rfl) (by simp) <| (I_cons Z ?_ (I_cons Z ?_ I_nil))
  refine xc fc28 (A1 Z) Z (coSlots) fun _ => I_ready (rs := [9, 30]) SI (by kernel_rfl) (by simp) <| (I_cons Z ?_ (I_cons Z ?_ I_nil))
  refine xc fc220 (A1 Z) Z (coMarks) fun _ => I_ready (rs := [26, 30]) SI (by kernel_rfl) (by simp) <| (I_cons Z ?_ (I_cons Z ?_ I_nil))
  refine xc fc219 (.cons Z (.cons Z (.cons Z (.cons Z (.cons Z (.cons Z .nil)))))) Z (coMakeG (s := s) (xp := x) (yp := y) (kind := q.e.b) (size := q.e.c) PC hck hmk hsl) fun _ => ip 27 Z Z Z Z (p_move Z) <| ip 28 Z Z Z Z (p_extract Z Z) <| ip 29 Z Z Z Z (p_extract Z Z) <| i1 30 Z <| x_alloc ty110 Z fun b7 => i1 31 Z <| x_store Z Z ty110 Z SM SM RO PT <| ip 32 Z Z Z Z (p_assign Z) <| i0 <| qx <| L_val Z (v_loadA Z ty110 HS CT) <| L_op <| x_store Z Z ty110 Z SM SM RO PT <| nx <| mv Z Z <| ag Z Z <| nq <| J_ret <| J_pick (A := blk b3 _ _) PC <| J_asTo (B := blk b3 110 (encC (makeS s.sl s.mr x y q.e.b q.e.c).2.1)) (by rfl) <| J_rcS (b1 := b1) (b3 := b3) (a := a) (c := (makeS s.sl s.mr x y q.e.b q.e.c).2.1) PX trivial <| J_pick (A := blk a _ _) PC <| J_asTo (B := actA a p T q i) (by rfl) <| J_pick (A := coA p _) PC ?_
  refine J_asTo (B := coA p (retF s q.e x y).1) (by rfl) <| J_pick (A := actA a p T q i) PC <| J_return (()) Tryz.results218 (.tmp Z .nil) ?_ ?_
  · rfl
  · exact SU
  refine x_alloc ty110 Z fun b7 => i1 26 Z <| xc fc219 (.cons Z (.cons Z (.cons Z (.cons Z (.cons Z (.cons Z .nil)))))) Z (coMakeG (s := s) (xp := x) (yp := y) (kind := q.e.b) (size := q.e.c) PC hck hmk hsl) fun _ => ip 27 Z Z Z Z (p_move Z) <| ip 28 Z Z Z Z (p_extract Z Z) <| ip 29 Z Z Z Z (p_extract Z Z) <| i1 31 Z <| x_store Z Z ty110 Z SM SM RO PT <| ip 32 Z Z Z Z (p_assign Z) <| i0 <| qx <| L_val Z (v_loadA Z ty110 HS CT) <| L_op <| x_store Z Z ty110 Z SM SM RO PT <| nx <| mv Z Z <| ag Z Z <| nq <| J_ret <| J_pick (A := blk b3 _ _) PC <| J_asTo (B := blk b3 110 (encC (makeS s.sl s.mr x y q.e.b q.e.c).2.1)) (by rfl) <| J_rcS (b1 := b1) (b3 := b3) (a := a) (c := (makeS s.sl s.mr x y q.e.b q.e.c).2.1) PX trivial <| J_pick (A := blk a _ _) PC <| J_asTo (B := actA a p T q i) (by rfl) <| J_pick (A := coA p _) PC ?_
  refine J_asTo (B := coA p (retF s q.e x y).1) (by rfl) <| J_pick (A := actA a p T q i) PC <| J_return (()) Tryz.results218 (.tmp Z .nil) ?_ ?_
  · rfl
  · exact SU
  refine x_alloc ty110 Z fun b7 => i1 9 Z <| xc fc220 (A1 Z) Z (coMarks) fun _ => i1 26 Z <| xc fc219 (.cons Z (.cons Z (.cons Z (.cons Z (.cons Z (.cons Z .nil)))))) Z (coMakeG (s := s) (xp := x) (yp := y) (kind := q.e.b) (size := q.e.c) PC hck hmk hsl) fun _ => ip 27 Z Z Z Z (p_move Z) <| ip 28 Z Z Z Z (p_extract Z Z) <| ip 29 Z Z Z Z (p_extract Z Z) <| i1 31 Z <| x_store Z Z ty110 Z SM SM RO PT <| ip 32 Z Z Z Z (p_assign Z) <| i0 <| qx <| L_val Z (v_loadA Z ty110 HS CT) <| L_op <| x_store Z Z ty110 Z SM SM RO PT <| nx <| mv Z Z <| ag Z Z <| nq <| J_ret <| J_pick (A := blk b3 _ _) PC <| J_asTo (B := blk b3 110 (encC (makeS s.sl s.mr x y q.e.b q.e.c).2.1)) (by rfl) <| J_rcS (b1 := b1) (b3 := b3) (a := a) (c := (makeS s.sl s.mr x y q.e.b q.e.c).2.1) PX trivial <| J_pick (A := blk a _ _) PC <| J_asTo (B := actA a p T q i) (by rfl) <| J_pick (A := coA p _) PC ?_
  refine J_asTo (B := coA p (retF s q.e x y).1) (by rfl) <| J_pick (A := actA a p T q i) PC <| J_return (()) Tryz.results218 (.tmp Z .nil) ?_ ?_
  · rfl
  · exact SU
  refine x_alloc ty110 Z fun b7 => i1 4 Z <| xc fc28 (A1 Z) Z (coSlots) fun _ => i1 9 Z <| xc fc220 (A1 Z) Z (coMarks) fun _ => i1 26 Z <| xc fc219 (.cons Z (.cons Z (.cons Z (.cons Z (.cons Z (.cons Z .nil)))))) Z (coMakeG (s := s) (xp := x) (yp := y) (kind := q.e.b) (size := q.e.c) PC hck hmk hsl) fun _ => ip 27 Z Z Z Z (p_move Z) <| ip 28 Z Z Z Z (p_extract Z Z) <| ip 29 Z Z Z Z (p_extract Z Z) <| i1 31 Z <| x_store Z Z ty110 Z SM SM RO PT <| ip 32 Z Z Z Z (p_assign Z) <| i0 <| qx <| L_val Z (v_loadA Z ty110 HS CT) <| L_op <| x_store Z Z ty110 Z SM SM RO PT <| nx <| mv Z Z <| ag Z Z <| nq <| J_ret <| J_pick (A := blk b3 _ _) PC <| J_asTo (B := blk b3 110 (encC (makeS s.sl s.mr x y q.e.b q.e.c).2.1)) (by rfl) <| J_rcS (b1 := b1) (b3 := b3) (a := a) (c := (makeS s.sl s.mr x y q.e.b q.e.c).2.1) PX trivial <| J_pick (A := blk a _ _) PC ?_
  refine J_asTo (B := actA a p T q i) (by rfl) <| J_pick (A := coA p _) PC <| J_asTo (B := coA p (retF s q.e x y).1) (by rfl) <| J_pick (A := actA a p T q i) PC <| J_return (()) Tryz.results218 (.tmp Z .nil) ?_ ?_
  · rfl
  · exact SU
theorem retypeG {a p : Nat} {q : Rq} (hp : Picks [actA a p T q i, coA p s] l m) (hE : SqeOk q.e) (hck : CapsOk s.sl) (hmk : MarksOk s.mr) (hMem : MemOk s.mem) (hsl : s.sl.length ≤ 100000) :
    Con Tryz.prog 157 #[.pointer (some ⟨a, 0, none⟩)] E l (fun b : Nat => encE (some (-(kRetC s T q.e), kRetV s T q.e))) (fun b => actA a p T q i :: coA p (kRetS s T q.e b) :: m) := by
  refine Con.body (n := 22) Tryz.func157 Z Z _ (env_ok 1 Z) <| J_picks2 hp <| sr <| L_op <| x_box Z Z Z fun b1 => L_op <| x_alloc ty276 Z fun b2 => nx <| L_op <| x_alloc ty110 Z fun b3 => nx <| L_val Z (v_load Z ty277 HS (by exact rfl)) <| L_pur Z (p_makeFunc (.cons Z (.cons Z .nil))) <| J_pick (A := blk b3 _ _) PC <| J_asTo (B := blk b3 110 (encC c0)) (by rfl) <| J_rcS (b1 := b1) (b3 := b3) (a := a) (c := c0) PX trivial <| xo fc206 (A2 Z Z) Z (twoG (C := rcA b1 b3 a c0) (D := fun x y => rcA b1 b3 a (makeS s.sl s.mr x y q.e.b q.e.c).2.1) (F := retF s q.e) Tryz.func218 nm218 bd218 (fun l m x y hp => cloR hp hE hck hmk hsl) PX hE (fun x y => makeS_code)) fun _ => L_op <| x_alloc ty276 Z fun b4 => L_op <| x_store Z Z ty276 Z SM SM RO PT <| nxx <| fa Z Z fa276_0 <| L_val Z (v_load Z ty3 HS (by exact rfl)) <| L_pur Z (p_eql Z Z) <| nq <| C_dec Z (fun h10 => ?_) (fun h10 => ?_)
  have hh10 : -(twoS s (retF s q.e) (twoAt s T q.e)).2 = 0 := h10
  have hc0 : kRetC s T q.e = 0 := by unfold kRetC; omega
  obtain ⟨xy, hxy⟩ : ∃ x, (twoAt s T q.e) = some x := by
    cases hq : (twoAt s T q.e) with
    | none => unfold kRetC at hc0; rw [hq] at hc0; simp [twoS] at hc0
    | some y => exact ⟨y, rfl⟩
  have hco : (makeS s.sl s.mr xy.1 xy.2 q.e.b q.e.c).2.2 = 0 := by
    have h := hc0
    unfold kRetC at h
    rw [hxy] at h
    exact h
  have hkk : kRetK s T q.e = (makeS s.sl s.mr xy.1 xy.2 q.e.b q.e.c).2.1 := by unfold kRetK; rw [hxy]
  have hob := makeS_obj hck hmk hco
  rw [← hkk] at hob
  refine J_pick (A := twoC _ _ _) PC <| J_asTo (B := rcA b1 b3 a (kRetK s T q.e)) (by rw [hxy, hkk]; rfl) <| J_rcO fun _ _ => J_pick (A := actA a p T q i) PC <| J_act <| J_seq <| J_drawT 5 mixed (by kernel_rfl) <| S_val Z (v_load Z ty277 HS (by exact rfl)) <| sp Z (p_nilCheck Z) <| sp Z (p_fieldAddr Z fa279_0) <| S_val Z (v_load Z ty24 HS (by exact rfl)) <| S_val Z (v_loadA Z ty110 HS CT) <| S_nil <| xo fc59 (A2 Z Z) Z (coMake (s := (twoS s (retF s q.e) (twoAt s T q.e)).1) (c := kRetK s T q.e) PC hob (by rw [hxy]; exact hMem)) fun x16 => ny <| fa Z Z fa110_1 <| L_val Z (v_load Z ty3 HS (by exact rfl)) <| L_pur Z (p_conv Z Tryz.underlying3 Tryz.underlying22) <| J_slot (t := 19) (v := .int .u32 ((kRetK s T q.e).obj)) Z (by rw [wrap32u_of (by omega)]) <| fa Z Z fa276_1 <| L_op <| x_store Z Z ty22 Z SM SM RO PT <| nx <| L_val Z (v_loadA Z ty276 HS CT) ?_
  refine L_op <| x_store Z Z ty276 Z SM SM RO PT <| nq <| J_ret <| J_pick (A := coA p _) PC <| J_asTo (B := coA p (kRetS s T q.e x16)) (by unfold kRetS; rw [if_pos hc0]) <| J_pick (A := blk a _ _) PC <| J_asTo (B := actA a p T q i) (by rfl) <| J_return (x16) Tryz.results157 (.cellA Z ty276 HS CT .nil) ?_ ?_
  · unfold kRetV; rw [if_pos hc0]; rfl
  · exact SU
  have hh10 : ¬ -(twoS s (retF s q.e) (twoAt s T q.e)).2 = 0 := h10
  have hc0 : ¬ kRetC s T q.e = 0 := by unfold kRetC; omega
  refine J_skip <| qx <| L_val Z (v_loadA Z ty276 HS CT) <| L_op <| x_store Z Z ty276 Z SM SM RO PT <| nq <| J_ret <| J_pick (A := coA p _) PC <| J_asTo (B := coA p (kRetS s T q.e 0)) (by unfold kRetS; rw [if_neg hc0]) <| J_pick (A := actA a p T q i) PC <| J_return (0) Tryz.results157 (.cellA Z ty276 HS CT .nil) ?_ ?_
  · unfold kRetV; rw [if_neg hc0]; rfl
  · exact SU
end Go.Pse
