/-
  Plain questions.
-/
import Derived.Test.YthjgdlhkdjgjpaaGreatCd
namespace Go.Pse
open Go.RowKit Go.Proofs

def cutI (n lo hi : Int) : Int := if hi < (if n < lo then lo else n) then hi else if n < lo then lo else n
set_option maxRecDepth 100000 in
set_option maxHeartbeats 4000000 in
theorem cCut {E : World} {l : List As} {n lo hi : Int} :
    Con Tryz.prog 20 #[.int .i64 n, .int .i64 lo, .int .i64 hi] E l (fun _ : Unit => .int .i64 (cutI n lo hi)) (fun _ => l) := by
  refine Con.body (vs := [.int .i64 n, .int .i64 lo, .int .i64 hi]) (n := 12) Tryz.func20 rfl rfl [(0, .int .i64 n), (1, .int .i64 lo), (2, .int .i64 hi)] (env_ok 3 rfl) <| sr <| ag rfl rfl <| nx <| mv rfl rfl <| mv rfl rfl <| L_pur rfl (p_max rfl rfl) <| mv rfl rfl ?_
  refine L_pur rfl (p_min rfl rfl) <| ag rfl rfl <| nq <| J_ret ?_
  refine J_return (()) Tryz.results20 (.tmp rfl .nil) ?_ ?_
  · first | rfl | (simp_all [one, cutI]; done) | (simp_all [one, cutI] <;> omega) | (simp_all [one, cutI] <;> grind)
  · exact SU

def okPrio (n : Int) : Bool := decide (0 ≤ n) && decide (n < 8)
set_option maxRecDepth 100000 in
set_option maxHeartbeats 4000000 in
theorem qRight {E : World} {l : List As} {n : Int} :
    Con Tryz.prog 69 #[.int .i64 n] E l (fun _ : Unit => .bool (okPrio n)) (fun _ => l) := by
  refine Con.body (vs := [.int .i64 n]) (n := 9) Tryz.func69 rfl rfl [(0, .int .i64 n)] (env_ok 1 rfl) <| sr <| ag rfl rfl <| nx <| mv rfl rfl <| L_pur rfl (p_geq rfl rfl) <| mv rfl rfl ?_
  refine J_gsplit (t := 5) rfl (fun h5 => ?_) (fun h5 => ?_)
  ·
    refine L_op <| G_on rfl rfl rfl <| J_pur (p_move rfl) rfl rfl rfl <| L_op <| G_on rfl rfl rfl <| J_pur (p_lss rfl rfl) rfl rfl rfl <| L_pur rfl (p_pick_t rfl rfl) <| ag rfl rfl ?_
    refine nq <| J_ret ?_
    refine J_return (()) Tryz.results69 (.tmp rfl .nil) ?_ ?_
    · first | rfl | (simp_all [one, okPrio]; done) | (simp_all [one, okPrio] <;> omega) | (simp_all [one, okPrio] <;> grind)
    · exact SU
  ·
    refine L_op <| G_off rfl rfl rfl rfl rfl rfl <| L_op <| G_off rfl rfl rfl rfl rfl rfl <| L_pur rfl (p_pick_f rfl rfl) <| ag rfl rfl <| nq <| J_ret ?_
    refine J_return (()) Tryz.results69 (.tmp rfl .nil) ?_ ?_
    · first | rfl | (simp_all [one, okPrio]; done) | (simp_all [one, okPrio] <;> omega) | (simp_all [one, okPrio] <;> grind)
    · exact SU

def okUnit (n : Int) : Bool := decide (1 ≤ n) && decide (n ≤ 64)
set_option maxRecDepth 100000 in
set_option maxHeartbeats 4000000 in
theorem sUnit {E : World} {l : List As} {n : Int} :
    Con Tryz.prog 39 #[.int .i64 n] E l (fun _ : Unit => .bool (okUnit n)) (fun _ => l) := by
  refine Con.body (vs := [.int .i64 n]) (n := 9) Tryz.func39 rfl rfl [(0, .int .i64 n)] (env_ok 1 rfl) <| sr <| ag rfl rfl <| nx <| mv rfl rfl <| L_pur rfl (p_geq rfl rfl) <| mv rfl rfl ?_
  refine J_gsplit (t := 5) rfl (fun h5 => ?_) (fun h5 => ?_)
  ·
    refine L_op <| G_on rfl rfl rfl <| J_pur (p_move rfl) rfl rfl rfl <| L_op <| G_on rfl rfl rfl <| J_pur (p_leq rfl rfl) rfl rfl rfl <| L_pur rfl (p_pick_t rfl rfl) <| ag rfl rfl ?_
    refine nq <| J_ret ?_
    refine J_return (()) Tryz.results39 (.tmp rfl .nil) ?_ ?_
    · first | rfl | (simp_all [one, okUnit]; done) | (simp_all [one, okUnit] <;> omega) | (simp_all [one, okUnit] <;> grind)
    · exact SU
  ·
    refine L_op <| G_off rfl rfl rfl rfl rfl rfl <| L_op <| G_off rfl rfl rfl rfl rfl rfl <| L_pur rfl (p_pick_f rfl rfl) <| ag rfl rfl <| nq <| J_ret ?_
    refine J_return (()) Tryz.results39 (.tmp rfl .nil) ?_ ?_
    · first | rfl | (simp_all [one, okUnit]; done) | (simp_all [one, okUnit] <;> omega) | (simp_all [one, okUnit] <;> grind)
    · exact SU

def inB (n lo hi : Int) : Bool := decide (lo ≤ n) && decide (n ≤ hi)
set_option maxRecDepth 100000 in
set_option maxHeartbeats 4000000 in
theorem cIn {E : World} {l : List As} {n lo hi : Int} :
    Con Tryz.prog 83 #[.int .i64 n, .int .i64 lo, .int .i64 hi] E l (fun _ : Unit => .bool (inB n lo hi)) (fun _ => l) := by
  refine Con.body (vs := [.int .i64 n, .int .i64 lo, .int .i64 hi]) (n := 15) Tryz.func83 rfl rfl [(0, .int .i64 n), (1, .int .i64 lo), (2, .int .i64 hi)] (env_ok 3 rfl) <| sr <| ag rfl rfl <| nx <| mv rfl rfl <| mv rfl rfl <| L_pur rfl (p_geq rfl rfl) <| mv rfl rfl ?_
  refine J_gsplit (t := 10) rfl (fun h10 => ?_) (fun h10 => ?_)
  ·
    refine L_op <| G_on rfl rfl rfl <| J_pur (p_move rfl) rfl rfl rfl <| L_op <| G_on rfl rfl rfl <| J_pur (p_move rfl) rfl rfl rfl <| L_op <| G_on rfl rfl rfl ?_
    refine J_pur (p_leq rfl rfl) rfl rfl rfl <| L_pur rfl (p_pick_t rfl rfl) <| ag rfl rfl <| nq <| J_ret ?_
    refine J_return (()) Tryz.results83 (.tmp rfl .nil) ?_ ?_
    · first | rfl | (simp_all [one, inB]; done) | (simp_all [one, inB] <;> omega) | (simp_all [one, inB] <;> grind)
    · exact SU
  ·
    refine L_op <| G_off rfl rfl rfl rfl rfl rfl <| L_op <| G_off rfl rfl rfl rfl rfl rfl <| L_op <| G_off rfl rfl rfl rfl rfl rfl <| L_pur rfl (p_pick_f rfl rfl) <| ag rfl rfl ?_
    refine nq <| J_ret ?_
    refine J_return (()) Tryz.results83 (.tmp rfl .nil) ?_ ?_
    · first | rfl | (simp_all [one, inB]; done) | (simp_all [one, inB] <;> omega) | (simp_all [one, inB] <;> grind)
    · exact SU

def canP (p : Place) : Bool := decide (1 ≤ p.1) && decide (p.1 ≤ 64) && decide (0 ≤ p.2) && decide (p.2 < 16)
set_option maxRecDepth 100000 in
set_option maxHeartbeats 4000000 in
theorem sCan {E : World} {l : List As} {p : Place} :
    Con Tryz.prog 65 #[.agg (encI p).toArray] E l (fun _ : Unit => .bool (canP p)) (fun _ => l) := by
  refine Con.body (vs := [.agg (encI p).toArray]) (n := 21) Tryz.func65 rfl rfl [(0, .agg (encI p).toArray)] (env_ok 1 rfl) <| sr <| L_op <| x_box rfl rfl rfl fun b1 => ag rfl rfl <| nx <| fa rfl rfl fa129_0 <| L_val rfl (v_load rfl ty3 HS (by exact rfl)) ?_
  refine L_pur rfl (p_geq rfl rfl) <| mv rfl rfl ?_
  refine J_gsplit (t := 6) rfl (fun h6 => ?_) (fun h6 => ?_)
  ·
    refine L_op <| G_on rfl rfl rfl <| J_pur (p_fieldAddr rfl fa129_0) rfl rfl rfl <| L_op <| G_on rfl rfl rfl <| J_val (v_load rfl ty3 HS (by exact rfl)) rfl rfl rfl ?_
    refine L_op <| G_on rfl rfl rfl <| J_pur (p_leq rfl rfl) rfl rfl rfl <| L_pur rfl (p_pick_t rfl rfl) <| mv rfl rfl ?_
    refine J_gsplit (t := 11) rfl (fun h11 => ?_) (fun h11 => ?_)
    ·
      refine L_op <| G_on rfl rfl rfl <| J_pur (p_fieldAddr rfl fa129_1) rfl rfl rfl <| L_op <| G_on rfl rfl rfl <| J_val (v_load rfl ty3 HS (by exact rfl)) rfl rfl rfl ?_
      refine L_op <| G_on rfl rfl rfl <| J_pur (p_geq rfl rfl) rfl rfl rfl <| L_pur rfl (p_pick_t rfl rfl) <| mv rfl rfl ?_
      refine J_gsplit (t := 16) rfl (fun h16 => ?_) (fun h16 => ?_)
      ·
        refine L_op <| G_on rfl rfl rfl <| J_pur (p_fieldAddr rfl fa129_1) rfl rfl rfl <| L_op <| G_on rfl rfl rfl <| J_val (v_load rfl ty3 HS (by exact rfl)) rfl rfl rfl ?_
        refine L_op <| G_on rfl rfl rfl <| J_pur (p_lss rfl rfl) rfl rfl rfl <| L_pur rfl (p_pick_t rfl rfl) <| ag rfl rfl <| nq <| J_ret ?_
        refine J_return (()) Tryz.results65 (.tmp rfl .nil) ?_ ?_
        · first | rfl | (simp_all [one, canP]; done) | (simp_all [one, canP] <;> omega) | (simp_all [one, canP] <;> grind)
        · exact SU
      ·
        refine L_op <| G_off rfl rfl rfl rfl rfl rfl <| L_op <| G_off rfl rfl rfl rfl rfl rfl <| L_op <| G_off rfl rfl rfl rfl rfl rfl <| L_pur rfl (p_pick_f rfl rfl) <| ag rfl rfl ?_
        refine nq <| J_ret ?_
        refine J_return (()) Tryz.results65 (.tmp rfl .nil) ?_ ?_
        · first | rfl | (simp_all [one, canP]; done) | (simp_all [one, canP] <;> omega) | (simp_all [one, canP] <;> grind)
        · exact SU
    ·
      refine L_op <| G_off rfl rfl rfl rfl rfl rfl <| L_op <| G_off rfl rfl rfl rfl rfl rfl <| L_op <| G_off rfl rfl rfl rfl rfl rfl <| L_pur rfl (p_pick_f rfl rfl) <| mv rfl rfl ?_
      refine L_op <| G_off rfl rfl rfl rfl rfl rfl <| L_op <| G_off rfl rfl rfl rfl rfl rfl <| L_op <| G_off rfl rfl rfl rfl rfl rfl <| L_pur rfl (p_pick_f rfl rfl) <| ag rfl rfl ?_
      refine nq <| J_ret ?_
      refine J_return (()) Tryz.results65 (.tmp rfl .nil) ?_ ?_
      · first | rfl | (simp_all [one, canP]; done) | (simp_all [one, canP] <;> omega) | (simp_all [one, canP] <;> grind)
      · exact SU
  ·
    refine L_op <| G_off rfl rfl rfl rfl rfl rfl <| L_op <| G_off rfl rfl rfl rfl rfl rfl <| L_op <| G_off rfl rfl rfl rfl rfl rfl <| L_pur rfl (p_pick_f rfl rfl) <| mv rfl rfl ?_
    refine L_op <| G_off rfl rfl rfl rfl rfl rfl <| L_op <| G_off rfl rfl rfl rfl rfl rfl <| L_op <| G_off rfl rfl rfl rfl rfl rfl <| L_pur rfl (p_pick_f rfl rfl) <| mv rfl rfl ?_
    refine L_op <| G_off rfl rfl rfl rfl rfl rfl <| L_op <| G_off rfl rfl rfl rfl rfl rfl <| L_op <| G_off rfl rfl rfl rfl rfl rfl <| L_pur rfl (p_pick_f rfl rfl) <| ag rfl rfl ?_
    refine nq <| J_ret ?_
    refine J_return (()) Tryz.results65 (.tmp rfl .nil) ?_ ?_
    · first | rfl | (simp_all [one, canP]; done) | (simp_all [one, canP] <;> omega) | (simp_all [one, canP] <;> grind)
    · exact SU

def shl1 (n : Int) : Int := IntKind.i64.wrap (1 * 2 ^ n.toNat)
theorem shl1_small : ∀ k : Nat, k ≤ 8 → shl1 (k : Int) = 2 ^ k ∧ (2 : Int) ^ k ≤ 256 ∧ (1 : Int) ≤ 2 ^ k := by decide
def checkC (c : Cap) : Bool := inB c.kind 1 9 && inB c.rights 0 7 && inB c.obj 1 64 &&
  (if c.kind = 1 then inB c.size 1 (64 - c.obj + 1) && decide (c.badge = 0)
   else if c.kind = 2 then inB c.size 0 8 && inB c.badge 0 (shl1 c.size - 1)
   else if c.kind = 4 ∨ c.kind = 5 then decide (c.size = 0) && inB c.badge 0 2147483647
   else decide (c.size = 0) && decide (c.badge = 0))
set_option maxRecDepth 100000 in
set_option maxHeartbeats 4000000 in
theorem cCheck {E : World} {l : List As} {c : Cap} :
    Con Tryz.prog 61 #[.agg (encC c).toArray] E l (fun _ : Unit => .bool (checkC c)) (fun _ => l) := by
  refine Con.body (vs := [.agg (encC c).toArray]) (n := 68) Tryz.func61 rfl rfl [(0, .agg (encC c).toArray)] (env_ok 1 rfl) <| sr <| L_op <| x_box rfl rfl rfl fun b1 => ag rfl rfl <| nxx <| fa rfl rfl fa119_0 <| L_val rfl (v_load rfl ty3 HS (by exact rfl)) ?_
  refine L_op <| x_call Tryz.func83 nm83 bd83 (.cons rfl (.cons rfl (.cons rfl .nil))) rfl (cIn) fun _ => L_pur rfl (p_not rfl) <| mv rfl rfl ?_
  refine J_gsplit (t := 7) rfl (fun h7 => ?_) (fun h7 => ?_)
  ·
    refine L_op <| G_off rfl rfl rfl rfl rfl rfl <| L_op <| G_off rfl rfl rfl rfl rfl rfl <| L_op <| G_off rfl rfl rfl rfl rfl rfl <| L_op <| G_off rfl rfl rfl rfl rfl rfl ?_
    refine L_pur rfl (p_pick_t rfl rfl) <| mv rfl rfl <| L_op <| G_off rfl rfl rfl rfl rfl rfl <| L_op <| G_off rfl rfl rfl rfl rfl rfl <| L_op <| G_off rfl rfl rfl rfl rfl rfl ?_
    refine L_op <| G_off rfl rfl rfl rfl rfl rfl <| L_pur rfl (p_pick_t rfl rfl) <| nq <| C_true rfl <| sr <| ag rfl rfl <| nq ?_
    refine J_ret <| Q_then_ret ?_
    refine J_return (()) Tryz.results61 (.tmp rfl .nil) ?_ ?_
    · first | rfl | (simp_all [one, checkC]; done) | (simp_all [one, checkC] <;> omega) | (simp_all [one, checkC] <;> grind)
    · exact SU
  ·
    refine L_op <| G_on rfl rfl rfl <| J_pur (p_fieldAddr rfl fa119_4) rfl rfl rfl <| L_op <| G_on rfl rfl rfl <| J_val (v_load rfl ty3 HS (by exact rfl)) rfl rfl rfl ?_
    refine L_op <| G_on rfl rfl rfl <| x_call Tryz.func83 nm83 bd83 (.cons rfl (.cons rfl (.cons rfl .nil))) rfl (cIn) fun _ => L_op <| G_on rfl rfl rfl <| J_pur (p_not rfl) rfl rfl rfl <| L_pur rfl (p_pick_f rfl rfl) <| mv rfl rfl ?_
    refine J_gsplit (t := 13) rfl (fun h13 => ?_) (fun h13 => ?_)
    ·
      refine L_op <| G_off rfl rfl rfl rfl rfl rfl <| L_op <| G_off rfl rfl rfl rfl rfl rfl <| L_op <| G_off rfl rfl rfl rfl rfl rfl <| L_op <| G_off rfl rfl rfl rfl rfl rfl ?_
      refine L_pur rfl (p_pick_t rfl rfl) <| nq <| C_true rfl <| sr <| ag rfl rfl <| nq <| J_ret <| Q_then_ret ?_
      refine J_return (()) Tryz.results61 (.tmp rfl .nil) ?_ ?_
      · first | rfl | (simp_all [one, checkC]; done) | (simp_all [one, checkC] <;> omega) | (simp_all [one, checkC] <;> grind)
      · exact SU
    ·
      refine L_op <| G_on rfl rfl rfl <| J_pur (p_fieldAddr rfl fa119_1) rfl rfl rfl <| L_op <| G_on rfl rfl rfl <| J_val (v_load rfl ty3 HS (by exact rfl)) rfl rfl rfl ?_
      refine L_op <| G_on rfl rfl rfl <| x_call Tryz.func83 nm83 bd83 (.cons rfl (.cons rfl (.cons rfl .nil))) rfl (cIn) fun _ => L_op <| G_on rfl rfl rfl <| J_pur (p_not rfl) rfl rfl rfl <| L_pur rfl (p_pick_f rfl rfl) <| nq ?_
      refine C_split rfl (fun h18 => ?_) (fun h18 => ?_)
      ·
        refine sr <| ag rfl rfl <| nq <| J_ret <| Q_then_ret ?_
        refine J_return (()) Tryz.results61 (.tmp rfl .nil) ?_ ?_
        · first | rfl | (simp_all [one, checkC]; done) | (simp_all [one, checkC] <;> omega) | (simp_all [one, checkC] <;> grind)
        · exact SU
      ·
        have ho : 1 ≤ c.obj ∧ c.obj ≤ 64 := by simpa [inB] using h18
        refine J_skip <| Q_then <| J_seq <| sr <| fa rfl rfl fa119_0 <| L_val rfl (v_load rfl ty3 HS (by exact rfl)) ?_
        refine nq <| J_block <| sr <| L_pur rfl (p_eql rfl rfl) <| ag rfl rfl <| nq ?_
        refine C_split rfl (fun h21 => ?_) (fun h21 => ?_)
        ·
          refine sr <| fa rfl rfl fa119_2 <| L_val rfl (v_load rfl ty3 HS (by exact rfl)) ?_
          refine fa rfl rfl fa119_1 <| L_val rfl (v_load rfl ty3 HS (by exact rfl)) ?_
          refine L_pur rfl (p_sub64 rfl rfl (by omega)) <| L_pur rfl (p_add64 rfl rfl (by omega)) <| L_op <| x_call Tryz.func83 nm83 bd83 (.cons rfl (.cons rfl (.cons rfl .nil))) rfl (cIn) fun _ => mv rfl rfl ?_
          refine J_gsplit (t := 30) rfl (fun h30 => ?_) (fun h30 => ?_)
          ·
            refine L_op <| G_on rfl rfl rfl <| J_pur (p_fieldAddr rfl fa119_3) rfl rfl rfl <| L_op <| G_on rfl rfl rfl <| J_val (v_load rfl ty3 HS (by exact rfl)) rfl rfl rfl ?_
            refine L_op <| G_on rfl rfl rfl <| J_pur (p_eql rfl rfl) rfl rfl rfl <| L_pur rfl (p_pick_t rfl rfl) <| ag rfl rfl <| nq <| J_ret <| Q_blk_ret ?_
            refine Q_then_ret ?_
            refine J_return (()) Tryz.results61 (.tmp rfl .nil) ?_ ?_
            · first | rfl | (simp_all [one, checkC]; done) | (simp_all [one, checkC] <;> omega) | (simp_all [one, checkC] <;> grind)
            · exact SU
          ·
            refine L_op <| G_off rfl rfl rfl rfl rfl rfl <| L_op <| G_off rfl rfl rfl rfl rfl rfl <| L_op <| G_off rfl rfl rfl rfl rfl rfl <| L_pur rfl (p_pick_f rfl rfl) <| ag rfl rfl ?_
            refine nq <| J_ret <| Q_blk_ret <| Q_then_ret ?_
            refine J_return (()) Tryz.results61 (.tmp rfl .nil) ?_ ?_
            · first | rfl | (simp_all [one, checkC]; done) | (simp_all [one, checkC] <;> omega) | (simp_all [one, checkC] <;> grind)
            · exact SU
        ·
          refine sr <| L_pur rfl (p_eql rfl rfl) <| ag rfl rfl <| nq ?_
          refine C_split rfl (fun h35 => ?_) (fun h35 => ?_)
          ·
            refine J_seq <| J_drawL none mixed <| ip 0 rfl rfl rfl rfl (p_fieldAddr rfl fa119_2) <| iv 1 rfl rfl rfl rfl (fun _ => v_load rfl ty3 HS (by exact rfl)) ?_
            refine i1 2 rfl <| x_call Tryz.func83 nm83 bd83 (.cons rfl (.cons rfl (.cons rfl .nil))) rfl (cIn) fun _ => ip 3 rfl rfl rfl rfl (p_move rfl) ?_
            refine J_gsplit (t := 40) rfl (fun h40 => ?_) (fun h40 => ?_)
            ·
              have hsz : 0 ≤ c.size ∧ c.size ≤ 8 := by simpa [inB] using h40
              obtain ⟨k, hk⟩ : ∃ k : Nat, c.size = k := ⟨c.size.toNat, by omega⟩
              obtain ⟨g1, g2, g3⟩ := shl1_small k (by omega)
              have g4 : shl1 c.size = 2 ^ k := by rw [hk]; exact g1
              have g5 : (IntKind.i64.bits : Int) = 64 := rfl
              refine I_takeOn (i := 4) rfl rfl rfl rfl rfl rfl rfl (by kernel_rfl) (fun _ _ _ _ h => h) (fun _ => Pur.vl (p_fieldAddr rfl fa119_3)) <| I_takeOn (i := 5) rfl rfl rfl rfl rfl rfl rfl (by kernel_rfl) (fun _ _ _ _ h => h) (fun _ => v_load rfl ty3 HS (by exact rfl)) ?_
              refine I_takeOn (i := 6) rfl rfl rfl rfl rfl rfl rfl (by kernel_rfl) (fun _ _ _ _ h => h) (fun _ => Pur.vl (p_fieldAddr rfl fa119_2)) <| I_takeOn (i := 7) rfl rfl rfl rfl rfl rfl rfl (by kernel_rfl) (fun _ _ _ _ h => h) (fun _ => v_load rfl ty3 HS (by exact rfl)) ?_
              refine I_takeOn (i := 8) rfl rfl rfl rfl rfl rfl rfl (by kernel_rfl) (fun _ _ _ _ h => h) (fun _ => Pur.vl (p_shl rfl rfl (by omega) (by omega))) <| J_slot (t := 45) (v := .int .i64 (shl1 c.size)) rfl rfl <| I_takeOn (i := 9) rfl rfl rfl rfl rfl rfl rfl (by kernel_rfl) (fun _ _ _ _ h => h) (fun _ => Pur.vl (p_sub64 rfl rfl (by omega))) <| i1 10 rfl <| G_on rfl rfl rfl <| x_call Tryz.func83 nm83 bd83 (.cons rfl (.cons rfl (.cons rfl .nil))) rfl (cIn) fun _ => ip 11 rfl rfl rfl rfl (p_pick_t rfl rfl) <| ip 12 rfl rfl rfl rfl (p_assign rfl) ?_
              refine i0 <| Q_then <| J_ret <| Q_blk_ret <| Q_then_ret ?_
              refine J_return (()) Tryz.results61 (.tmp rfl .nil) ?_ ?_
              · first | rfl | (simp_all [one, checkC]; done) | (simp_all [one, checkC] <;> omega) | (simp_all [one, checkC] <;> grind)
              · exact SU
            ·
              refine I_takeOff (i := 4) rfl rfl rfl rfl rfl rfl rfl rfl (by kernel_rfl) (fun _ _ _ _ h => h) <| I_takeOff (i := 5) rfl rfl rfl rfl rfl rfl rfl rfl (by kernel_rfl) (fun _ _ _ _ h => h) <| I_takeOff (i := 6) rfl rfl rfl rfl rfl rfl rfl rfl (by kernel_rfl) (fun _ _ _ _ h => h) <| I_takeOff (i := 7) rfl rfl rfl rfl rfl rfl rfl rfl (by kernel_rfl) (fun _ _ _ _ h => h) <| I_takeOff (i := 8) rfl rfl rfl rfl rfl rfl rfl rfl (by kernel_rfl) (fun _ _ _ _ h => h) <| I_takeOff (i := 9) rfl rfl rfl rfl rfl rfl rfl rfl (by kernel_rfl) (fun _ _ _ _ h => h) <| I_takeOff (i := 10) rfl rfl rfl rfl rfl rfl rfl rfl (by kernel_rfl) (fun _ _ _ _ h => h) <| ip 11 rfl rfl rfl rfl (p_pick_f rfl rfl) ?_
              refine ip 12 rfl rfl rfl rfl (p_assign rfl) <| i0 <| Q_then <| J_ret <| Q_blk_ret <| Q_then_ret ?_
              refine J_return (()) Tryz.results61 (.tmp rfl .nil) ?_ ?_
              · first | rfl | (simp_all [one, checkC]; done) | (simp_all [one, checkC] <;> omega) | (simp_all [one, checkC] <;> grind)
              · exact SU
          ·
            refine J_seq <| sr <| L_pur rfl (p_eql rfl rfl) <| ag rfl rfl <| nq ?_
            refine C_split rfl (fun h49 => ?_) (fun h49 => ?_)
            ·
              refine J_skip <| Q_then ?_
              refine C_split rfl (fun h49 => ?_) (fun h49 => ?_)
              ·
                refine sr <| fa rfl rfl fa119_2 <| L_val rfl (v_load rfl ty3 HS (by exact rfl)) ?_
                refine L_pur rfl (p_eql rfl rfl) <| mv rfl rfl ?_
                refine J_gsplit (t := 55) rfl (fun h55 => ?_) (fun h55 => ?_)
                ·
                  refine L_op <| G_on rfl rfl rfl <| J_pur (p_fieldAddr rfl fa119_3) rfl rfl rfl <| L_op <| G_on rfl rfl rfl <| J_val (v_load rfl ty3 HS (by exact rfl)) rfl rfl rfl ?_
                  refine L_op <| G_on rfl rfl rfl <| x_call Tryz.func83 nm83 bd83 (.cons rfl (.cons rfl (.cons rfl .nil))) rfl (cIn) fun _ => L_pur rfl (p_pick_t rfl rfl) <| ag rfl rfl <| nq <| J_ret <| Q_blk_ret ?_
                  refine Q_then_ret ?_
                  refine J_return (()) Tryz.results61 (.tmp rfl .nil) ?_ ?_
                  · first | rfl | (simp_all [one, checkC]; done) | (simp_all [one, checkC] <;> omega) | (simp_all [one, checkC] <;> grind)
                  · exact SU
                ·
                  refine L_op <| G_off rfl rfl rfl rfl rfl rfl <| L_op <| G_off rfl rfl rfl rfl rfl rfl <| L_op <| G_off rfl rfl rfl rfl rfl rfl <| L_pur rfl (p_pick_f rfl rfl) <| ag rfl rfl ?_
                  refine nq <| J_ret <| Q_blk_ret <| Q_then_ret ?_
                  refine J_return (()) Tryz.results61 (.tmp rfl .nil) ?_ ?_
                  · first | rfl | (simp_all [one, checkC]; done) | (simp_all [one, checkC] <;> omega) | (simp_all [one, checkC] <;> grind)
                  · exact SU
              ·
                refine J_skip <| Q_blk_normal <| qx <| fa rfl rfl fa119_2 <| L_val rfl (v_load rfl ty3 HS (by exact rfl)) ?_
                refine L_pur rfl (p_eql rfl rfl) <| mv rfl rfl ?_
                refine J_gsplit (t := 63) rfl (fun h63 => ?_) (fun h63 => ?_)
                ·
                  refine L_op <| G_on rfl rfl rfl <| J_pur (p_fieldAddr rfl fa119_3) rfl rfl rfl <| L_op <| G_on rfl rfl rfl <| J_val (v_load rfl ty3 HS (by exact rfl)) rfl rfl rfl ?_
                  refine L_op <| G_on rfl rfl rfl <| J_pur (p_eql rfl rfl) rfl rfl rfl <| L_pur rfl (p_pick_t rfl rfl) <| ag rfl rfl <| nq <| J_ret ?_
                  refine J_return (()) Tryz.results61 (.tmp rfl .nil) ?_ ?_
                  · first | rfl | (simp_all [one, checkC]; done) | (simp_all [one, checkC] <;> omega) | (simp_all [one, checkC] <;> grind)
                  · exact SU
                ·
                  refine L_op <| G_off rfl rfl rfl rfl rfl rfl <| L_op <| G_off rfl rfl rfl rfl rfl rfl <| L_op <| G_off rfl rfl rfl rfl rfl rfl <| L_pur rfl (p_pick_f rfl rfl) <| ag rfl rfl ?_
                  refine nq <| J_ret ?_
                  refine J_return (()) Tryz.results61 (.tmp rfl .nil) ?_ ?_
                  · first | rfl | (simp_all [one, checkC]; done) | (simp_all [one, checkC] <;> omega) | (simp_all [one, checkC] <;> grind)
                  · exact SU
            ·
              refine J_region <| L_pur rfl (p_eql rfl rfl) <| ag rfl rfl <| nq ?_
              refine C_split rfl (fun h49 => ?_) (fun h49 => ?_)
              ·
                refine sr <| fa rfl rfl fa119_2 <| L_val rfl (v_load rfl ty3 HS (by exact rfl)) ?_
                refine L_pur rfl (p_eql rfl rfl) <| mv rfl rfl ?_
                refine J_gsplit (t := 55) rfl (fun h55 => ?_) (fun h55 => ?_)
                ·
                  refine L_op <| G_on rfl rfl rfl <| J_pur (p_fieldAddr rfl fa119_3) rfl rfl rfl <| L_op <| G_on rfl rfl rfl <| J_val (v_load rfl ty3 HS (by exact rfl)) rfl rfl rfl ?_
                  refine L_op <| G_on rfl rfl rfl <| x_call Tryz.func83 nm83 bd83 (.cons rfl (.cons rfl (.cons rfl .nil))) rfl (cIn) fun _ => L_pur rfl (p_pick_t rfl rfl) <| ag rfl rfl <| nq <| J_ret <| Q_blk_ret ?_
                  refine Q_then_ret ?_
                  refine J_return (()) Tryz.results61 (.tmp rfl .nil) ?_ ?_
                  · first | rfl | (simp_all [one, checkC]; done) | (simp_all [one, checkC] <;> omega) | (simp_all [one, checkC] <;> grind)
                  · exact SU
                ·
                  refine L_op <| G_off rfl rfl rfl rfl rfl rfl <| L_op <| G_off rfl rfl rfl rfl rfl rfl <| L_op <| G_off rfl rfl rfl rfl rfl rfl <| L_pur rfl (p_pick_f rfl rfl) <| ag rfl rfl ?_
                  refine nq <| J_ret <| Q_blk_ret <| Q_then_ret ?_
                  refine J_return (()) Tryz.results61 (.tmp rfl .nil) ?_ ?_
                  · first | rfl | (simp_all [one, checkC]; done) | (simp_all [one, checkC] <;> omega) | (simp_all [one, checkC] <;> grind)
                  · exact SU
              ·
                refine J_skip <| Q_blk_normal <| qx <| fa rfl rfl fa119_2 <| L_val rfl (v_load rfl ty3 HS (by exact rfl)) ?_
                refine L_pur rfl (p_eql rfl rfl) <| mv rfl rfl ?_
                refine J_gsplit (t := 63) rfl (fun h63 => ?_) (fun h63 => ?_)
                ·
                  refine L_op <| G_on rfl rfl rfl <| J_pur (p_fieldAddr rfl fa119_3) rfl rfl rfl <| L_op <| G_on rfl rfl rfl <| J_val (v_load rfl ty3 HS (by exact rfl)) rfl rfl rfl ?_
                  refine L_op <| G_on rfl rfl rfl <| J_pur (p_eql rfl rfl) rfl rfl rfl <| L_pur rfl (p_pick_t rfl rfl) <| ag rfl rfl <| nq <| J_ret ?_
                  refine J_return (()) Tryz.results61 (.tmp rfl .nil) ?_ ?_
                  · first | rfl | (simp_all [one, checkC]; done) | (simp_all [one, checkC] <;> omega) | (simp_all [one, checkC] <;> grind)
                  · exact SU
                ·
                  refine L_op <| G_off rfl rfl rfl rfl rfl rfl <| L_op <| G_off rfl rfl rfl rfl rfl rfl <| L_op <| G_off rfl rfl rfl rfl rfl rfl <| L_pur rfl (p_pick_f rfl rfl) <| ag rfl rfl ?_
                  refine nq <| J_ret ?_
                  refine J_return (()) Tryz.results61 (.tmp rfl .nil) ?_ ?_
                  · first | rfl | (simp_all [one, checkC]; done) | (simp_all [one, checkC] <;> omega) | (simp_all [one, checkC] <;> grind)
                  · exact SU

end Go.Pse
