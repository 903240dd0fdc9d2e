/-
  A drawn number, below another one.
-/
import Derived.Test.YthjgdlhkdjgjpaaGreatTy
import Derived.Test.YthjgdlhkdjgjpaaGreatMore
namespace Go.Pse
open Go.RowKit Go.Proofs

abbrev ID := Int × Int
def encI (i : ID) : List Value := [.int .i64 i.1, .int .i64 i.2]
def encB (b : Bool) : List Value := [.bool b]
/-- What a drawn number comes to, below b. -/
def num (x b : Int) : Nat := (x % b).toNat
theorem num_lt {x b : Int} (h : 0 < b) : ((num x b : Nat) : Int) < b := by
  have h1 := Int.emod_nonneg x (show b ≠ 0 by omega)
  have h2 := Int.emod_lt_of_pos x h
  unfold num; omega
theorem num_lt' {x : Int} {b : Nat} (h : 0 < b) : num x (b : Int) < b := by
  have := num_lt (x := x) (b := (b : Int)) (by omega); omega
theorem num_t {x b : Int} (h : 0 < b) : -b < x.tmod b ∧ x.tmod b < b ∧ (x.tmod b < 0 → x.tmod b + b = ((num x b : Nat) : Int)) ∧ (¬ x.tmod b < 0 → x.tmod b = ((num x b : Nat) : Int)) := by
  have h0 : x % b = (x.tmod b) % b := by
    have := Int.tdiv_mul_add_tmod x b
    conv => lhs; rw [← this]
    rw [Int.add_comm, Int.add_mul_emod_self_right]
  have h1 := Int.emod_nonneg x (show b ≠ 0 by omega)
  have h3 : -b < x.tmod b := by
    have := Int.lt_tmod_of_pos x h
    omega
  have h4 : x.tmod b < b := Int.tmod_lt_of_pos x h
  refine ⟨h3, h4, fun hn => ?_, fun hn => ?_⟩
  · have : (x.tmod b) % b = x.tmod b + b := by
      rw [← Int.add_emod_right]
      exact Int.emod_eq_of_lt (by omega) (by omega)
    unfold num; omega
  · have : (x.tmod b) % b = x.tmod b := Int.emod_eq_of_lt (by omega) h4
    unfold num; omega

set_option maxRecDepth 100000 in
set_option maxHeartbeats 4000000 in
theorem number {E : World} {l : List As} {x b : Int} (hb : 0 < b) (hb2 : b ≤ 1000000000000) :
  Con Tryz.prog 9 #[.int .i64 x, .int .i64 b] E l (fun _ : Unit => .int .i64 ((num x b : Nat) : Int)) (fun _ => l) := by
 refine Con.body (vs := [.int .i64 x, .int .i64 b]) (n := 15) Tryz.func9 rfl rfl [(0, .int .i64 x), (1, .int .i64 b)] (env_ok 2 rfl) ?_
 obtain ⟨h1, h2, h3, h4⟩ := num_t (x := x) hb
 refine sr <| ag rfl rfl <| nx <| mv rfl rfl <| mv rfl rfl <| L_pur rfl (p_rem rfl rfl (by omega)) <| ag rfl rfl <| nxx ?_
 refine mv rfl rfl <| L_pur rfl (p_lss rfl rfl) <| nq ?_
 refine C_dec rfl (fun h10 => ?_) (fun h10 => ?_)
 ·
  have := h3 h10
  refine J_region <| mv rfl rfl <| mv rfl rfl <| L_pur rfl (p_add64 rfl rfl (by omega)) <| J_slot (t := 13) (v := .int .i64 ((num x b : Nat) : Int)) rfl (by rw [h3 h10]) <| ag rfl rfl <| nx <| mv rfl rfl ?_
  refine ag rfl rfl <| nq <| J_ret ?_
  exact J_return (()) Tryz.results9 (.tmp rfl .nil) rfl SU
 ·
  have := h4 h10
  refine J_slot (t := 5) (v := .int .i64 ((num x b : Nat) : Int)) rfl (by rw [h4 h10]) <| J_skip <| qx <| mv rfl rfl <| ag rfl rfl <| nq <| J_ret ?_
  exact J_return (()) Tryz.results9 (.tmp rfl .nil) rfl SU

end Go.Pse
