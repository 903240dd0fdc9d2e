/-
  Whole numbers, pairs of them: compared.
-/
import Derived.Test.YthjgdlhkdjgjpaaGreatC8
import Derived.Test.YthjgdlhkdjgjpaaGreatSortF
namespace Go.Pse
open Go.RowKit Go.Proofs

def cmpZ (x y : Int) : Int := if x < y then -1 else if y < x then 1 else 0
def orZ (x y : Int) : Int := if x = 0 then y else x
def cmpP (a b : Int × Int) : Int := orZ (cmpZ a.1 b.1) (cmpZ a.2 b.2)
set_option maxRecDepth 100000 in
set_option maxHeartbeats 4000000 in
theorem nanZ {E : World} {l : List As} {x : Int} :
    Con Tryz.prog 58 #[.int .i64 x] E l (fun _ : Unit => .bool false) (fun _ => l) := by
  refine Con.body (vs := [.int .i64 x]) (n := 6) Tryz.func58 rfl rfl [(0, .int .i64 x)] (env_ok 1 rfl) <| sr <| ag rfl rfl <| nx <| mv rfl rfl <| mv rfl rfl <| L_pur rfl (p_neq rfl rfl) <| J_bool (t := 5) (c := false) rfl (by simp) ?_
  refine ag rfl rfl <| nq <| J_ret ?_
  exact J_return (()) Tryz.results58 (.tmp rfl .nil) rfl SU

set_option maxRecDepth 100000 in
set_option maxHeartbeats 4000000 in
theorem cmpZC {E : World} {l : List As} {x y : Int} :
    Con Tryz.prog 38 #[.int .i64 x, .int .i64 y] E l (fun _ : Unit => .int .i64 (cmpZ x y)) (fun _ => l) := by
  refine Con.body (vs := [.int .i64 x, .int .i64 y]) (n := 20) Tryz.func38 rfl rfl [(0, .int .i64 x), (1, .int .i64 y)] (env_ok 2 rfl) <| sr <| ag rfl rfl <| nx <| mv rfl rfl <| L_op <| x_call Tryz.func58 nm58 bd58 (.cons rfl .nil) rfl (nanZ) fun _ => ag rfl rfl ?_
  refine nx <| mv rfl rfl <| L_op <| x_call Tryz.func58 nm58 bd58 (.cons rfl .nil) rfl (nanZ) fun _ => ag rfl rfl <| nxx <| mv rfl rfl <| nq ?_
  refine J_bool (t := 11) (c := false) rfl (rfl) <| C_false rfl <| J_skip <| Q_then <| J_seq <| sr <| mv rfl rfl <| nq ?_
  refine J_bool (t := 13) (c := false) rfl (rfl) <| C_false rfl <| J_skip <| Q_then <| J_seq <| sr <| mv rfl rfl <| mv rfl rfl ?_
  refine L_pur rfl (p_lss rfl rfl) <| nq ?_
  refine C_dec rfl (fun h16 => ?_) (fun h16 => ?_)
  ·
    refine sr <| ag rfl rfl <| nq <| J_ret <| Q_then_ret ?_
    refine J_return (()) Tryz.results38 (.tmp rfl .nil) ?_ ?_
    · simp only [one, cmpZ]; congr 1; (repeat' split) <;> omega
    · exact SU
  ·
    refine J_skip <| Q_then <| J_seq <| sr <| mv rfl rfl <| mv rfl rfl <| L_pur rfl (p_gtr rfl rfl) <| nq ?_
    refine C_dec rfl (fun h19 => ?_) (fun h19 => ?_)
    ·
      refine sr <| ag rfl rfl <| nq <| J_ret <| Q_then_ret ?_
      refine J_return (()) Tryz.results38 (.tmp rfl .nil) ?_ ?_
      · simp only [one, cmpZ]; congr 1; (repeat' split) <;> omega
      · exact SU
    ·
      refine J_skip <| qx <| ag rfl rfl <| nq <| J_ret ?_
      refine J_return (()) Tryz.results38 (.tmp rfl .nil) ?_ ?_
      · simp only [one, cmpZ]; congr 1; (repeat' split) <;> omega
      · exact SU

set_option maxRecDepth 100000 in
set_option maxHeartbeats 4000000 in
theorem orZC {E : World} {l m : List As} {v : Value} {x y : Int} (hp : Pick (row 3 1 v [[.int .i64 x], [.int .i64 y]]) l m) :
    Con Tryz.prog 37 #[v] E l (fun _ : Unit => .int .i64 (orZ x y)) (fun _ => m) := by
  refine Con.body (vs := [v]) (n := 18) Tryz.func37 rfl rfl [(0, v)] (env_ok 1 rfl) <| J_pick hp <| J_row .here fun hw a cap hv h1 h2 h3 => ?_
  subst hv
  obtain ⟨b, o, rfl⟩ := h3 (by simp)
  have hm : cap ≤ 9223372036854775807 := h2
  refine sr <| ag rfl rfl <| nx <| ag rfl rfl <| nxx <| mv rfl rfl <| L_pur rfl (p_len rfl Tryz.underlying22) <| J_slot (t := 7) (v := .int .i64 2) rfl rfl ?_
  refine mv rfl rfl <| nq <| J_block <| J_loop (α := Nat) (fun i => i ≤ 2 ∧ (0 < i → x = 0) ∧ (1 < i → y = 0)) (fun _ => row 3 1 (.slice (some ⟨b, o, none⟩) [[Value.int .i64 x], [Value.int .i64 y]].length cap) [[.int .i64 x], [.int .i64 y]] :: m) (fun i => [(8, .int .i64 (i : Int)), (6, .slice (some ⟨b, o, none⟩) [[Value.int .i64 x], [Value.int .i64 y]].length cap), (7, .int .i64 2), (3, .int .i64 0)]) (fun i => 2 - i) 0 (by omega) SU KE ?_
  intro i hi
  obtain ⟨hi, hx, hy⟩ := hi
  refine sr <| L_pur rfl (p_lss rfl rfl) <| nq <| J_seq ?_
  refine C_dec rfl (fun h9 => ?_) (fun h9 => ?_)
  ·
    have hml : [[Value.int .i64 x], [Value.int .i64 y]].length = 2 := rfl
    obtain ⟨c, hcc, hco⟩ : ∃ c : Int, [[Value.int .i64 x], [Value.int .i64 y]][i]? = some [.int .i64 c] ∧ ((i = 0 ∧ c = x) ∨ (i = 1 ∧ c = y)) := by
      have : i = 0 ∨ i = 1 := by omega
      rcases this with rfl | rfl
      · exact ⟨x, rfl, .inl ⟨rfl, rfl⟩⟩
      · exact ⟨y, rfl, .inr ⟨rfl, rfl⟩⟩
    refine J_skip <| Q_then <| J_seq <| J_block <| sr <| L_pur rfl (p_indexAddr rfl rfl Tryz.underlying22 ty3 (by omega) (by omega)) <| L_val rfl (v_loadE1 rfl ty3 HS (by simpa using hcc)) ?_
    refine ag rfl rfl <| nx <| mv rfl rfl <| mv rfl rfl <| L_pur rfl (p_neq rfl rfl) <| nq ?_
    refine C_dec rfl (fun h14 => ?_) (fun h14 => ?_)
    ·
      refine sr <| mv rfl rfl <| ag rfl rfl <| nq <| J_ret <| Q_blk_ret <| Q_then_ret <| Q_then_ret ?_
      refine Q_blk_ret <| Q_then_ret ?_
      refine J_return (()) Tryz.results37 (.tmp rfl .nil) ?_ ?_
      · have hor : orZ x y = c := by
          unfold orZ
          rcases hco with ⟨h0, rfl⟩ | ⟨h0, rfl⟩
          · exact if_neg h14
          · exact if_pos (hx (by omega))
        rw [hor]; rfl
      · exact SU
    ·
      have hc0 : c = 0 := by omega
      refine J_skip <| Q_blk_normal <| qr <| L_pur rfl (p_add64 rfl rfl (by omega)) <| mv rfl rfl <| nq ?_
      exact J_again (i + 1) (by omega) (by refine ⟨by omega, fun h => ?_, fun h => ?_⟩ <;> rcases hco with ⟨h0, rfl⟩ | ⟨h0, rfl⟩ <;> first | exact hc0 | exact hx (by omega) | omega) SU KE
  ·
    have hi2 : i = 2 := by omega
    obtain ⟨hx, hy⟩ : x = 0 ∧ y = 0 := ⟨hx (by omega), hy (by omega)⟩
    subst hx hy
    refine J_exit <| Q_then_exit <| Q_then_exit <| Q_blk_this <| qx <| mv rfl rfl <| ag rfl rfl <| nq ?_
    refine J_ret ?_
    refine J_return (()) Tryz.results37 (.tmp rfl .nil) ?_ ?_
    · simp [one, orZ]
    · exact SU

set_option maxRecDepth 100000 in
set_option maxHeartbeats 4000000 in
theorem cmpSl {E : World} {l : List As} {a b : Int × Int} :
    Con Tryz.prog 82 #[.agg (encI a).toArray, .agg (encI b).toArray] E l (fun _ : Unit => .int .i64 (cmpP a b)) (fun _ => l) := by
  refine Con.body (vs := [.agg (encI a).toArray, .agg (encI b).toArray]) (n := 17) Tryz.func82 rfl rfl [(0, .agg (encI a).toArray), (1, .agg (encI b).toArray)] (env_ok 2 rfl) <| sr <| L_op <| x_box rfl rfl rfl fun b2 => L_op <| x_box rfl rfl rfl fun b3 => ag rfl rfl <| nq ?_
  refine J_seq <| J_drawL none mixed <| ip 0 rfl rfl rfl rfl (p_fieldAddr rfl fa129_0) <| iv 1 rfl rfl rfl rfl (fun _ => v_load rfl ty3 HS (by exact rfl)) ?_
  refine ip 2 rfl rfl rfl rfl (p_fieldAddr rfl fa129_0) <| iv 3 rfl rfl rfl rfl (fun _ => v_load rfl ty3 HS (by exact rfl)) ?_
  refine ip 5 rfl rfl rfl rfl (p_fieldAddr rfl fa129_1) <| iv 6 rfl rfl rfl rfl (fun _ => v_load rfl ty3 HS (by exact rfl)) ?_
  refine ip 7 rfl rfl rfl rfl (p_fieldAddr rfl fa129_1) <| iv 8 rfl rfl rfl rfl (fun _ => v_load rfl ty3 HS (by exact rfl)) ?_
  refine i1 4 rfl <| x_call Tryz.func38 nm38 bd38 (.cons rfl (.cons rfl .nil)) rfl (cmpZC (x := a.1) (y := b.1)) fun _ => i1 9 rfl <| x_call Tryz.func38 nm38 bd38 (.cons rfl (.cons rfl .nil)) rfl (cmpZC (x := a.2) (y := b.2)) fun _ => i1 10 rfl <| x_lit (vals := [_, _]) Tryz.underlying22 ty3 rfl (.cons rfl (.cons rfl .nil)) (.one rfl (.one rfl .nil)) (Wf.cons rfl rfl (Wf.cons rfl rfl Wf.nil)) rfl (by decide) rfl rfl <| JR fun a15 c15 hw15 hl15 hm15 hz15 => i1 11 rfl ?_
  refine x_call Tryz.func37 nm37 bd37 (.cons rfl .nil) rfl (orZC (x := cmpZ a.1 b.1) (y := cmpZ a.2 b.2) PC) fun _ => ?_
  refine ip 12 rfl rfl rfl rfl (p_assign rfl) <| i0 <| Q_then <| J_ret ?_
  refine J_return (()) Tryz.results82 (.tmp rfl .nil) ?_ ?_
  · rfl
  · exact SU

set_option maxRecDepth 100000 in
set_option maxHeartbeats 4000000 in
theorem cmpPg {E : World} {l : List As} {a b : Int × Int} :
    Con Tryz.prog 77 #[.agg (encI a).toArray, .agg (encI b).toArray] E l (fun _ : Unit => .int .i64 (cmpP a b)) (fun _ => l) := by
  refine Con.body (vs := [.agg (encI a).toArray, .agg (encI b).toArray]) (n := 17) Tryz.func77 rfl rfl [(0, .agg (encI a).toArray), (1, .agg (encI b).toArray)] (env_ok 2 rfl) <| sr <| L_op <| x_box rfl rfl rfl fun b2 => L_op <| x_box rfl rfl rfl fun b3 => ag rfl rfl <| nq ?_
  refine J_seq <| J_drawL none mixed <| ip 0 rfl rfl rfl rfl (p_fieldAddr rfl fa54_0) <| iv 1 rfl rfl rfl rfl (fun _ => v_load rfl ty3 HS (by exact rfl)) ?_
  refine ip 2 rfl rfl rfl rfl (p_fieldAddr rfl fa54_0) <| iv 3 rfl rfl rfl rfl (fun _ => v_load rfl ty3 HS (by exact rfl)) ?_
  refine ip 5 rfl rfl rfl rfl (p_fieldAddr rfl fa54_1) <| iv 6 rfl rfl rfl rfl (fun _ => v_load rfl ty3 HS (by exact rfl)) ?_
  refine ip 7 rfl rfl rfl rfl (p_fieldAddr rfl fa54_1) <| iv 8 rfl rfl rfl rfl (fun _ => v_load rfl ty3 HS (by exact rfl)) ?_
  refine i1 4 rfl <| x_call Tryz.func38 nm38 bd38 (.cons rfl (.cons rfl .nil)) rfl (cmpZC (x := a.1) (y := b.1)) fun _ => i1 9 rfl <| x_call Tryz.func38 nm38 bd38 (.cons rfl (.cons rfl .nil)) rfl (cmpZC (x := a.2) (y := b.2)) fun _ => i1 10 rfl <| x_lit (vals := [_, _]) Tryz.underlying22 ty3 rfl (.cons rfl (.cons rfl .nil)) (.one rfl (.one rfl .nil)) (Wf.cons rfl rfl (Wf.cons rfl rfl Wf.nil)) rfl (by decide) rfl rfl <| JR fun a15 c15 hw15 hl15 hm15 hz15 => i1 11 rfl ?_
  refine x_call Tryz.func37 nm37 bd37 (.cons rfl .nil) rfl (orZC (x := cmpZ a.1 b.1) (y := cmpZ a.2 b.2) PC) fun _ => ?_
  refine ip 12 rfl rfl rfl rfl (p_assign rfl) <| i0 <| Q_then <| J_ret ?_
  refine J_return (()) Tryz.results77 (.tmp rfl .nil) ?_ ?_
  · rfl
  · exact SU

theorem cmpP_lt (a b : Int × Int) : Go.Proofs.ltOf cmpP a b = (decide (a.1 < b.1) || (decide (a.1 = b.1) && decide (a.2 < b.2))) := by
  have : (cmpP a b < 0) ↔ (a.1 < b.1 ∨ (a.1 = b.1 ∧ a.2 < b.2)) := by
    unfold cmpP orZ cmpZ
    (repeat' split) <;> omega
  unfold Go.Proofs.ltOf
  rw [Bool.eq_iff_iff]
  simp [this]
theorem cmpP_swo : Go.Sort.SWO (Go.Proofs.ltOf cmpP) where
  irrefl x := by rw [cmpP_lt]; simp
  trans x y z h1 h2 := by rw [cmpP_lt] at *; simp at *; omega
  ntrans x y z h1 h2 := by rw [cmpP_lt] at *; simp at *; omega
theorem cmpP_total (x y : Int × Int) (h1 : Go.Proofs.ltOf cmpP x y = false) (h2 : Go.Proofs.ltOf cmpP y x = false) : x = y := by
  rw [cmpP_lt] at h1 h2
  simp at h1 h2
  exact Prod.ext (by omega) (by omega)
def sortP (xs : List (Int × Int)) : List (Int × Int) := sortF cmpP xs
theorem sortP_perm {xs ys : List (Int × Int)} (h : xs.Perm ys) : sortP xs = sortP ys := sortF_perm cmpP_swo cmpP_total h
theorem sortP_id {xs : List (Int × Int)} (h : xs.Pairwise fun a b => Go.Proofs.ltOf cmpP b a = false) : sortP xs = xs :=
  List.Perm.eq_of_pairwise (le := fun a b => Go.Proofs.ltOf cmpP b a = false) (fun a b _ _ h1 h2 => cmpP_total a b h2 h1) (sortF_sorted cmpP_swo xs) h (sortF_isPerm xs)
theorem sortP_len (xs : List (Int × Int)) : (sortP xs).length = xs.length := sortF_len xs
end Go.Pse
