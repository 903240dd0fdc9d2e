/-
  The first examples of chains.
-/
import Derived.Test.YtjolbnicboaaeaaCh4
namespace Go.Pse
open Go.RowKit Go.Proofs

theorem Reads.nil {w : World} {sz : Nat} : Reads w sz (.slice none 0 0) [] := ⟨Wf.nil, none, 0, rfl, Nat.le_refl _, by simp [maxLen], fun _ => ⟨rfl, rfl⟩, fun _ h => by cases h⟩
def fe0 : Sqe := (1, 1, 0, 0, 0, 0, 0, 0)
def fe1 : Sqe := (1, 0, 0, 0, 0, 0, 0, 0)
def fr0 : Req := ((3, 7), fe0, 0, false, false)
def fr1 : Req := ((3, 8), fe1, 7, true, false)
theorem fplan : plan 3 7 [] [fe0, fe1] 2 = [fr0, fr1] := by kernel_rfl

set_option maxRecDepth 100000 in
set_option maxHeartbeats 4000000 in
theorem first20 {E : World} {l : List As} :
    Con Try.prog 22 #[] E l (fun _ : Unit => .bool true) (fun _ => l) := by
  refine Con.body (vs := []) (n := 35) Try.func22 rfl rfl [] (env_ok 0 rfl) ?_
  refine J_seq ?_
  refine J_region ?_
  refine L_pur rfl (p_assign rfl) ?_
  refine L_nil ?_
  refine Q_then ?_
  refine J_seq ?_
  refine J_region ?_
  refine L_pur rfl (bld39 (.cons rfl (.cons rfl .nil)) (by repeat constructor)) ?_
  refine L_pur rfl (bld39 (.cons rfl .nil) (by repeat constructor)) ?_
  refine L_op (x_lit (vals := [_, _]) Try.underlying29 ty39 rfl (.cons rfl (.cons rfl .nil)) (.agg (.agg .nil)) (Wf.cons rfl rfl (Wf.cons rfl rfl Wf.nil)) rfl (by decide) rfl rfl fun v4 => ?_)
  refine J_rowEq (ys := [fe0, fe1].map encS) (rfl) ?_
  refine J_row .here fun hw4 a4 c4 hv4 hl4 hm4 hz4 => ?_
  subst hv4
  refine L_op (x_call Try.func25 nm25 bd25 (.cons rfl (.cons rfl (.cons rfl (.cons rfl .nil)))) rfl (planC (gs := []) (es := [fe0, fe1]) (fun w H => Reads.nil) (fun w H => sep_reads (xs := [fe0, fe1].map encS) (by repeat (first | with_reducible exact Has.here | with_reducible assumption | with_reducible apply Has.there)) H) (by simp) (by omega) (by omega)) fun v5 => ?_)
  refine J_rowEq (ys := [fr0, fr1].map encQ) (by show (plan 3 7 [] [fe0, fe1] 2).map encQ = _; rw [fplan]) ?_
  refine J_row .here fun hw5 a5 c5 hv5 hl5 hm5 hz5 => ?_
  subst hv5
  obtain ⟨b5, o5, rfl⟩ := hz5 (by simp)
  refine L_pur rfl (p_assign rfl) ?_
  refine L_nil ?_
  refine Q_then ?_
  refine J_seq ?_
  refine J_region ?_
  refine L_op (x_call Try.func25 nm25 bd25 (.cons rfl (.cons rfl (.cons rfl (.cons rfl .nil)))) rfl (planC (gs := []) (es := []) (fun w H => Reads.nil) (fun w H => Reads.nil) (by simp) (by omega) (by omega)) fun v6 => ?_)
  refine J_row .here fun hw6 a6 c6 hv6 hl6 hm6 hz6 => ?_
  subst hv6
  refine L_pur rfl (p_len rfl Try.underlying31) ?_
  refine L_pur rfl (p_eql rfl rfl) ?_
  refine L_pur rfl (p_move rfl) ?_
  refine J_bool (t := 9) (c := true) rfl (rfl) ?_
  refine L_op (G_on rfl rfl rfl ?_)
  refine J_pur (p_move rfl) rfl rfl rfl ?_
  refine L_op (G_on rfl rfl rfl ?_)
  refine J_pur (p_len rfl Try.underlying31) rfl rfl rfl ?_
  refine L_op (G_on rfl rfl rfl ?_)
  refine J_pur (p_eql rfl rfl) rfl rfl rfl ?_
  refine L_pur rfl (p_pick_t rfl rfl) ?_
  refine L_pur rfl (p_move rfl) ?_
  refine J_bool (t := 14) (c := true) rfl (rfl) ?_
  refine L_op (G_on rfl rfl rfl ?_)
  refine J_pur (p_move rfl) rfl rfl rfl ?_
  refine L_op (G_on rfl rfl rfl ?_)
  refine J_pur (p_indexAddr rfl rfl Try.underlying31 ty41 (by omega) (by simp)) rfl rfl rfl ?_
  refine L_op (G_on rfl rfl rfl ?_)
  refine J_pur (p_fieldAddr rfl fa41_2) rfl rfl rfl ?_
  refine L_op (G_on rfl rfl rfl ?_)
  refine J_val (v_loadF rfl ty3 (by repeat (first | with_reducible exact Has.here | with_reducible assumption | with_reducible apply Has.there)) (by rfl) (by exact rfl)) rfl rfl rfl ?_
  refine L_op (G_on rfl rfl rfl ?_)
  refine J_pur (p_eql rfl rfl) rfl rfl rfl ?_
  refine L_pur rfl (p_pick_t rfl rfl) ?_
  refine L_pur rfl (p_move rfl) ?_
  refine J_bool (t := 21) (c := true) rfl (rfl) ?_
  refine L_op (G_on rfl rfl rfl ?_)
  refine J_pur (p_move rfl) rfl rfl rfl ?_
  refine L_op (G_on rfl rfl rfl ?_)
  refine J_pur (p_indexAddr rfl rfl Try.underlying31 ty41 (by omega) (by simp)) rfl rfl rfl ?_
  refine L_op (G_on rfl rfl rfl ?_)
  refine J_pur (p_fieldAddr rfl fa41_3) rfl rfl rfl ?_
  refine L_op (G_on rfl rfl rfl ?_)
  refine J_val (v_loadF rfl ty4 (by repeat (first | with_reducible exact Has.here | with_reducible assumption | with_reducible apply Has.there)) (by rfl) (by exact rfl)) rfl rfl rfl ?_
  refine L_pur rfl (p_pick_t rfl rfl) ?_
  refine L_pur rfl (p_move rfl) ?_
  refine J_bool (t := 27) (c := true) rfl (rfl) ?_
  refine L_op (G_on rfl rfl rfl ?_)
  refine J_pur (p_move rfl) rfl rfl rfl ?_
  refine L_op (G_on rfl rfl rfl ?_)
  refine J_pur (p_indexAddr rfl rfl Try.underlying31 ty41 (by omega) (by simp)) rfl rfl rfl ?_
  refine L_op (G_on rfl rfl rfl ?_)
  refine J_pur (p_fieldAddr rfl fa41_0) rfl rfl rfl ?_
  refine L_op (G_on rfl rfl rfl ?_)
  refine J_val (v_loadFA rfl ty36 (by repeat (first | with_reducible exact Has.here | with_reducible assumption | with_reducible apply Has.there)) (by rfl) (by first | exact Cut.full rfl | ((repeat constructor); done) | exact Cut.full (by first | rfl | simp [*]))) rfl rfl rfl ?_
  refine L_op (G_on rfl rfl rfl ?_)
  refine J_pur (bld36 (.cons rfl (.cons rfl .nil)) (by repeat constructor)) rfl rfl rfl ?_
  refine L_op (G_on rfl rfl rfl ?_)
  refine J_pur (p_eqv rfl rfl (fun w => eg36 _ _ _ _ _ w) (fun w => eqv36 _ _ _ _ w)) rfl rfl rfl ?_
  refine L_pur rfl (p_pick_t rfl rfl) ?_
  refine J_bool (t := 34) (c := true) rfl (by rfl) ?_
  refine L_pur rfl (p_assign rfl) ?_
  refine L_nil ?_
  refine Q_then ?_
  refine J_ret ?_
  exact J_return (()) Try.results22 (.tmp rfl .nil) rfl (by repeat (first | exact Sub.nil | exact Sub.refl | refine Sub.cons (by repeat (first | exact Pick.here | apply Pick.there)) ?_ | refine Sub.drop ?_))

end Go.Pse
