/-
  Heads of chains; lists of numbers compared.
-/
import Derived.Test.YtjolbnicboaaeaaCh3
namespace Go.Pse
open Go.RowKit Go.Proofs

def headsOf (rs : List Req) : List Int := (rs.filter fun r => decide (r.2.2.1 = 0)).map fun r => r.1.2
theorem heads_succ {rs : List Req} {k : Nat} {c : Req} (h : rs[k]? = some c) : headsOf (rs.take (k + 1)) = headsOf (rs.take k) ++ if c.2.2.1 = 0 then [c.1.2] else [] := by
  unfold headsOf
  rw [List.take_add_one, h, List.filter_append, List.map_append]
  by_cases hp : c.2.2.1 = 0 <;> simp [hp]
theorem heads_len (rs : List Req) : (headsOf rs).length ≤ rs.length := by
  unfold headsOf
  rw [List.length_map]; exact List.length_filter_le _ _
def encZ (z : Int) : List Value := [.int .i64 z]

set_option maxRecDepth 100000 in
set_option maxHeartbeats 4000000 in
theorem heads {E : World} {l : List As} {v : Value} {rs : List Req} (hr : ∀ w, Sep E w l → Reads w 13 v (rs.map encQ)) (hb : rs.length ≤ 1000) :
    Con Try.prog 28 #[v] E l (fun v' : Value => v') (fun v' => row 3 1 v' ((headsOf rs).map encZ) :: l) := by
  refine Con.body (vs := [v]) (n := 23) Try.func28 rfl rfl [(0, v)] (env_ok 1 rfl) ?_
  refine J_readsB hr fun hw a cap hv h1 h2 h3 => ?_
  subst hv
  have hm : cap ≤ 9223372036854775807 := h2
  have hml : (rs.map encQ).length = rs.length := List.length_map _
  refine J_seq ?_
  refine J_region ?_
  refine L_pur rfl (p_assign rfl) ?_
  refine L_nil ?_
  refine Q_then ?_
  refine J_seq ?_
  refine J_region ?_
  refine L_pur rfl (p_assign rfl) ?_
  refine L_nil ?_
  refine Q_then ?_
  refine J_seq ?_
  refine J_seq ?_
  refine J_region ?_
  refine L_pur rfl (p_move rfl) ?_
  refine L_pur rfl (p_len rfl Try.underlying31) ?_
  refine L_pur rfl (p_move rfl) ?_
  refine L_nil ?_
  refine Q_then ?_
  refine J_block ?_
  refine J_nil (el := 3) (sz := 1) ?_
  refine J_loop2 (fun k v' => k ≤ rs.length) (fun k v' => row 3 1 v' ((headsOf (rs.take k)).map encZ) :: l) (fun k v' => [(8, .int .i64 (k : Int)), (3, v'), (6, .slice a (rs.map encQ).length cap), (7, .int .i64 (rs.map encQ).length)]) (fun k v' => rs.length - k) 0 (.slice none 0 0) (by omega) (by repeat (first | exact Sub.nil | exact Sub.refl | refine Sub.cons (by repeat (first | exact Pick.here | apply Pick.there)) ?_ | refine Sub.drop ?_)) (by repeat (first | exact Keep.nil | refine Keep.cons rfl ?_)) ?_
  intro k v' hk
  refine J_seq ?_
  refine J_region ?_
  refine L_pur rfl (p_lss rfl rfl) ?_
  refine L_nil ?_
  refine Q_then ?_
  refine J_seq ?_
  refine C_dec rfl (fun h9 => ?_) (fun h9 => ?_)
  ·
    have hlt : k < rs.length := by omega
    obtain ⟨bx, ox, rfl⟩ := h3 (by intro h; rw [h] at hml; simp at hml; omega)
    obtain ⟨c, hcc⟩ : ∃ c, rs[k]? = some c := ⟨_, List.getElem?_eq_getElem hlt⟩
    have hhl := heads_len (rs.take k)
    have htl : (rs.take k).length ≤ k := by simp; omega
    refine J_skip ?_
    refine Q_then ?_
    refine J_seq ?_
    refine J_block ?_
    refine J_seq ?_
    refine J_region ?_
    refine L_pur rfl (p_indexAddr rfl rfl Try.underlying31 ty41 (by omega) (by omega)) ?_
    refine L_val rfl (v_loadR rfl ty41 (fun w H => hr w (Sub.sep (by repeat (first | exact Sub.nil | exact Sub.refl | refine Sub.cons (by repeat (first | exact Pick.here | apply Pick.there)) ?_ | refine Sub.drop ?_)) H)) (by simp only [Int.toNat_natCast, List.getElem?_map, hcc]; rfl)) ?_
    refine L_op (x_alloc ty41 rfl fun b5 => ?_)
    refine L_op (x_store rfl rfl ty41 rfl (by first | rfl | (simp [*]; done)) (by first | rfl | (simp [*]; done)) (by repeat (first | with_reducible exact Rep1.here | with_reducible apply Rep1.there)) (by first | exact Put.full rfl | ((repeat constructor); done) | exact Put.full (by first | rfl | simp [*])) ?_)
    refine L_nil ?_
    refine Q_then ?_
    refine J_seq ?_
    refine J_region ?_
    refine L_pur rfl (p_fieldAddr rfl fa41_2) ?_
    refine L_val rfl (v_load rfl ty3 (by repeat (first | with_reducible exact Has.here | with_reducible assumption | with_reducible apply Has.there)) (by exact rfl)) ?_
    refine L_pur rfl (p_eql rfl rfl) ?_
    refine L_nil ?_
    refine Q_then ?_
    refine C_dec rfl (fun h14 => ?_) (fun h14 => ?_)
    ·
      refine J_region ?_
      refine L_pur rfl (p_move rfl) ?_
      refine L_pur rfl (p_fieldAddr rfl fa41_0) ?_
      refine L_pur rfl (p_fieldAddr rfl fa36_1) ?_
      refine L_val rfl (v_load rfl ty3 (by repeat (first | with_reducible exact Has.here | with_reducible assumption | with_reducible apply Has.there)) (by exact rfl)) ?_
      refine L_op (x_lit (vals := [_]) Try.underlying23 ty3 rfl (.cons rfl .nil) (.one rfl .nil) (Wf.cons rfl rfl Wf.nil) rfl (by decide) rfl rfl fun v19 => ?_)
      refine J_row .here fun hw19 a19 c19 hv19 hl19 hm19 hz19 => ?_
      subst hv19
      refine L_op (x_app rfl rfl Try.underlying23 ty3 rfl rfl (by repeat (first | with_reducible exact Pick.here | with_reducible assumption | with_reducible apply Pick.there)) (fun w H => sep_reads (by repeat (first | with_reducible exact Has.here | with_reducible assumption | with_reducible apply Has.there)) H) (by first | omega | (simp <;> omega)) (by first | omega | (simp <;> omega)) rfl fun v20 => ?_)
      refine J_rowEq (ys := (headsOf (rs.take (k + 1))).map encZ) (by rw [heads_succ hcc, if_pos h14]; simp [encZ]) ?_
      refine J_row .here fun hw20 a20 c20 hv20 hl20 hm20 hz20 => ?_
      subst hv20
      refine L_pur rfl (p_assign rfl) ?_
      refine L_nil ?_
      refine Q_blk_normal ?_
      refine Q_then ?_
      refine J_region ?_
      refine L_pur rfl (p_add64 rfl rfl (by omega)) ?_
      refine L_pur rfl (p_move rfl) ?_
      refine L_nil ?_
      refine Q_then ?_
      
      exact J_again2 (k + 1) _ (by omega) (by omega) (by repeat (first | exact Sub.nil | exact Sub.refl | refine Sub.cons (by repeat (first | exact Pick.here | apply Pick.there)) ?_ | refine Sub.drop ?_)) (by repeat (first | exact Keep.nil | refine Keep.cons rfl ?_))
    ·
      refine J_skip ?_
      refine Q_blk_normal ?_
      refine Q_then ?_
      refine J_region ?_
      refine L_pur rfl (p_add64 rfl rfl (by omega)) ?_
      refine L_pur rfl (p_move rfl) ?_
      refine L_nil ?_
      refine Q_then ?_
      refine J_pick (A := row 3 1 v' _) (by repeat (first | with_reducible exact Pick.here | with_reducible assumption | with_reducible apply Pick.there)) ?_
      refine J_rowEq (ys := (headsOf (rs.take (k + 1))).map encZ) (by rw [heads_succ hcc, if_neg h14]; simp) ?_
      exact J_again2 (k + 1) _ (by omega) (by omega) (by repeat (first | exact Sub.nil | exact Sub.refl | refine Sub.cons (by repeat (first | exact Pick.here | apply Pick.there)) ?_ | refine Sub.drop ?_)) (by repeat (first | exact Keep.nil | refine Keep.cons rfl ?_))
  ·
    have hke : k = rs.length := by omega
    subst hke
    refine J_pick (A := row 3 1 v' _) (by repeat (first | with_reducible exact Pick.here | with_reducible assumption | with_reducible apply Pick.there)) ?_
    refine J_rowEq (ys := (headsOf rs).map encZ) (by rw [List.take_length]) ?_
    refine J_exit ?_
    refine Q_then_exit ?_
    refine Q_then_exit ?_
    refine Q_blk_this ?_
    refine Q_then ?_
    refine J_seq ?_
    refine J_region ?_
    refine L_pur rfl (p_move rfl) ?_
    refine L_pur rfl (p_assign rfl) ?_
    refine L_nil ?_
    refine Q_then ?_
    refine J_ret ?_
    exact J_return (_) Try.results28 (.tmp rfl .nil) rfl (by repeat (first | exact Sub.nil | exact Sub.refl | refine Sub.cons (by repeat (first | exact Pick.here | apply Pick.there)) ?_ | refine Sub.drop ?_))

set_option maxRecDepth 100000 in
set_option maxHeartbeats 4000000 in
theorem sameInts {E : World} {l : List As} {v u : Value} {xs : List Int} (hr : ∀ w, Sep E w l → Reads w 1 v (xs.map encZ)) (hs : ∀ w, Sep E w l → Reads w 1 u (xs.map encZ)) (hb : xs.length ≤ 1000) :
    Con Try.prog 27 #[v, u] E l (fun _ : Unit => .bool true) (fun _ => l) := by
  refine Con.body (vs := [v, u]) (n := 29) Try.func27 rfl rfl [(0, v), (1, u)] (env_ok 2 rfl) ?_
  refine J_readsB hr fun hw a cap hv h1 h2 h3 => ?_
  subst hv
  refine J_readsB hs fun hw' a' cap' hv h1' h2' h3' => ?_
  subst hv
  have hm : cap ≤ 9223372036854775807 := h2
  have hm' : cap' ≤ 9223372036854775807 := h2'
  have hml : (xs.map encZ).length = xs.length := List.length_map _
  refine J_seq ?_
  refine J_region ?_
  refine L_pur rfl (p_assign rfl) ?_
  refine L_nil ?_
  refine Q_then ?_
  refine J_seq ?_
  refine J_seq ?_
  refine J_region ?_
  refine L_pur rfl (p_move rfl) ?_
  refine L_pur rfl (p_len rfl Try.underlying23) ?_
  refine L_pur rfl (p_move rfl) ?_
  refine L_pur rfl (p_len rfl Try.underlying23) ?_
  refine L_pur rfl (p_neq rfl rfl) ?_
  refine L_nil ?_
  refine Q_then ?_
  refine J_bool (t := 11) (c := false) rfl (by simp) ?_
  refine C_false rfl ?_
  refine J_skip ?_
  refine Q_then ?_
  refine J_seq ?_
  refine J_seq ?_
  refine J_region ?_
  refine L_pur rfl (p_assign rfl) ?_
  refine L_nil ?_
  refine Q_then ?_
  refine J_block ?_
  refine J_loop (α := Nat) (fun k => k ≤ xs.length) (fun _ => l) (fun k => [(5, .int .i64 (k : Int)), (0, .slice a (xs.map encZ).length cap), (1, .slice a' (xs.map encZ).length cap')]) (fun k => xs.length - k) 0 (by omega) (by repeat (first | exact Sub.nil | exact Sub.refl | refine Sub.cons (by repeat (first | exact Pick.here | apply Pick.there)) ?_ | refine Sub.drop ?_)) (by repeat (first | exact Keep.nil | refine Keep.cons rfl ?_)) ?_
  intro k hk
  refine J_seq ?_
  refine J_seq ?_
  refine J_region ?_
  refine L_pur rfl (p_move rfl) ?_
  refine L_pur rfl (p_move rfl) ?_
  refine L_pur rfl (p_len rfl Try.underlying23) ?_
  refine L_pur rfl (p_lss rfl rfl) ?_
  refine L_nil ?_
  refine Q_then ?_
  refine C_dec rfl (fun h15 => ?_) (fun h15 => ?_)
  ·
    have hlt : k < xs.length := by omega
    obtain ⟨bx, ox, rfl⟩ := h3 (by intro h; rw [h] at hml; simp at hml; omega)
    obtain ⟨by', oy, rfl⟩ := h3' (by intro h; rw [h] at hml; simp at hml; omega)
    obtain ⟨c, hcc⟩ : ∃ c, xs[k]? = some c := ⟨_, List.getElem?_eq_getElem hlt⟩
    refine J_skip ?_
    refine Q_then ?_
    refine J_seq ?_
    refine J_block ?_
    refine J_seq ?_
    refine J_drawS mixed (by kernel_rfl) ?_
    refine S_val rfl (Pur.vl (p_move rfl)) ?_
    refine S_val rfl (Pur.vl (p_move rfl)) ?_
    refine S_val rfl (Pur.vl (p_indexAddr rfl rfl Try.underlying23 ty3 (by omega) (by omega))) ?_
    refine S_val rfl (v_loadR1 rfl ty3 (fun w H => hr w (Sub.sep (by repeat (first | exact Sub.nil | exact Sub.refl | refine Sub.cons (by repeat (first | exact Pick.here | apply Pick.there)) ?_ | refine Sub.drop ?_)) H)) (by simp only [Int.toNat_natCast, List.getElem?_map, hcc]; rfl)) ?_
    refine S_val rfl (Pur.vl (p_move rfl)) ?_
    refine S_val rfl (Pur.vl (p_move rfl)) ?_
    refine S_val rfl (Pur.vl (p_indexAddr rfl rfl Try.underlying23 ty3 (by omega) (by omega))) ?_
    refine S_val rfl (v_loadR1 rfl ty3 (fun w H => hs w (Sub.sep (by repeat (first | exact Sub.nil | exact Sub.refl | refine Sub.cons (by repeat (first | exact Pick.here | apply Pick.there)) ?_ | refine Sub.drop ?_)) H)) (by simp only [Int.toNat_natCast, List.getElem?_map, hcc]; rfl)) ?_
    refine S_val rfl (Pur.vl (p_eql rfl rfl)) ?_
    refine S_val rfl (Pur.vl (p_assign rfl)) ?_
    refine S_nil ?_
    refine Q_then ?_
    refine J_seq ?_
    refine J_region ?_
    refine L_pur rfl (p_move rfl) ?_
    refine L_pur rfl (p_not rfl) ?_
    refine L_nil ?_
    refine Q_then ?_
    refine J_bool (t := 28) (c := false) rfl (by simp) ?_
    refine C_false rfl ?_
    refine J_skip ?_
    refine Q_blk_normal ?_
    refine Q_then ?_
    refine J_region ?_
    refine L_pur rfl (p_move rfl) ?_
    refine L_pur rfl (p_add64 rfl rfl (by omega)) ?_
    refine L_pur rfl (p_assign rfl) ?_
    refine L_nil ?_
    refine Q_then ?_
    exact J_again (k + 1) (by omega) (by omega) (by repeat (first | exact Sub.nil | exact Sub.refl | refine Sub.cons (by repeat (first | exact Pick.here | apply Pick.there)) ?_ | refine Sub.drop ?_)) (by repeat (first | exact Keep.nil | refine Keep.cons rfl ?_))
  ·
    refine J_exit ?_
    refine Q_then_exit ?_
    refine Q_then_exit ?_
    refine Q_blk_this ?_
    refine Q_then ?_
    refine J_seq ?_
    refine J_region ?_
    refine L_pur rfl (p_assign rfl) ?_
    refine L_nil ?_
    refine Q_then ?_
    refine J_ret ?_
    exact J_return (()) Try.results27 (.tmp rfl .nil) rfl (by repeat (first | exact Sub.nil | exact Sub.refl | refine Sub.cons (by repeat (first | exact Pick.here | apply Pick.there)) ?_ | refine Sub.drop ?_))

end Go.Pse
