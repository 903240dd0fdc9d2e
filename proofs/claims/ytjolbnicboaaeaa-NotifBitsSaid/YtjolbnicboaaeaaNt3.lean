/-
  The law on bits.
-/
import Derived.Test.YtjolbnicboaaeaaNt2
namespace Go.Pse
open Go.RowKit Go.Proofs

set_option maxRecDepth 100000 in
set_option maxHeartbeats 4000000 in
theorem notifBits {E W : World} {v u : Value} {zs : List Int} {bs : List Bool} (hr : Reads W 1 v (zs.map fun z => [Value.int .u32 z])) (ht : Reads W 1 u (bs.map fun b => [Value.bool b])) :
    Con Try.prog 15 #[v, u] E [old W] (fun _ : Unit => .bool true) (fun _ => [old W]) := by
  refine Con.body (vs := [v, u]) (n := 88) Try.func15 rfl rfl [(0, v), (1, u)] (env_ok 2 rfl) ?_
  refine J_readsB (fun w H => hr.old (by repeat (first | with_reducible exact Has.here | with_reducible assumption | with_reducible apply Has.there)) H) fun hw a cap hv h1 h2 h3 => ?_
  subst hv
  have hm : cap ≤ 9223372036854775807 := h2
  have hml : (zs.map fun z => [Value.int .u32 z]).length = zs.length := List.length_map _
  refine J_readsB (fun w H => ht.old (by repeat (first | with_reducible exact Has.here | with_reducible assumption | with_reducible apply Has.there)) H) fun hw' a' cap' hv' h1' h2' h3' => ?_
  subst hv'
  have hm' : cap' ≤ 9223372036854775807 := h2'
  have hml' : (bs.map fun b => [Value.bool b]).length = bs.length := List.length_map _
  refine J_seq ?_
  refine J_region ?_
  refine L_pur rfl (p_assign rfl) ?_
  refine L_nil ?_
  refine Q_then ?_
  refine J_seq ?_
  refine J_region ?_
  refine L_op (x_call Try.func62 nm62 bd62 .nil rfl (first13) fun _ => ?_)
  refine L_pur rfl (p_assign rfl) ?_
  refine L_nil ?_
  refine Q_then ?_
  refine J_seq ?_
  refine J_seq ?_
  refine J_region ?_
  refine L_pur rfl (p_move rfl) ?_
  refine L_pur rfl (p_not rfl) ?_
  refine L_nil ?_
  refine Q_then ?_
  refine J_bool (t := 16) (c := false) rfl (rfl) ?_
  refine C_false rfl ?_
  refine J_skip ?_
  refine Q_then ?_
  refine J_seq ?_
  refine J_seq ?_
  refine J_region ?_
  refine L_pur rfl (p_move rfl) ?_
  refine L_pur rfl (p_len rfl Try.underlying123) ?_
  refine L_pur rfl (p_gtr rfl rfl) ?_
  refine L_nil ?_
  refine Q_then ?_
  refine C_dec rfl (fun h19 => ?_) (fun h19 => ?_)
  ·
    refine J_seq ?_
    refine J_region ?_
    refine L_pur rfl (p_move rfl) ?_
    refine L_pur rfl (p_assign rfl) ?_
    refine L_nil ?_
    refine Q_then ?_
    refine J_ret ?_
    refine Q_then_ret ?_
    exact J_return (()) Try.results15 (.tmp rfl .nil) rfl (by repeat (first | exact Sub.nil | exact Sub.refl | refine Sub.cons (by repeat (first | exact Pick.here | apply Pick.there)) ?_ | refine Sub.drop ?_))
  ·
    refine J_skip ?_
    refine Q_then ?_
    refine J_seq ?_
    refine J_region ?_
    refine L_op (x_alloc ty116 rfl fun b6 => ?_)
    refine J_ntNew ?_
    refine L_nil ?_
    refine Q_then ?_
    refine J_seq ?_
    refine J_region ?_
    refine L_pur rfl (p_assign rfl) ?_
    refine L_nil ?_
    refine Q_then ?_
    refine J_seq ?_
    refine J_seq ?_
    refine J_region ?_
    refine L_pur rfl (p_assign rfl) ?_
    refine L_nil ?_
    refine Q_then ?_
    refine J_block ?_
    refine J_loop2 (fun i w => i ≤ zs.length) (fun i w => [ntA b6 0 w [], old W]) (fun i w => [(8, .int .i64 (i : Int)), (7, .int .u32 w), (0, .slice a (zs.map fun z => [Value.int .u32 z]).length cap), (1, .slice a' (bs.map fun b => [Value.bool b]).length cap'), (5, .bool true), (6, .pointer (some ⟨b6, 0, none⟩))]) (fun i w => zs.length - i) 0 (0 : Int) (by omega) (by repeat (first | exact Sub.nil | exact Sub.refl | refine Sub.cons (by repeat (first | exact Pick.here | apply Pick.there)) ?_ | refine Sub.drop ?_)) (by repeat (first | exact Keep.nil | refine Keep.cons rfl ?_)) ?_
    intro i w hi
    refine J_seq ?_
    refine J_seq ?_
    refine J_region ?_
    refine L_pur rfl (p_move rfl) ?_
    refine L_pur rfl (p_move rfl) ?_
    refine L_pur rfl (p_len rfl Try.underlying123) ?_
    refine L_pur rfl (p_lss rfl rfl) ?_
    refine L_nil ?_
    refine Q_then ?_
    refine C_dec rfl (fun h24 => ?_) (fun h24 => ?_)
    ·
      have hlt : i < zs.length := by omega
      obtain ⟨bx, ox, rfl⟩ := h3 (by intro h; rw [h] at hml; simp at hml; omega)
      obtain ⟨c, hcc⟩ : ∃ c, zs[i]? = some c := ⟨_, List.getElem?_eq_getElem hlt⟩
      refine J_skip ?_
      refine Q_then ?_
      refine J_seq ?_
      refine J_block ?_
      refine J_seq ?_
      refine J_seq ?_
      refine J_region ?_
      refine L_pur rfl (p_move rfl) ?_
      refine L_pur rfl (p_move rfl) ?_
      refine L_pur rfl (p_indexAddr rfl rfl Try.underlying123 ty37 (by omega) (by omega)) ?_
      refine L_val rfl (by first | exact v_loadE1 rfl ty37 (by repeat (first | with_reducible exact Has.here | with_reducible assumption | with_reducible apply Has.there)) (by first | (simp only [Int.toNat_natCast, List.getElem?_map, hcc]; rfl) | (simp only [Int.toNat_natCast, List.getElem?_map, hcd]; rfl) | simp | rfl) | exact v_loadR1 rfl ty37 (fun w H => hr.old (by repeat (first | with_reducible exact Has.here | with_reducible assumption | with_reducible apply Has.there)) H) (by first | (simp only [Int.toNat_natCast, List.getElem?_map, hcc]; rfl) | (simp only [Int.toNat_natCast, List.getElem?_map, hcd]; rfl) | simp | rfl) | exact v_loadR1 rfl ty37 (fun w H => ht.old (by repeat (first | with_reducible exact Has.here | with_reducible assumption | with_reducible apply Has.there)) H) (by first | (simp only [Int.toNat_natCast, List.getElem?_map, hcc]; rfl) | (simp only [Int.toNat_natCast, List.getElem?_map, hcd]; rfl) | simp | rfl)) ?_
      refine L_op (x_call Try.func65 nm65 bd65 (.cons rfl (.cons rfl .nil)) rfl (nSignal (xs := []) (x := c) (by repeat (first | with_reducible exact Pick.here | with_reducible assumption | with_reducible apply Pick.there)) (by simp)) fun _ => ?_)
      refine J_pick (A := ntA b6 0 _ _) (by repeat (first | with_reducible exact Pick.here | with_reducible assumption | with_reducible apply Pick.there)) ?_
      refine J_asTo (B := ntA b6 0 (orb w c) []) (by simp [sigW, sigL, woke]) ?_
      refine L_pur rfl (p_move rfl) ?_
      refine L_pur rfl (p_extract rfl rfl) ?_
      refine L_pur rfl (p_extract rfl rfl) ?_
      refine L_pur rfl (p_extract rfl rfl) ?_
      refine L_op (x_alloc ty36 rfl fun b9 => ?_)
      refine L_op (x_store rfl rfl ty36 rfl (by first | rfl | (simp [*]; done)) (by first | rfl | (simp [*]; done)) (by repeat (first | with_reducible exact Rep1.here | with_reducible apply Rep1.there)) (by first | exact Put.full rfl | ((repeat constructor); done) | exact Put.full (by first | rfl | simp [*])) ?_)
      refine L_pur rfl (p_assign rfl) ?_
      refine L_pur rfl (p_assign rfl) ?_
      refine L_nil ?_
      refine Q_then ?_
      refine J_seq ?_
      refine J_region ?_
      refine L_pur rfl (p_move rfl) ?_
      refine L_nil ?_
      refine Q_then ?_
      refine J_bool (t := 36) (c := false) rfl (by simp [woke]) ?_
      refine C_false rfl ?_
      refine J_skip ?_
      refine Q_then ?_
      refine J_seq ?_
      refine J_region ?_
      refine L_pur rfl (p_move rfl) ?_
      refine L_pur rfl (p_move rfl) ?_
      refine L_pur rfl (p_move rfl) ?_
      refine L_pur rfl (p_indexAddr rfl rfl Try.underlying123 ty37 (by omega) (by omega)) ?_
      refine L_val rfl (by first | exact v_loadE1 rfl ty37 (by repeat (first | with_reducible exact Has.here | with_reducible assumption | with_reducible apply Has.there)) (by first | (simp only [Int.toNat_natCast, List.getElem?_map, hcc]; rfl) | (simp only [Int.toNat_natCast, List.getElem?_map, hcd]; rfl) | simp | rfl) | exact v_loadR1 rfl ty37 (fun w H => hr.old (by repeat (first | with_reducible exact Has.here | with_reducible assumption | with_reducible apply Has.there)) H) (by first | (simp only [Int.toNat_natCast, List.getElem?_map, hcc]; rfl) | (simp only [Int.toNat_natCast, List.getElem?_map, hcd]; rfl) | simp | rfl) | exact v_loadR1 rfl ty37 (fun w H => ht.old (by repeat (first | with_reducible exact Has.here | with_reducible assumption | with_reducible apply Has.there)) H) (by first | (simp only [Int.toNat_natCast, List.getElem?_map, hcc]; rfl) | (simp only [Int.toNat_natCast, List.getElem?_map, hcd]; rfl) | simp | rfl)) ?_
      refine L_pur rfl (p_or rfl rfl) ?_
      refine L_pur rfl (p_assign rfl) ?_
      refine L_nil ?_
      refine Q_then ?_
      refine J_seq ?_
      refine J_seq ?_
      refine J_region ?_
      refine L_op (x_call Try.func66 nm66 bd66 (.cons rfl .nil) rfl (nWord (by repeat (first | with_reducible exact Pick.here | with_reducible assumption | with_reducible apply Pick.there)) (by simp)) fun _ => ?_)
      refine L_pur rfl (p_move rfl) ?_
      refine L_pur rfl (p_neq rfl rfl) ?_
      refine L_nil ?_
      refine Q_then ?_
      refine J_bool (t := 45) (c := false) rfl (by simp) ?_
      refine C_false rfl ?_
      refine J_skip ?_
      refine Q_then ?_
      refine J_seq ?_
      refine J_region ?_
      refine L_pur rfl (p_move rfl) ?_
      refine L_pur rfl (p_move rfl) ?_
      refine L_pur rfl (p_len rfl Try.underlying22) ?_
      refine L_pur rfl (p_lss rfl rfl) ?_
      refine L_pur rfl (p_move rfl) ?_
      refine J_gsplit (t := 50) rfl (fun h50 => ?_) (fun h50 => ?_)
      ·
        have hlb : i < bs.length := by simp at h50; omega
        obtain ⟨by', oy, rfl⟩ := h3' (by intro h; rw [h] at hml'; simp at hml'; omega)
        obtain ⟨d, hcd⟩ : ∃ d, bs[i]? = some d := ⟨_, List.getElem?_eq_getElem hlb⟩
        refine L_op (G_on rfl rfl rfl ?_)
        refine J_pur (p_move rfl) rfl rfl rfl ?_
        refine L_op (G_on rfl rfl rfl ?_)
        refine J_pur (p_move rfl) rfl rfl rfl ?_
        refine L_op (G_on rfl rfl rfl ?_)
        refine J_pur (p_indexAddr rfl rfl Try.underlying22 ty4 (by omega) (by omega)) rfl rfl rfl ?_
        refine L_op (G_on rfl rfl rfl ?_)
        refine J_val (by first | exact v_loadE1 rfl ty4 (by repeat (first | with_reducible exact Has.here | with_reducible assumption | with_reducible apply Has.there)) (by first | (simp only [Int.toNat_natCast, List.getElem?_map, hcc]; rfl) | (simp only [Int.toNat_natCast, List.getElem?_map, hcd]; rfl) | simp | rfl) | exact v_loadR1 rfl ty4 (fun w H => hr.old (by repeat (first | with_reducible exact Has.here | with_reducible assumption | with_reducible apply Has.there)) H) (by first | (simp only [Int.toNat_natCast, List.getElem?_map, hcc]; rfl) | (simp only [Int.toNat_natCast, List.getElem?_map, hcd]; rfl) | simp | rfl) | exact v_loadR1 rfl ty4 (fun w H => ht.old (by repeat (first | with_reducible exact Has.here | with_reducible assumption | with_reducible apply Has.there)) H) (by first | (simp only [Int.toNat_natCast, List.getElem?_map, hcc]; rfl) | (simp only [Int.toNat_natCast, List.getElem?_map, hcd]; rfl) | simp | rfl)) rfl rfl rfl ?_
        refine L_pur rfl (p_pick_t rfl rfl) ?_
        refine L_pur rfl (p_move rfl) ?_
        refine J_gsplit (t := 56) rfl (fun h56 => ?_) (fun h56 => ?_)
        ·
          refine L_op (G_on rfl rfl rfl ?_)
          refine J_pur (p_move rfl) rfl rfl rfl ?_
          refine L_op (G_on rfl rfl rfl ?_)
          refine J_pur (p_neq rfl rfl) rfl rfl rfl ?_
          refine L_pur rfl (p_pick_t rfl rfl) ?_
          refine L_nil ?_
          refine Q_then ?_
          refine C_dec rfl (fun h59 => ?_) (fun h59 => ?_)
          ·
            refine J_seq ?_
            refine J_region ?_
            refine L_pur rfl (p_move rfl) ?_
            refine L_pur rfl (bld36 (.cons rfl (.cons rfl .nil)) (by repeat constructor)) ?_
            refine L_op (x_call Try.func63 nm63 bd63 (.cons rfl (.cons rfl .nil)) rfl (nWait (xs := []) (i := (2, (i : Int))) (by repeat (first | with_reducible exact Pick.here | with_reducible assumption | with_reducible apply Pick.there)) (by simp)) fun _ => ?_)
            refine J_pick (A := ntA b6 0 _ _) (by repeat (first | with_reducible exact Pick.here | with_reducible assumption | with_reducible apply Pick.there)) ?_
            refine J_asTo (B := ntA b6 0 0 []) (by simp [waitL, h59]) ?_
            refine L_pur rfl (p_move rfl) ?_
            refine L_pur rfl (p_extract rfl rfl) ?_
            refine L_pur rfl (p_extract rfl rfl) ?_
            refine L_pur rfl (p_assign rfl) ?_
            refine L_pur rfl (p_assign rfl) ?_
            refine L_nil ?_
            refine Q_then ?_
            refine J_seq ?_
            refine J_seq ?_
            refine J_region ?_
            refine L_pur rfl (p_move rfl) ?_
            refine L_pur rfl (p_not rfl) ?_
            refine L_pur rfl (p_move rfl) ?_
            refine J_bool (t := 68) (c := false) rfl (by simp [h59]) ?_
            refine L_op (G_on rfl rfl rfl ?_)
            refine J_pur (p_move rfl) rfl rfl rfl ?_
            refine L_op (G_on rfl rfl rfl ?_)
            refine J_pur (p_move rfl) rfl rfl rfl ?_
            refine L_op (G_on rfl rfl rfl ?_)
            refine J_pur (p_neq rfl rfl) rfl rfl rfl ?_
            refine L_pur rfl (p_pick_f rfl rfl) ?_
            refine L_pur rfl (p_move rfl) ?_
            refine J_bool (t := 73) (c := false) rfl (by simp) ?_
            refine L_op (G_on rfl rfl rfl ?_)
            refine x_call Try.func66 nm66 bd66 (.cons rfl .nil) rfl (nWord (by repeat (first | with_reducible exact Pick.here | with_reducible assumption | with_reducible apply Pick.there)) (by simp)) fun _ => ?_
            refine L_op (G_on rfl rfl rfl ?_)
            refine J_pur (p_neq rfl rfl) rfl rfl rfl ?_
            refine L_pur rfl (p_pick_f rfl rfl) ?_
            refine L_nil ?_
            refine Q_then ?_
            refine J_bool (t := 76) (c := false) rfl (by simp) ?_
            refine C_false rfl ?_
            refine J_skip ?_
            refine Q_then ?_
            refine J_region ?_
            refine L_pur rfl (p_assign rfl) ?_
            refine L_nil ?_
            refine Q_blk_normal ?_
            refine Q_then ?_
            refine J_region ?_
            refine L_pur rfl (p_move rfl) ?_
            refine L_pur rfl (p_add64 rfl rfl (by omega)) ?_
            refine L_pur rfl (p_assign rfl) ?_
            refine L_nil ?_
            refine Q_then ?_
            exact J_again2 (i + 1) _ (by omega) (by omega) (by repeat (first | exact Sub.nil | exact Sub.refl | refine Sub.cons (by repeat (first | exact Pick.here | apply Pick.there)) ?_ | refine Sub.drop ?_)) (by repeat (first | exact Keep.nil | refine Keep.cons rfl ?_))
          ·
            refine J_skip ?_
            refine Q_blk_normal ?_
            refine Q_then ?_
            refine J_region ?_
            refine L_pur rfl (p_move rfl) ?_
            refine L_pur rfl (p_add64 rfl rfl (by omega)) ?_
            refine L_pur rfl (p_assign rfl) ?_
            refine L_nil ?_
            refine Q_then ?_
            exact J_again2 (i + 1) _ (by omega) (by omega) (by repeat (first | exact Sub.nil | exact Sub.refl | refine Sub.cons (by repeat (first | exact Pick.here | apply Pick.there)) ?_ | refine Sub.drop ?_)) (by repeat (first | exact Keep.nil | refine Keep.cons rfl ?_))
        ·
          refine L_op (G_off rfl rfl rfl rfl rfl rfl ?_)
          refine L_op (G_off rfl rfl rfl rfl rfl rfl ?_)
          refine L_pur rfl (p_pick_f rfl rfl) ?_
          refine L_nil ?_
          refine Q_then ?_
          refine C_false rfl ?_
          refine J_skip ?_
          refine Q_blk_normal ?_
          refine Q_then ?_
          refine J_region ?_
          refine L_pur rfl (p_move rfl) ?_
          refine L_pur rfl (p_add64 rfl rfl (by omega)) ?_
          refine L_pur rfl (p_assign rfl) ?_
          refine L_nil ?_
          refine Q_then ?_
          exact J_again2 (i + 1) _ (by omega) (by omega) (by repeat (first | exact Sub.nil | exact Sub.refl | refine Sub.cons (by repeat (first | exact Pick.here | apply Pick.there)) ?_ | refine Sub.drop ?_)) (by repeat (first | exact Keep.nil | refine Keep.cons rfl ?_))
      ·
        refine L_op (G_off rfl rfl rfl rfl rfl rfl ?_)
        refine L_op (G_off rfl rfl rfl rfl rfl rfl ?_)
        refine L_op (G_off rfl rfl rfl rfl rfl rfl ?_)
        refine L_op (G_off rfl rfl rfl rfl rfl rfl ?_)
        refine L_pur rfl (p_pick_f rfl rfl) ?_
        refine L_pur rfl (p_move rfl) ?_
        refine L_op (G_off rfl rfl rfl rfl rfl rfl ?_)
        refine L_op (G_off rfl rfl rfl rfl rfl rfl ?_)
        refine L_pur rfl (p_pick_f rfl rfl) ?_
        refine L_nil ?_
        refine Q_then ?_
        refine C_false rfl ?_
        refine J_skip ?_
        refine Q_blk_normal ?_
        refine Q_then ?_
        refine J_region ?_
        refine L_pur rfl (p_move rfl) ?_
        refine L_pur rfl (p_add64 rfl rfl (by omega)) ?_
        refine L_pur rfl (p_assign rfl) ?_
        refine L_nil ?_
        refine Q_then ?_
        exact J_again2 (i + 1) _ (by omega) (by omega) (by repeat (first | exact Sub.nil | exact Sub.refl | refine Sub.cons (by repeat (first | exact Pick.here | apply Pick.there)) ?_ | refine Sub.drop ?_)) (by repeat (first | exact Keep.nil | refine Keep.cons rfl ?_))
    ·
      refine J_exit ?_
      refine Q_then_exit ?_
      refine Q_then_exit ?_
      refine Q_blk_this ?_
      refine Q_then ?_
      refine J_seq ?_
      refine J_region ?_
      refine L_pur rfl (p_move rfl) ?_
      refine L_pur rfl (p_move rfl) ?_
      refine J_bool (t := 78) (c := true) rfl (rfl) ?_
      refine L_op (G_on rfl rfl rfl ?_)
      refine x_call Try.func66 nm66 bd66 (.cons rfl .nil) rfl (nWord (by repeat (first | with_reducible exact Pick.here | with_reducible assumption | with_reducible apply Pick.there)) (by simp)) fun _ => ?_
      refine L_op (G_on rfl rfl rfl ?_)
      refine J_pur (p_move rfl) rfl rfl rfl ?_
      refine L_op (G_on rfl rfl rfl ?_)
      refine J_pur (p_eql rfl rfl) rfl rfl rfl ?_
      refine L_pur rfl (p_pick_t rfl rfl) ?_
      refine L_pur rfl (p_move rfl) ?_
      refine J_bool (t := 83) (c := true) rfl (by simp) ?_
      refine L_op (G_on rfl rfl rfl ?_)
      refine x_call Try.func64 nm64 bd64 (.cons rfl .nil) rfl (nWaits (xs := []) (by repeat (first | with_reducible exact Pick.here | with_reducible assumption | with_reducible apply Pick.there)) (by simp)) fun v84 => ?_
      refine J_row .here fun hw84 a84 c84 hv84 hl84 hm84 hz84 => ?_
      subst hv84
      refine L_op (G_on rfl rfl rfl ?_)
      refine J_pur (p_len rfl Try.underlying80) rfl rfl rfl ?_
      refine L_op (G_on rfl rfl rfl ?_)
      refine J_pur (p_eql rfl rfl) rfl rfl rfl ?_
      refine L_pur rfl (p_pick_t rfl rfl) ?_
      refine J_bool (t := 87) (c := true) rfl (by simp) ?_
      refine L_pur rfl (p_assign rfl) ?_
      refine L_nil ?_
      refine Q_then ?_
      refine J_ret ?_
      exact J_return (()) Try.results15 (.tmp rfl .nil) rfl (by repeat (first | exact Sub.nil | exact Sub.refl | refine Sub.cons (by repeat (first | exact Pick.here | apply Pick.there)) ?_ | refine Sub.drop ?_))

end Go.Pse
