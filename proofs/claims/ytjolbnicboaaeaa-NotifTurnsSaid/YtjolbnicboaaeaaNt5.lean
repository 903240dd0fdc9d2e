/-
  The law on turns.
-/
import Derived.Test.YtjolbnicboaaeaaNt4
namespace Go.Pse
open Go.RowKit Go.Proofs

def others (N k : Nat) : List Nat := (List.range N).filter fun j => !decide (j = k)
theorem others_len (N k : Nat) : (others N k).length ≤ N := by unfold others; exact Nat.le_trans (List.length_filter_le _ _) (by simp)
theorem others_succ (i k : Nat) : others (i + 1) k = others i k ++ if i = k then [] else [i] := by
  unfold others
  rw [List.range_succ, List.filter_append]
  by_cases h : i = k <;> simp [h]
section
variable {w c : Int} {ws : List ID} {a : Nat}
theorem woke_at : woke w (ws.drop a) c = (!decide (orb w c = 0) && decide (a < ws.length)) := by
  unfold woke
  congr 1
  rw [Bool.eq_iff_iff]
  simp
theorem turn_yes {d : ID} (h0 : ¬ orb w c = 0) (hd : ws[a]? = some d) : woke w (ws.drop a) c = true ∧ sigI w (ws.drop a) c = d ∧ sigV w (ws.drop a) c = orb w c ∧ sigW w (ws.drop a) c = 0 ∧ sigL w (ws.drop a) c = ws.drop (a + 1) := by
  have hl := (List.getElem?_eq_some_iff.1 hd).1
  have hw : woke w (ws.drop a) c = true := by rw [woke_at]; simp [h0, hl]
  have he : (ws.drop a).headD (0, 0) = d := by rw [List.drop_eq_getElem_cons hl]; exact (List.getElem?_eq_some_iff.1 hd).2
  refine ⟨hw, ?_, ?_, ?_, ?_⟩
  · simp only [sigI, hw, if_true, he]
  · simp [sigV, hw]
  · simp [sigW, hw]
  · simp [sigL, hw]
theorem turn_no (h : woke w (ws.drop a) c = false) : sigW w (ws.drop a) c = orb w c ∧ sigL w (ws.drop a) c = ws.drop a := by
  constructor
  · simp [sigW, h]
  · simp [sigL, h]
end

set_option maxRecDepth 100000 in
set_option maxHeartbeats 4000000 in
theorem notifTurns {E W : World} {v : Value} {zs : List Int} (hr : Reads W 1 v (zs.map fun z => [Value.int .u32 z])) (z0 z1 : Int) :
    Con Try.prog 17 #[.int .i64 z0, .int .i64 z1, v] E [old W] (fun _ : Unit => .bool true) (fun _ => [old W]) := by
  refine Con.body (vs := [.int .i64 z0, .int .i64 z1, v]) (n := 131) Try.func17 rfl rfl [(0, .int .i64 z0), (1, .int .i64 z1), (2, v)] (env_ok 3 rfl) ?_
  refine J_readsB (fun w H => hr.old (by repeat (first | with_reducible exact Has.here | with_reducible assumption | with_reducible apply Has.there)) H) fun hw a cap hv h1 h2 h3 => ?_
  subst hv
  have hm : cap ≤ 9223372036854775807 := h2
  have hml : (zs.map fun z => [Value.int .u32 z]).length = zs.length := List.length_map _
  obtain ⟨N, hN⟩ : ∃ N, N = num z0 12 + 1 := ⟨_, rfl⟩
  have hn2 : num z0 12 < 12 := num_lt' (b := 12) (by omega)
  refine J_seq ?_
  refine J_region ?_
  refine L_pur rfl (p_assign rfl) ?_
  refine L_nil ?_
  refine Q_then ?_
  refine J_seq ?_
  refine J_region ?_
  refine L_op (x_call Try.func62 nm62 bd62 .nil rfl (first13) fun _ => ?_)
  refine L_pur rfl (p_assign rfl) ?_
  refine L_nil ?_
  refine Q_then ?_
  refine J_seq ?_
  refine J_seq ?_
  refine J_region ?_
  refine L_pur rfl (p_move rfl) ?_
  refine L_pur rfl (p_not rfl) ?_
  refine L_nil ?_
  refine Q_then ?_
  refine J_bool (t := 22) (c := false) rfl (rfl) ?_
  refine C_false rfl ?_
  refine J_skip ?_
  refine Q_then ?_
  refine J_seq ?_
  refine J_seq ?_
  refine J_region ?_
  refine L_pur rfl (p_move rfl) ?_
  refine L_pur rfl (p_len rfl Try.underlying123) ?_
  refine L_pur rfl (p_gtr rfl rfl) ?_
  refine L_nil ?_
  refine Q_then ?_
  refine C_dec rfl (fun h25 => ?_) (fun h25 => ?_)
  ·
    refine J_seq ?_
    refine J_region ?_
    refine L_pur rfl (p_move rfl) ?_
    refine L_pur rfl (p_assign rfl) ?_
    refine L_nil ?_
    refine Q_then ?_
    refine J_ret ?_
    refine Q_then_ret ?_
    exact J_return (()) Try.results17 (.tmp rfl .nil) rfl (by repeat (first | exact Sub.nil | exact Sub.refl | refine Sub.cons (by repeat (first | exact Pick.here | apply Pick.there)) ?_ | refine Sub.drop ?_))
  ·
    refine J_skip ?_
    refine Q_then ?_
    refine J_seq ?_
    refine J_region ?_
    refine L_pur rfl (p_move rfl) ?_
    refine L_op (x_call Try.func23 nm23 bd23 (.cons rfl (.cons rfl .nil)) rfl (number (by omega) (by omega)) fun _ => ?_)
    refine L_pur rfl (p_add64 rfl rfl (by omega)) ?_
    refine J_slot (t := 29) (v := .int .i64 (N : Int)) rfl (by rw [hN]; simp) ?_
    refine L_pur rfl (p_assign rfl) ?_
    refine L_nil ?_
    refine Q_then ?_
    refine J_seq ?_
    refine J_region ?_
    refine L_pur rfl (p_move rfl) ?_
    refine L_pur rfl (p_move rfl) ?_
    refine L_pur rfl (p_add64 rfl rfl (by omega)) ?_
    refine J_slot (t := 32) (v := .int .i64 ((N + 1 : Nat) : Int)) rfl (by simp) ?_
    refine L_op (x_call Try.func23 nm23 bd23 (.cons rfl (.cons rfl .nil)) rfl (number (b := ((N + 1 : Nat) : Int)) (by omega) (by omega)) fun _ => ?_)
    obtain ⟨k, hk⟩ : ∃ k, k = num z1 (N + 1 : Nat) := ⟨_, rfl⟩
    have hkN : k < N + 1 := by rw [hk]; exact num_lt' (by omega)
    refine J_slot (t := 33) (v := .int .i64 (k : Int)) rfl (by rw [hk]) ?_
    refine L_pur rfl (p_assign rfl) ?_
    refine L_nil ?_
    refine Q_then ?_
    refine J_seq ?_
    refine J_region ?_
    refine L_op (x_alloc ty116 rfl fun b8 => ?_)
    refine J_ntNew ?_
    refine L_nil ?_
    refine Q_then ?_
    refine J_seq ?_
    refine J_region ?_
    refine L_pur rfl (p_assign rfl) ?_
    refine J_nil (el := 36) (sz := 2) ?_
    refine L_nil ?_
    refine Q_then ?_
    refine J_seq ?_
    refine J_seq ?_
    refine J_region ?_
    refine L_pur rfl (p_assign rfl) ?_
    refine L_nil ?_
    refine Q_then ?_
    refine J_block ?_
    refine J_loop2 (fun i v' => i ≤ N) (fun i v' => [row 36 2 v' (((others i k).map mkA).map encI), ntA b8 0 0 ((List.range i).map mkA), old W]) (fun i v' => [(9, v'), (10, .int .i64 (i : Int)), (1, .int .i64 (k : Int)), (0, .int .i64 (N : Int)), (2, .slice a (zs.map fun z => [Value.int .u32 z]).length cap), (8, .pointer (some ⟨b8, 0, none⟩)), (7, .bool true)]) (fun i v' => N - i) 0 (.slice none 0 0) (by omega) (by repeat (first | exact Sub.nil | exact Sub.refl | refine Sub.cons (by repeat (first | exact Pick.here | apply Pick.there)) ?_ | refine Sub.drop ?_)) (by repeat (first | exact Keep.nil | refine Keep.cons rfl ?_)) ?_
    intro i v' hi
    have hol := others_len i k
    refine J_seq ?_
    refine J_seq ?_
    refine J_region ?_
    refine L_pur rfl (p_move rfl) ?_
    refine L_pur rfl (p_move rfl) ?_
    refine L_pur rfl (p_lss rfl rfl) ?_
    refine L_nil ?_
    refine Q_then ?_
    refine C_dec rfl (fun h36 => ?_) (fun h36 => ?_)
    ·
      refine J_skip ?_
      refine Q_then ?_
      refine J_seq ?_
      refine J_block ?_
      refine J_seq ?_
      refine J_seq ?_
      refine J_region ?_
      refine L_pur rfl (p_move rfl) ?_
      refine L_pur rfl (bld36 (.cons rfl (.cons rfl .nil)) (by repeat constructor)) ?_
      refine L_op (x_call Try.func63 nm63 bd63 (.cons rfl (.cons rfl .nil)) rfl (nWait (i := mkA i) (by repeat (first | with_reducible exact Pick.here | with_reducible assumption | with_reducible apply Pick.there)) (by simp; omega)) fun _ => ?_)
      refine J_pick (A := ntA b8 0 _ _) (by repeat (first | with_reducible exact Pick.here | with_reducible assumption | with_reducible apply Pick.there)) ?_
      refine J_asTo (B := ntA b8 0 0 ((List.range (i + 1)).map mkA)) (by rw [waitA]) ?_
      refine L_pur rfl (p_move rfl) ?_
      refine L_pur rfl (p_extract rfl rfl) ?_
      refine L_pur rfl (p_extract rfl rfl) ?_
      refine L_pur rfl (p_assign rfl) ?_
      refine L_pur rfl (p_assign rfl) ?_
      refine L_nil ?_
      refine Q_then ?_
      refine J_seq ?_
      refine J_region ?_
      refine L_pur rfl (p_move rfl) ?_
      refine L_nil ?_
      refine Q_then ?_
      refine J_bool (t := 45) (c := false) rfl (rfl) ?_
      refine C_false rfl ?_
      refine J_skip ?_
      refine Q_then ?_
      refine J_seq ?_
      refine J_region ?_
      refine L_pur rfl (p_move rfl) ?_
      refine L_pur rfl (p_move rfl) ?_
      refine L_pur rfl (p_neq rfl rfl) ?_
      refine L_nil ?_
      refine Q_then ?_
      refine C_dec rfl (fun h48 => ?_) (fun h48 => ?_)
      ·
        refine J_region ?_
        refine L_pur rfl (p_move rfl) ?_
        refine L_pur rfl (p_move rfl) ?_
        refine L_pur rfl (bld36 (.cons rfl (.cons rfl .nil)) (by repeat constructor)) ?_
        refine L_op (x_lit (vals := [_]) Try.underlying80 ty36 rfl (.cons rfl .nil) (.agg .nil) (Wf.cons rfl rfl Wf.nil) rfl (by decide) rfl rfl fun v52 => ?_)
        refine J_row .here fun hw52 a52 c52 hv52 hl52 hm52 hz52 => ?_
        subst hv52
        refine L_op (x_app rfl rfl Try.underlying80 ty36 rfl rfl (by repeat (first | with_reducible exact Pick.here | with_reducible assumption | with_reducible apply Pick.there)) (fun w H => sep_reads (by repeat (first | with_reducible exact Has.here | with_reducible assumption | with_reducible apply Has.there)) H) (by first | omega | (simp <;> omega)) (by first | omega | (simp <;> omega)) rfl fun v53 => ?_)
        refine J_rowEq (ys := ((others (i + 1) k).map mkA).map encI) (by rw [others_succ, if_neg (by omega)]; simp [mkA, encI]) ?_
        refine J_row .here fun hw53 a53 c53 hv53 hl53 hm53 hz53 => ?_
        subst hv53
        refine L_pur rfl (p_assign rfl) ?_
        refine J_nil (el := 36) (sz := 2) ?_
        refine L_nil ?_
        refine Q_blk_normal ?_
        refine Q_then ?_
        refine J_region ?_
        refine L_pur rfl (p_move rfl) ?_
        refine L_pur rfl (p_add64 rfl rfl (by omega)) ?_
        refine L_pur rfl (p_assign rfl) ?_
        refine L_nil ?_
        refine Q_then ?_
        
        exact J_again2 (i + 1) _ (by omega) (by omega) (by repeat (first | exact Sub.nil | exact Sub.refl | refine Sub.cons (by repeat (first | exact Pick.here | apply Pick.there)) ?_ | refine Sub.drop ?_)) (by repeat (first | exact Keep.nil | refine Keep.cons rfl ?_))
      ·
        refine J_skip ?_
        refine Q_blk_normal ?_
        refine Q_then ?_
        refine J_region ?_
        refine L_pur rfl (p_move rfl) ?_
        refine L_pur rfl (p_add64 rfl rfl (by omega)) ?_
        refine L_pur rfl (p_assign rfl) ?_
        refine L_nil ?_
        refine Q_then ?_
        refine J_pick (A := row 36 2 v' _) (by repeat (first | with_reducible exact Pick.here | with_reducible assumption | with_reducible apply Pick.there)) ?_
        refine J_rowEq (ys := ((others (i + 1) k).map mkA).map encI) (by rw [others_succ, if_pos (by simp at h48; omega)]; simp) ?_
        exact J_again2 (i + 1) _ (by omega) (by omega) (by repeat (first | exact Sub.nil | exact Sub.refl | refine Sub.cons (by repeat (first | exact Pick.here | apply Pick.there)) ?_ | refine Sub.drop ?_)) (by repeat (first | exact Keep.nil | refine Keep.cons rfl ?_))
    ·
      have hiN : i = N := by omega
      subst hiN
      obtain ⟨ws, hws⟩ : ∃ ws, ws = (others i k).map mkA := ⟨_, rfl⟩
      have hwl : ws.length ≤ i := by rw [hws]; simpa using hol
      have hmw : (ws.map encI).length = ws.length := List.length_map _
      refine J_pick (A := row 36 2 v' _) (by repeat (first | with_reducible exact Pick.here | with_reducible assumption | with_reducible apply Pick.there)) ?_
      refine J_rowEq (ys := ws.map encI) (by rw [hws]) ?_
      refine J_row .here fun hww aw cw hvw h1w h2w h3w => ?_
      subst hvw
      refine J_exit ?_
      refine Q_then_exit ?_
      refine Q_then_exit ?_
      refine Q_blk_this ?_
      refine Q_then ?_
      refine J_seq ?_
      refine J_seq ?_
      refine J_region ?_
      refine L_pur rfl (p_move rfl) ?_
      refine L_pur rfl (bld36 (.cons rfl (.cons rfl .nil)) (by repeat constructor)) ?_
      refine L_op (x_call Try.func68 nm68 bd68 (.cons rfl (.cons rfl .nil)) rfl (nDrop (i := mkA k) (by repeat (first | with_reducible exact Pick.here | with_reducible assumption | with_reducible apply Pick.there)) (by simp; omega)) fun _ => ?_)
      refine J_pick (A := ntA b8 0 _ _) (by repeat (first | with_reducible exact Pick.here | with_reducible assumption | with_reducible apply Pick.there)) ?_
      refine J_asTo (B := ntA b8 0 0 ws) (by rw [dropA, hws]; rfl) ?_
      refine L_pur rfl (p_move rfl) ?_
      refine L_pur rfl (p_move rfl) ?_
      refine L_pur rfl (p_lss rfl rfl) ?_
      refine L_pur rfl (p_neb Try.underlying4 rfl rfl) ?_
      refine L_pur rfl (p_move rfl) ?_
      refine J_bool (t := 61) (c := false) rfl (by have := @mkA_in k (List.range i); simp [this]) ?_
      refine L_op (G_on rfl rfl rfl ?_)
      refine x_call Try.func64 nm64 bd64 (.cons rfl .nil) rfl (nWaits (by repeat (first | with_reducible exact Pick.here | with_reducible assumption | with_reducible apply Pick.there)) (by omega)) fun v62 => ?_
      refine J_row .here fun hw62 a62 c62 hv62 hl62 hm62 hz62 => ?_
      subst hv62
      refine L_op (G_on rfl rfl rfl ?_)
      refine J_pur (p_move rfl) rfl rfl rfl ?_
      refine L_op (G_on rfl rfl rfl ?_)
      refine x_call Try.func55 nm55 bd55 (.cons rfl (.cons rfl .nil)) rfl (sameIDs (xs := ws) (fun w H => sep_reads (by repeat (first | with_reducible exact Has.here | with_reducible assumption | with_reducible apply Has.there)) H) (fun w H => sep_reads (by repeat (first | with_reducible exact Has.here | with_reducible assumption | with_reducible apply Has.there)) H) (by omega)) fun _ => ?_
      refine L_op (G_on rfl rfl rfl ?_)
      refine J_pur (p_not rfl) rfl rfl rfl ?_
      refine L_pur rfl (p_pick_f rfl rfl) ?_
      refine L_nil ?_
      refine Q_then ?_
      refine J_bool (t := 66) (c := false) rfl (by simp) ?_
      refine C_false rfl ?_
      refine J_skip ?_
      refine Q_then ?_
      refine J_seq ?_
      refine J_region ?_
      refine L_pur rfl (p_assign rfl) ?_
      refine L_nil ?_
      refine Q_then ?_
      refine J_seq ?_
      refine J_region ?_
      refine L_pur rfl (p_assign rfl) ?_
      refine L_nil ?_
      refine Q_then ?_
      refine J_seq ?_
      refine J_seq ?_
      refine J_region ?_
      refine L_pur rfl (p_assign rfl) ?_
      refine L_nil ?_
      refine Q_then ?_
      refine J_block ?_
      refine J_loop3 (fun j q w => j ≤ zs.length ∧ q ≤ ws.length) (fun j q w => [ntA b8 0 w (ws.drop q), row 36 2 (.slice aw (ws.map encI).length cw) (ws.map encI), old W]) (fun j q w => [(15, .int .i64 (j : Int)), (13, .int .i64 (q : Int)), (14, .int .u32 w), (9, .slice aw (ws.map encI).length cw), (0, .int .i64 (i : Int)), (2, .slice a (zs.map fun z => [Value.int .u32 z]).length cap), (8, .pointer (some ⟨b8, 0, none⟩)), (7, .bool true)]) (fun j q w => zs.length - j) 0 0 (0 : Int) ⟨by omega, by omega⟩ (by repeat (first | exact Sub.nil | exact Sub.refl | refine Sub.cons (by repeat (first | exact Pick.here | apply Pick.there)) ?_ | refine Sub.drop ?_)) (by repeat (first | exact Keep.nil | refine Keep.cons rfl ?_)) ?_
      intro j q w ⟨hj, hq⟩
      refine J_seq ?_
      refine J_seq ?_
      refine J_region ?_
      refine L_pur rfl (p_move rfl) ?_
      refine L_pur rfl (p_move rfl) ?_
      refine L_pur rfl (p_len rfl Try.underlying123) ?_
      refine L_pur rfl (p_lss rfl rfl) ?_
      refine L_nil ?_
      refine Q_then ?_
      refine C_dec rfl (fun h70 => ?_) (fun h70 => ?_)
      ·
        have hlt : j < zs.length := by omega
        obtain ⟨bx, ox, rfl⟩ := h3 (by intro h; rw [h] at hml; simp at hml; omega)
        obtain ⟨c, hcc⟩ : ∃ c, zs[j]? = some c := ⟨_, List.getElem?_eq_getElem hlt⟩
        refine J_skip ?_
        refine Q_then ?_
        refine J_seq ?_
        refine J_block ?_
        refine J_seq ?_
        refine J_region ?_
        refine L_pur rfl (p_move rfl) ?_
        refine L_pur rfl (p_move rfl) ?_
        refine L_pur rfl (p_indexAddr rfl rfl Try.underlying123 ty37 (by omega) (by omega)) ?_
        refine L_val rfl (by first | exact v_loadE1 rfl ty37 (by repeat (first | with_reducible exact Has.here | with_reducible assumption | with_reducible apply Has.there)) (by first | (simp only [Int.toNat_natCast, List.getElem?_map, hcc]; rfl) | (simp only [Int.toNat_natCast, List.getElem?_map, hcd]; rfl) | simp | rfl) | exact v_loadR1 rfl ty37 (fun w H => hr.old (by repeat (first | with_reducible exact Has.here | with_reducible assumption | with_reducible apply Has.there)) H) (by first | (simp only [Int.toNat_natCast, List.getElem?_map, hcc]; rfl) | (simp only [Int.toNat_natCast, List.getElem?_map, hcd]; rfl) | simp | rfl)) ?_
        refine L_op (x_call Try.func65 nm65 bd65 (.cons rfl (.cons rfl .nil)) rfl (nSignal (x := c) (by repeat (first | with_reducible exact Pick.here | with_reducible assumption | with_reducible apply Pick.there)) (by simp; omega)) fun _ => ?_)
        refine L_pur rfl (p_move rfl) ?_
        refine L_pur rfl (p_extract rfl rfl) ?_
        refine L_pur rfl (p_extract rfl rfl) ?_
        refine L_pur rfl (p_extract rfl rfl) ?_
        refine L_op (x_alloc ty36 rfl fun b16 => ?_)
        refine L_op (x_store rfl rfl ty36 rfl (by first | rfl | (simp [*]; done)) (by first | rfl | (simp [*]; done)) (by repeat (first | with_reducible exact Rep1.here | with_reducible apply Rep1.there)) (by first | exact Put.full rfl | ((repeat constructor); done) | exact Put.full (by first | rfl | simp [*])) ?_)
        refine L_pur rfl (p_assign rfl) ?_
        refine L_pur rfl (p_assign rfl) ?_
        refine L_nil ?_
        refine Q_then ?_
        refine J_seq ?_
        refine J_region ?_
        refine L_pur rfl (p_move rfl) ?_
        refine L_pur rfl (p_move rfl) ?_
        refine L_pur rfl (p_move rfl) ?_
        refine L_pur rfl (p_indexAddr rfl rfl Try.underlying123 ty37 (by omega) (by omega)) ?_
        refine L_val rfl (by first | exact v_loadE1 rfl ty37 (by repeat (first | with_reducible exact Has.here | with_reducible assumption | with_reducible apply Has.there)) (by first | (simp only [Int.toNat_natCast, List.getElem?_map, hcc]; rfl) | (simp only [Int.toNat_natCast, List.getElem?_map, hcd]; rfl) | simp | rfl) | exact v_loadR1 rfl ty37 (fun w H => hr.old (by repeat (first | with_reducible exact Has.here | with_reducible assumption | with_reducible apply Has.there)) H) (by first | (simp only [Int.toNat_natCast, List.getElem?_map, hcc]; rfl) | (simp only [Int.toNat_natCast, List.getElem?_map, hcd]; rfl) | simp | rfl)) ?_
        refine L_pur rfl (p_or rfl rfl) ?_
        refine L_pur rfl (p_assign rfl) ?_
        refine L_nil ?_
        refine Q_then ?_
        refine J_seq ?_
        refine J_region ?_
        refine L_pur rfl (p_move rfl) ?_
        refine L_pur rfl (p_neq rfl rfl) ?_
        refine L_pur rfl (p_move rfl) ?_
        refine J_gsplit (t := 90) rfl (fun h90 => ?_) (fun h90 => ?_)
        ·
          have h90' : ¬ orb w c = 0 := by simpa using h90
          have hwk : woke w (ws.drop q) c = decide (q < ws.length) := by rw [woke_at]; simp [h90']
          refine L_op (G_on rfl rfl rfl ?_)
          refine J_pur (p_move rfl) rfl rfl rfl ?_
          refine L_op (G_on rfl rfl rfl ?_)
          refine J_pur (p_move rfl) rfl rfl rfl ?_
          refine L_op (G_on rfl rfl rfl ?_)
          refine J_pur (p_len rfl Try.underlying80) rfl rfl rfl ?_
          refine L_op (G_on rfl rfl rfl ?_)
          refine J_pur (p_lss rfl rfl) rfl rfl rfl ?_
          refine L_pur rfl (p_pick_t rfl rfl) ?_
          refine L_pur rfl (p_assign rfl) ?_
          refine L_nil ?_
          refine Q_then ?_
          refine J_seq ?_
          refine J_seq ?_
          refine J_drawS mixed (by kernel_rfl) ?_
          refine S_val rfl (Pur.vl (p_move rfl)) ?_
          refine S_val rfl (Pur.vl (p_move rfl)) ?_
          refine S_val rfl (Pur.vl (p_neb Try.underlying4 rfl rfl)) ?_
          refine S_val rfl (Pur.vl (p_move rfl)) ?_
          refine J_bool (t := 99) (c := false) rfl (by simp [hwk]) ?_
          refine S_on rfl rfl rfl rfl (Pur.vl (p_move rfl)) ?_
          refine S_on rfl rfl rfl rfl (Pur.vl (p_move rfl)) ?_
          refine J_gsplit (t := 101) rfl (fun h101 => ?_) (fun h101 => ?_)
          ·
            have hqt : q < ws.length := by rw [hwk] at h101; simpa using h101
            obtain ⟨bw, ow, rfl⟩ := h3w (by intro h; rw [h] at hmw; simp at hmw; omega)
            obtain ⟨d, hcd⟩ : ∃ d, ws[q]? = some d := ⟨_, List.getElem?_eq_getElem hqt⟩
            obtain ⟨g1, g2, g3, g4, g5⟩ := turn_yes (w := w) (c := c) h90' hcd
            refine S_on rfl rfl rfl rfl (v_loadA rfl ty36 (by repeat (first | with_reducible exact Has.here | with_reducible assumption | with_reducible apply Has.there)) (by first | exact Cut.full rfl | ((repeat constructor); done) | exact Cut.full (by first | rfl | simp [*]))) ?_
            refine S_on rfl rfl rfl rfl (Pur.vl (p_move rfl)) ?_
            refine S_on rfl rfl rfl rfl (Pur.vl (p_move rfl)) ?_
            refine S_on rfl rfl rfl rfl (Pur.vl (p_indexAddr rfl rfl Try.underlying80 ty36 (by omega) (by omega))) ?_
            refine S_on rfl rfl rfl rfl (by first | exact v_loadE rfl ty36 (by repeat (first | with_reducible exact Has.here | with_reducible assumption | with_reducible apply Has.there)) (by first | (simp only [Int.toNat_natCast, List.getElem?_map, hcc]; rfl) | (simp only [Int.toNat_natCast, List.getElem?_map, hcd]; rfl) | simp | rfl) | exact v_loadR rfl ty36 (fun w H => hr.old (by repeat (first | with_reducible exact Has.here | with_reducible assumption | with_reducible apply Has.there)) H) (by first | (simp only [Int.toNat_natCast, List.getElem?_map, hcc]; rfl) | (simp only [Int.toNat_natCast, List.getElem?_map, hcd]; rfl) | simp | rfl)) ?_
            refine S_on rfl rfl rfl rfl (Pur.vl (p_nev rfl rfl (fun w => eg36 _ _ _ _ _ w) (fun w => nev36 _ _ _ _ w))) ?_
            refine S_on rfl rfl rfl rfl (Pur.vl (p_move rfl)) ?_
            refine J_bool (t := 108) (c := false) rfl (by simp [g2]) ?_
            refine S_on rfl rfl rfl rfl (Pur.vl (p_move rfl)) ?_
            refine S_on rfl rfl rfl rfl (Pur.vl (p_move rfl)) ?_
            refine S_on rfl rfl rfl rfl (Pur.vl (p_neq rfl rfl)) ?_
            refine S_on rfl rfl rfl rfl (Pur.vl (p_pick_f rfl rfl)) ?_
            refine S_on rfl rfl rfl rfl (Pur.vl (p_pick_t rfl rfl)) ?_
            refine S_val rfl (Pur.vl (p_pick_f rfl rfl)) ?_
            refine S_nil ?_
            refine Q_then ?_
            refine J_bool (t := 114) (c := false) rfl (by simp [g3]) ?_
            refine C_false rfl ?_
            refine J_skip ?_
            refine Q_then ?_
            refine J_seq ?_
            refine J_seq ?_
            refine J_region ?_
            refine L_pur rfl (p_move rfl) ?_
            refine L_nil ?_
            refine Q_then ?_
            refine J_bool (t := 115) (c := true) rfl (by simpa using hqt) ?_
            refine C_true rfl ?_
            refine J_seq ?_
            refine J_region ?_
            refine L_pur rfl (p_move rfl) ?_
            refine L_pur rfl (p_add64 rfl rfl (by omega)) ?_
            refine L_pur rfl (p_assign rfl) ?_
            refine L_nil ?_
            refine Q_then ?_
            refine J_region ?_
            refine L_pur rfl (p_assign rfl) ?_
            refine L_nil ?_
            refine Q_then ?_
            refine J_seq ?_
            refine J_region ?_
            refine L_op (x_call Try.func66 nm66 bd66 (.cons rfl .nil) rfl (nWord (by repeat (first | with_reducible exact Pick.here | with_reducible assumption | with_reducible apply Pick.there)) (by first | omega | (have := sigL_len w (ws.drop q) c; simp at this; omega))) fun _ => ?_)
            refine L_pur rfl (p_move rfl) ?_
            refine L_pur rfl (p_neq rfl rfl) ?_
            refine L_nil ?_
            refine Q_then ?_
            refine J_bool (t := 120) (c := false) rfl (by simp [g4]) ?_
            refine C_false rfl ?_
            refine J_skip ?_
            refine Q_blk_normal ?_
            refine Q_then ?_
            refine J_region ?_
            refine L_pur rfl (p_move rfl) ?_
            refine L_pur rfl (p_add64 rfl rfl (by omega)) ?_
            refine L_pur rfl (p_assign rfl) ?_
            refine L_nil ?_
            refine Q_then ?_
            refine J_pick (A := ntA b8 0 _ _) (by repeat (first | with_reducible exact Pick.here | with_reducible assumption | with_reducible apply Pick.there)) ?_
            refine J_asTo (B := ntA b8 0 0 (ws.drop (q + 1))) (by rw [g4, g5]) ?_
            exact J_again3 (j + 1) (q + 1) 0 (by omega) (⟨by omega, by omega⟩) (by repeat (first | exact Sub.nil | exact Sub.refl | refine Sub.cons (by repeat (first | exact Pick.here | apply Pick.there)) ?_ | refine Sub.drop ?_)) (by repeat (first | exact Keep.nil | refine Keep.cons rfl ?_))
          ·
            have hqt : ¬ q < ws.length := by rw [hwk] at h101; simpa using h101
            obtain ⟨g4, g5⟩ := turn_no (w := w) (c := c) (ws := ws) (a := q) (by rw [hwk]; simpa using hqt)
            refine S_off rfl rfl rfl rfl rfl ?_
            refine S_off rfl rfl rfl rfl rfl ?_
            refine S_off rfl rfl rfl rfl rfl ?_
            refine S_off rfl rfl rfl rfl rfl ?_
            refine S_off rfl rfl rfl rfl rfl ?_
            refine S_off rfl rfl rfl rfl rfl ?_
            refine S_off rfl rfl rfl rfl rfl ?_
            refine S_offU rfl rfl rfl rfl ?_
            refine S_offU rfl rfl rfl rfl ?_
            refine S_offU rfl rfl rfl rfl ?_
            refine S_off rfl rfl rfl rfl rfl ?_
            refine S_on rfl rfl rfl rfl (Pur.vl (p_pick_f rfl rfl)) ?_
            refine S_val rfl (Pur.vl (p_pick_f rfl rfl)) ?_
            refine S_nil ?_
            refine Q_then ?_
            refine C_false rfl ?_
            refine J_skip ?_
            refine Q_then ?_
            refine J_seq ?_
            refine J_seq ?_
            refine J_region ?_
            refine L_pur rfl (p_move rfl) ?_
            refine L_nil ?_
            refine Q_then ?_
            refine J_bool (t := 115) (c := false) rfl (by simpa using hqt) ?_
            refine C_false rfl ?_
            refine J_skip ?_
            refine Q_then ?_
            refine J_seq ?_
            refine J_region ?_
            refine L_op (x_call Try.func66 nm66 bd66 (.cons rfl .nil) rfl (nWord (by repeat (first | with_reducible exact Pick.here | with_reducible assumption | with_reducible apply Pick.there)) (by first | omega | (have := sigL_len w (ws.drop q) c; simp at this; omega))) fun _ => ?_)
            refine L_pur rfl (p_move rfl) ?_
            refine L_pur rfl (p_neq rfl rfl) ?_
            refine L_nil ?_
            refine Q_then ?_
            refine J_bool (t := 120) (c := false) rfl (by simp [g4]) ?_
            refine C_false rfl ?_
            refine J_skip ?_
            refine Q_blk_normal ?_
            refine Q_then ?_
            refine J_region ?_
            refine L_pur rfl (p_move rfl) ?_
            refine L_pur rfl (p_add64 rfl rfl (by omega)) ?_
            refine L_pur rfl (p_assign rfl) ?_
            refine L_nil ?_
            refine Q_then ?_
            refine J_pick (A := ntA b8 0 _ _) (by repeat (first | with_reducible exact Pick.here | with_reducible assumption | with_reducible apply Pick.there)) ?_
            refine J_asTo (B := ntA b8 0 (orb w c) (ws.drop q)) (by rw [g4, g5]) ?_
            exact J_again3 (j + 1) q (orb w c) (by omega) (⟨by omega, by omega⟩) (by repeat (first | exact Sub.nil | exact Sub.refl | refine Sub.cons (by repeat (first | exact Pick.here | apply Pick.there)) ?_ | refine Sub.drop ?_)) (by repeat (first | exact Keep.nil | refine Keep.cons rfl ?_))
        ·
          have h90' : orb w c = 0 := by simpa using h90
          have hwk : woke w (ws.drop q) c = false := by rw [woke_at]; simp [h90']
          obtain ⟨g4, g5⟩ := turn_no hwk
          refine L_op (G_off rfl rfl rfl rfl rfl rfl ?_)
          refine L_op (G_off rfl rfl rfl rfl rfl rfl ?_)
          refine L_op (G_off rfl rfl rfl rfl rfl rfl ?_)
          refine L_op (G_off rfl rfl rfl rfl rfl rfl ?_)
          refine L_pur rfl (p_pick_f rfl rfl) ?_
          refine L_pur rfl (p_assign rfl) ?_
          refine L_nil ?_
          refine Q_then ?_
          refine J_seq ?_
          refine J_seq ?_
          refine J_drawS mixed (by kernel_rfl) ?_
          refine S_val rfl (Pur.vl (p_move rfl)) ?_
          refine S_val rfl (Pur.vl (p_move rfl)) ?_
          refine S_val rfl (Pur.vl (p_neb Try.underlying4 rfl rfl)) ?_
          refine S_val rfl (Pur.vl (p_move rfl)) ?_
          refine J_bool (t := 99) (c := false) rfl (by simp [hwk]) ?_
          refine S_on rfl rfl rfl rfl (Pur.vl (p_move rfl)) ?_
          refine S_on rfl rfl rfl rfl (Pur.vl (p_move rfl)) ?_
          refine J_bool (t := 101) (c := false) rfl (by simp [hwk]) ?_
          refine S_off rfl rfl rfl rfl rfl ?_
          refine S_off rfl rfl rfl rfl rfl ?_
          refine S_off rfl rfl rfl rfl rfl ?_
          refine S_off rfl rfl rfl rfl rfl ?_
          refine S_off rfl rfl rfl rfl rfl ?_
          refine S_off rfl rfl rfl rfl rfl ?_
          refine S_off rfl rfl rfl rfl rfl ?_
          refine S_offU rfl rfl rfl rfl ?_
          refine S_offU rfl rfl rfl rfl ?_
          refine S_offU rfl rfl rfl rfl ?_
          refine S_off rfl rfl rfl rfl rfl ?_
          refine S_on rfl rfl rfl rfl (Pur.vl (p_pick_f rfl rfl)) ?_
          refine S_val rfl (Pur.vl (p_pick_f rfl rfl)) ?_
          refine S_nil ?_
          refine Q_then ?_
          refine C_false rfl ?_
          refine J_skip ?_
          refine Q_then ?_
          refine J_seq ?_
          refine J_seq ?_
          refine J_region ?_
          refine L_pur rfl (p_move rfl) ?_
          refine L_nil ?_
          refine Q_then ?_
          refine J_bool (t := 115) (c := false) rfl (rfl) ?_
          refine C_false rfl ?_
          refine J_skip ?_
          refine Q_then ?_
          refine J_seq ?_
          refine J_region ?_
          refine L_op (x_call Try.func66 nm66 bd66 (.cons rfl .nil) rfl (nWord (by repeat (first | with_reducible exact Pick.here | with_reducible assumption | with_reducible apply Pick.there)) (by first | omega | (have := sigL_len w (ws.drop q) c; simp at this; omega))) fun _ => ?_)
          refine L_pur rfl (p_move rfl) ?_
          refine L_pur rfl (p_neq rfl rfl) ?_
          refine L_nil ?_
          refine Q_then ?_
          refine J_bool (t := 120) (c := false) rfl (by simp [g4]) ?_
          refine C_false rfl ?_
          refine J_skip ?_
          refine Q_blk_normal ?_
          refine Q_then ?_
          refine J_region ?_
          refine L_pur rfl (p_move rfl) ?_
          refine L_pur rfl (p_add64 rfl rfl (by omega)) ?_
          refine L_pur rfl (p_assign rfl) ?_
          refine L_nil ?_
          refine Q_then ?_
          refine J_pick (A := ntA b8 0 _ _) (by repeat (first | with_reducible exact Pick.here | with_reducible assumption | with_reducible apply Pick.there)) ?_
          refine J_asTo (B := ntA b8 0 (orb w c) (ws.drop q)) (by rw [g4, g5]) ?_
          exact J_again3 (j + 1) q (orb w c) (by omega) (⟨by omega, by omega⟩) (by repeat (first | exact Sub.nil | exact Sub.refl | refine Sub.cons (by repeat (first | exact Pick.here | apply Pick.there)) ?_ | refine Sub.drop ?_)) (by repeat (first | exact Keep.nil | refine Keep.cons rfl ?_))
      ·
        have hjz : j = zs.length := by omega
        refine J_exit ?_
        refine Q_then_exit ?_
        refine Q_then_exit ?_
        refine Q_blk_this ?_
        refine Q_then ?_
        refine J_seq ?_
        refine J_region ?_
        refine L_pur rfl (p_move rfl) ?_
        refine L_pur rfl (p_move rfl) ?_
        refine J_bool (t := 122) (c := true) rfl (rfl) ?_
        refine L_op (G_on rfl rfl rfl ?_)
        refine x_call Try.func64 nm64 bd64 (.cons rfl .nil) rfl (nWaits (by repeat (first | with_reducible exact Pick.here | with_reducible assumption | with_reducible apply Pick.there)) (by simp; omega)) fun v123 => ?_
        refine J_row .here fun hw123 a123 c123 hv123 hl123 hm123 hz123 => ?_
        subst hv123
        refine L_op (G_on rfl rfl rfl ?_)
        refine J_pur (p_len rfl Try.underlying80) rfl rfl rfl ?_
        refine L_op (G_on rfl rfl rfl ?_)
        refine J_pur (p_move rfl) rfl rfl rfl ?_
        refine L_op (G_on rfl rfl rfl ?_)
        refine J_pur (p_len rfl Try.underlying80) rfl rfl rfl ?_
        refine L_op (G_on rfl rfl rfl ?_)
        refine J_pur (p_move rfl) rfl rfl rfl ?_
        refine L_op (G_on rfl rfl rfl ?_)
        refine J_pur (p_sub64 rfl rfl (by omega)) rfl rfl rfl ?_
        refine L_op (G_on rfl rfl rfl ?_)
        refine J_pur (p_eql rfl rfl) rfl rfl rfl ?_
        refine L_pur rfl (p_pick_t rfl rfl) ?_
        refine J_bool (t := 130) (c := true) rfl (by simp; omega) ?_
        refine L_pur rfl (p_assign rfl) ?_
        refine L_nil ?_
        refine Q_then ?_
        refine J_ret ?_
        exact J_return (()) Try.results17 (.tmp rfl .nil) rfl (by repeat (first | exact Sub.nil | exact Sub.refl | refine Sub.cons (by repeat (first | exact Pick.here | apply Pick.there)) ?_ | refine Sub.drop ?_))

end Go.Pse
