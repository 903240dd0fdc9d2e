/-
  The law on sends and receives in turn.
-/
import Derived.Test.YtjolbnicboaaeaaEp2
namespace Go.Pse
open Go.RowKit Go.Proofs

/-! ### plain: who waits after s sends and r receives -/
def mg (k : Nat) : Msg := ((1, k), k, 0, false)
def rc (k : Nat) : Rcv := ((2, k), k)
def outs (s r : Nat) : List Msg := (List.range' r (s - r)).map mg
def inns (s r : Nat) : List Rcv := (List.range' s (r - s)).map rc
theorem outs_len (s r : Nat) : (outs s r).length = s - r := by simp [outs]
theorem inns_len (s r : Nat) : (inns s r).length = r - s := by simp [inns]
theorem inns_nil {s r : Nat} (h : r ≤ s) : inns s r = [] := by simp [inns, Nat.sub_eq_zero_of_le h]
theorem outs_nil {s r : Nat} (h : s ≤ r) : outs s r = [] := by simp [outs, Nat.sub_eq_zero_of_le h]
theorem inns_cons {s r : Nat} (h : s < r) : inns s r = rc s :: inns (s + 1) r := by
  unfold inns
  rw [show r - s = (r - (s + 1)) + 1 by omega, List.range'_succ]; rfl
theorem outs_cons {s r : Nat} (h : r < s) : outs s r = mg r :: outs s (r + 1) := by
  unfold outs
  rw [show s - r = (s - (r + 1)) + 1 by omega, List.range'_succ]; rfl
theorem outs_snoc {s r : Nat} (h : r ≤ s) : outs s r ++ [mg s] = outs (s + 1) r := by
  unfold outs
  rw [show s + 1 - r = (s - r) + 1 by omega, List.range'_concat]
  simp; congr 1; omega
theorem inns_snoc {s r : Nat} (h : s ≤ r) : inns s r ++ [rc r] = inns s (r + 1) := by
  unfold inns
  rw [show r + 1 - s = (r - s) + 1 by omega, List.range'_concat]
  simp; congr 1; omega

theorem sendAt {E : World} {l m : List As} {b s r : Nat} (hp : Pick (epA b (outs s r) (inns s r)) l m) (hs : s ≤ 1000) (hr : r ≤ 1000) :
    Con Try.prog 30 #[.pointer (some ⟨b, 0, none⟩), .agg (encM (mg s)).toArray] E l (fun _ : Unit => .tuple #[.agg (encR (if s < r then rc s else ((0, 0), 0))).toArray, .bool (decide (s < r))]) (fun _ => epA b (outs (s + 1) r) (inns (s + 1) r) :: m) := by
  have h := send (E := E) hp (by rw [outs_len]; omega) (by rw [inns_len]; omega) (mg s)
  by_cases hsr : s < r
  · rw [inns_cons hsr, outs_nil (by omega)] at h
    rw [if_pos hsr, decide_eq_true hsr, outs_nil (by omega)]
    exact h
  · rw [inns_nil (by omega), outs_snoc (by omega)] at h
    rw [if_neg hsr, decide_eq_false hsr, inns_nil (by omega)]
    exact h
theorem recvAt {E : World} {l m : List As} {b s r : Nat} (hp : Pick (epA b (outs s r) (inns s r)) l m) (hs : s ≤ 1000) (hr : r ≤ 1000) :
    Con Try.prog 31 #[.pointer (some ⟨b, 0, none⟩), .agg (encR (rc r)).toArray] E l (fun _ : Unit => .tuple #[.agg (encM (if r < s then mg r else ((0, 0), 0, 0, false))).toArray, .bool (decide (r < s))]) (fun _ => epA b (outs s (r + 1)) (inns s (r + 1)) :: m) := by
  have h := recv (E := E) hp (by rw [outs_len]; omega) (by rw [inns_len]; omega) (rc r)
  by_cases hsr : r < s
  · rw [outs_cons hsr, inns_nil (by omega)] at h
    rw [if_pos hsr, decide_eq_true hsr, inns_nil (by omega)]
    exact h
  · rw [outs_nil (by omega), inns_snoc (by omega)] at h
    rw [if_neg hsr, decide_eq_false hsr, outs_nil (by omega)]
    exact h

set_option maxRecDepth 100000 in
set_option maxHeartbeats 4000000 in
theorem first {E : World} {l : List As} :
  Con Try.prog 29 #[] E l (fun _ : Unit => .bool true) (fun _ => l) := by
 refine Con.body (vs := []) (n := 28) Try.func29 rfl rfl [] (env_ok 0 rfl) ?_
 refine J_seq ?_
 refine J_region ?_
 refine L_pur rfl (p_assign rfl) ?_
 refine L_nil ?_
 refine Q_then ?_
 refine J_seq ?_
 refine J_region ?_
 refine L_op (x_alloc ty50 rfl fun b1 => ?_)
 refine J_ep ?_
 refine L_nil ?_
 refine Q_then ?_
 refine J_seq ?_
 refine J_region ?_
 refine L_pur rfl (bld36 (.cons rfl (.cons rfl .nil)) (by repeat constructor)) ?_
 refine L_pur rfl (bld56 (.cons rfl (.cons rfl .nil)) (by repeat constructor)) ?_
 refine L_op (x_call Try.func30 nm30 bd30 (.cons rfl (.cons rfl .nil)) rfl (send (x := ((1, 1), 5, 0, false)) PC (by simp) (by simp)) fun _ => ?_)
 refine L_pur rfl (p_move rfl) ?_
 refine L_pur rfl (p_extract rfl rfl) ?_
 refine L_pur rfl (p_extract rfl rfl) ?_
 refine L_op (x_alloc ty52 rfl fun b2 => ?_)
 refine L_op (x_store rfl rfl ty52 rfl (by first | rfl | (simp [*]; done)) (by first | rfl | (simp [*]; done)) RO PT ?_)
 refine L_pur rfl (p_assign rfl) ?_
 refine L_nil ?_
 refine Q_then ?_
 refine J_seq ?_
 refine J_region ?_
 refine L_pur rfl (bld36 (.cons rfl (.cons rfl .nil)) (by repeat constructor)) ?_
 refine L_pur rfl (bld52 (.cons rfl .nil) (by repeat constructor)) ?_
 refine L_op (x_call Try.func31 nm31 bd31 (.cons rfl (.cons rfl .nil)) rfl (recv (x := ((2, 1), 0)) PC (by simp) (by simp)) fun _ => ?_)
 refine L_pur rfl (p_move rfl) ?_
 refine L_pur rfl (p_extract rfl rfl) ?_
 refine L_pur rfl (p_extract rfl rfl) ?_
 refine L_op (x_alloc ty56 rfl fun b4 => ?_)
 refine L_op (x_store rfl rfl ty56 rfl (by first | rfl | (simp [*]; done)) (by first | rfl | (simp [*]; done)) RO PT ?_)
 refine L_pur rfl (p_assign rfl) ?_
 refine L_nil ?_
 refine Q_then ?_
 refine J_seq ?_
 refine J_region ?_
 refine L_pur rfl (p_move rfl) ?_
 refine L_pur rfl (p_not rfl) ?_
 refine L_pur rfl (p_move rfl) ?_
 refine J_bool (t := 20) (c := true) rfl (rfl) ?_
 refine L_op (G_on rfl rfl rfl ?_)
 refine J_pur (p_move rfl) rfl rfl rfl ?_
 refine L_pur rfl (p_pick_t rfl rfl) ?_
 refine L_pur rfl (p_move rfl) ?_
 refine J_bool (t := 23) (c := true) rfl (rfl) ?_
 refine L_op (G_on rfl rfl rfl ?_)
 refine J_pur (p_fieldAddr rfl fa56_1) rfl rfl rfl ?_
 refine L_op (G_on rfl rfl rfl ?_)
 refine J_val (v_load rfl ty37 HS (by exact rfl)) rfl rfl rfl ?_
 refine L_op (G_on rfl rfl rfl ?_)
 refine J_pur (p_eql rfl rfl) rfl rfl rfl ?_
 refine L_pur rfl (p_pick_t rfl rfl) ?_
 refine L_pur rfl (p_assign rfl) ?_
 refine L_nil ?_
 refine Q_then ?_
 refine J_ret ?_
 exact J_return (()) Try.results29 (.tmp rfl .nil) rfl SU

set_option maxRecDepth 100000 in
set_option maxHeartbeats 4000000 in
theorem epPairs {E W : World} {v : Value} {bs : List Bool} (hr : Reads W 1 v (bs.map fun b => [Value.bool b])) :
  Con Try.prog 5 #[v] E [old W] (fun _ : Unit => .bool true) (fun _ => [old W]) := by
 refine Con.body (vs := [v]) (n := 120) Try.func5 rfl rfl [(0, v)] (env_ok 1 rfl) ?_
 refine J_readsB (fun w H => hr.old .here H) fun hw a cap hv h1 h2 h3 => ?_
 subst hv
 have hm : cap ≤ 9223372036854775807 := h2
 have hml : (bs.map fun b => [Value.bool b]).length = bs.length := List.length_map _
 refine J_seq ?_
 refine J_region ?_
 refine L_pur rfl (p_assign rfl) ?_
 refine L_nil ?_
 refine Q_then ?_
 refine J_seq ?_
 refine J_region ?_
 refine L_op (x_call Try.func29 nm29 bd29 .nil rfl (first) fun _ => ?_)
 refine L_pur rfl (p_assign rfl) ?_
 refine L_nil ?_
 refine Q_then ?_
 refine J_seq ?_
 refine J_seq ?_
 refine J_region ?_
 refine L_pur rfl (p_move rfl) ?_
 refine L_pur rfl (p_not rfl) ?_
 refine L_nil ?_
 refine Q_then ?_
 refine J_bool (t := 15) (c := false) rfl (rfl) ?_
 refine C_false rfl ?_
 refine J_skip ?_
 refine Q_then ?_
 refine J_seq ?_
 refine J_seq ?_
 refine J_region ?_
 refine L_pur rfl (p_move rfl) ?_
 refine L_pur rfl (p_len rfl Try.underlying22) ?_
 refine L_pur rfl (p_gtr rfl rfl) ?_
 refine L_nil ?_
 refine Q_then ?_
 refine C_dec rfl (fun h18 => ?_) (fun h18 => ?_)
 ·
  refine J_seq ?_
  refine J_region ?_
  refine L_pur rfl (p_move rfl) ?_
  refine L_pur rfl (p_assign rfl) ?_
  refine L_nil ?_
  refine Q_then ?_
  refine J_ret ?_
  refine Q_then_ret ?_
  exact J_return (()) Try.results5 (.tmp rfl .nil) rfl SU
 ·
  refine J_skip ?_
  refine Q_then ?_
  refine J_seq ?_
  refine J_region ?_
  refine L_op (x_alloc ty50 rfl fun b4 => ?_)
  refine J_ep ?_
  refine L_nil ?_
  refine Q_then ?_
  refine J_seq ?_
  refine J_region ?_
  refine L_pur rfl (p_assign rfl) ?_
  refine L_nil ?_
  refine Q_then ?_
  refine J_seq ?_
  refine J_region ?_
  refine L_pur rfl (p_assign rfl) ?_
  refine L_nil ?_
  refine Q_then ?_
  refine J_seq ?_
  refine J_region ?_
  refine L_pur rfl (p_assign rfl) ?_
  refine L_nil ?_
  refine Q_then ?_
  refine J_seq ?_
  refine J_seq ?_
  refine J_region ?_
  refine L_pur rfl (p_assign rfl) ?_
  refine L_nil ?_
  refine Q_then ?_
  refine J_block ?_
  refine J_loop3 (fun i s r => i ≤ bs.length ∧ s + r = i) (fun i s r => [epA b4 (outs s r) (inns s r), old W]) (fun i s r => [(0, .slice a (bs.map fun b => [Value.bool b]).length cap), (3, .bool true), (4, .pointer (some ⟨b4, 0, none⟩)), (5, .int .i64 (s : Int)), (6, .int .i64 (r : Int)), (7, .int .i64 ((min s r : Nat) : Int)), (8, .int .i64 (i : Int))]) (fun i s r => bs.length - i) 0 0 0 ⟨by omega, rfl⟩ SU KE ?_
  intro i s r ⟨hi, hsr⟩
  refine J_seq ?_
  refine J_seq ?_
  refine J_region ?_
  refine L_pur rfl (p_move rfl) ?_
  refine L_pur rfl (p_move rfl) ?_
  refine L_pur rfl (p_len rfl Try.underlying22) ?_
  refine L_pur rfl (p_lss rfl rfl) ?_
  refine L_nil ?_
  refine Q_then ?_
  refine C_dec rfl (fun h23 => ?_) (fun h23 => ?_)
  ·
   have hlt : i < bs.length := by omega
   obtain ⟨b, o, rfl⟩ := h3 (by intro h; rw [h] at hml; simp at hml; omega)
   obtain ⟨c, hcc⟩ : ∃ c, bs[i]? = some c := ⟨_, List.getElem?_eq_getElem hlt⟩
   refine J_skip ?_
   refine Q_then ?_
   refine J_seq ?_
   refine J_block ?_
   refine J_seq ?_
   refine J_seq ?_
   refine J_region ?_
   refine L_pur rfl (p_move rfl) ?_
   refine L_pur rfl (p_move rfl) ?_
   refine L_pur rfl (p_indexAddr rfl rfl Try.underlying22 ty4 (by omega) (by omega)) ?_
   refine L_val rfl (v_loadR1 rfl ty4 (fun w H => hr.old HS H) (by simp only [Int.toNat_natCast, List.getElem?_map, hcc]; rfl)) ?_
   refine L_nil ?_
   refine Q_then ?_
   refine C_split rfl (fun h29 => ?_) (fun h29 => ?_)
   ·
    refine J_seq ?_
    refine J_region ?_
    refine L_pur rfl (p_move rfl) ?_
    refine L_pur rfl (bld36 (.cons rfl (.cons rfl .nil)) (by repeat constructor)) ?_
    refine L_pur rfl (p_move rfl) ?_
    refine L_pur rfl (p_conv rfl Try.underlying3 Try.underlying37) ?_
    refine J_slot (t := 34) (v := .int .u32 (s : Int)) rfl (by rw [wrap32u_of ⟨by omega, by omega⟩]) ?_
    refine L_pur rfl (bld56 (.cons rfl (.cons rfl .nil)) (by repeat constructor)) ?_
    refine L_op (x_call Try.func30 nm30 bd30 (.cons rfl (.cons rfl .nil)) rfl (sendAt (s := s) (r := r) PC (by omega) (by omega)) fun _ => ?_)
    refine L_pur rfl (p_move rfl) ?_
    refine L_pur rfl (p_extract rfl rfl) ?_
    refine L_pur rfl (p_extract rfl rfl) ?_
    refine L_op (x_alloc ty52 rfl fun b9 => ?_)
    refine L_op (x_store rfl rfl ty52 rfl (by first | rfl | (simp [*]; done)) (by first | rfl | (simp [*]; done)) RO PT ?_)
    refine L_pur rfl (p_assign rfl) ?_
    refine L_nil ?_
    refine Q_then ?_
    refine J_seq ?_
    refine J_seq ?_
    refine J_region ?_
    refine L_pur rfl (p_move rfl) ?_
    refine L_pur rfl (p_move rfl) ?_
    refine L_pur rfl (p_move rfl) ?_
    refine L_pur rfl (p_gtr rfl rfl) ?_
    refine L_pur rfl (p_neb Try.underlying4 rfl rfl) ?_
    refine L_pur rfl (p_move rfl) ?_
    refine J_bool (t := 44) (c := false) rfl (by simp) ?_
    refine L_op (G_on rfl rfl rfl ?_)
    refine J_pur (p_move rfl) rfl rfl rfl ?_
    refine L_op (G_on rfl rfl rfl ?_)
    refine J_pur (p_move rfl) rfl rfl rfl ?_
    refine J_gsplit (t := 46) rfl (fun h46 => ?_) (fun h46 => ?_)
    ·
     refine L_op (G_on rfl rfl rfl ?_)
     refine J_pur (p_fieldAddr rfl fa52_0) rfl rfl rfl ?_
     refine L_op (G_on rfl rfl rfl ?_)
     refine J_val (v_loadA rfl ty36 HS CT) rfl rfl rfl ?_
     refine L_op (G_on rfl rfl rfl ?_)
     refine J_pur (p_move rfl) rfl rfl rfl ?_
     refine L_op (G_on rfl rfl rfl ?_)
     refine J_pur (bld36 (.cons rfl (.cons rfl .nil)) (by repeat constructor)) rfl rfl rfl ?_
     refine L_op (G_on rfl rfl rfl ?_)
     refine J_pur (p_nev rfl rfl (fun w => eg36 _ _ _ _ _ w) (fun w => nev36 _ _ _ _ w)) rfl rfl rfl ?_
     refine L_op (G_on rfl rfl rfl ?_)
     refine J_pur (p_pick_t rfl rfl) rfl rfl rfl ?_
     refine L_pur rfl (p_pick_f rfl rfl) ?_
     refine L_nil ?_
     refine Q_then ?_
     refine J_bool (t := 53) (c := false) rfl (by first | rfl | (simp at h46; simp [h46, rc])) ?_
     refine C_false rfl ?_
     refine J_skip ?_
     refine Q_then ?_
     refine J_seq ?_
     refine J_seq ?_
     refine J_region ?_
     refine L_pur rfl (p_move rfl) ?_
     refine L_nil ?_
     refine Q_then ?_
     refine C_split rfl (fun h54 => ?_) (fun h54 => ?_)
     ·
      refine J_region ?_
      refine L_pur rfl (p_move rfl) ?_
      refine L_pur rfl (p_add64 rfl rfl (by omega)) ?_
      refine L_pur rfl (p_assign rfl) ?_
      refine L_nil ?_
      refine Q_then ?_
      refine J_seq ?_
      refine J_region ?_
      refine L_pur rfl (p_move rfl) ?_
      refine L_pur rfl (p_add64 rfl rfl (by omega)) ?_
      refine L_pur rfl (p_assign rfl) ?_
      refine L_nil ?_
      refine Q_then ?_
      refine J_exit ?_
      refine Q_then_exit ?_
      refine Q_blk_this ?_
      refine Q_then ?_
      refine J_region ?_
      refine L_pur rfl (p_move rfl) ?_
      refine L_pur rfl (p_add64 rfl rfl (by omega)) ?_
      refine L_pur rfl (p_assign rfl) ?_
      refine L_nil ?_
      refine Q_then ?_
      refine J_slot (t := 7) (v := .int .i64 ((min (s + 1) r : Nat) : Int)) rfl (by simp at h54; congr 1; omega) ?_
      exact J_again3 (i + 1) (s + 1) r (by omega) (⟨by omega, by omega⟩) SU KE
     ·
      refine J_skip ?_
      refine Q_then ?_
      refine J_seq ?_
      refine J_region ?_
      refine L_pur rfl (p_move rfl) ?_
      refine L_pur rfl (p_add64 rfl rfl (by omega)) ?_
      refine L_pur rfl (p_assign rfl) ?_
      refine L_nil ?_
      refine Q_then ?_
      refine J_exit ?_
      refine Q_then_exit ?_
      refine Q_blk_this ?_
      refine Q_then ?_
      refine J_region ?_
      refine L_pur rfl (p_move rfl) ?_
      refine L_pur rfl (p_add64 rfl rfl (by omega)) ?_
      refine L_pur rfl (p_assign rfl) ?_
      refine L_nil ?_
      refine Q_then ?_
      refine J_slot (t := 7) (v := .int .i64 ((min (s + 1) r : Nat) : Int)) rfl (by simp at h54; congr 1; omega) ?_
      exact J_again3 (i + 1) (s + 1) r (by omega) (⟨by omega, by omega⟩) SU KE
    ·
     refine L_op (G_off rfl rfl rfl rfl rfl rfl ?_)
     refine L_op (G_off rfl rfl rfl rfl rfl rfl ?_)
     refine L_op (G_off rfl rfl rfl rfl rfl rfl ?_)
     refine L_op (G_off rfl rfl rfl rfl rfl rfl ?_)
     refine L_op (G_off rfl rfl rfl rfl rfl rfl ?_)
     refine L_op (G_on rfl rfl rfl ?_)
     refine J_pur (p_pick_f rfl rfl) rfl rfl rfl ?_
     refine L_pur rfl (p_pick_f rfl rfl) ?_
     refine L_nil ?_
     refine Q_then ?_
     refine C_false rfl ?_
     refine J_skip ?_
     refine Q_then ?_
     refine J_seq ?_
     refine J_seq ?_
     refine J_region ?_
     refine L_pur rfl (p_move rfl) ?_
     refine L_nil ?_
     refine Q_then ?_
     refine C_split rfl (fun h54 => ?_) (fun h54 => ?_)
     ·
      refine J_region ?_
      refine L_pur rfl (p_move rfl) ?_
      refine L_pur rfl (p_add64 rfl rfl (by omega)) ?_
      refine L_pur rfl (p_assign rfl) ?_
      refine L_nil ?_
      refine Q_then ?_
      refine J_seq ?_
      refine J_region ?_
      refine L_pur rfl (p_move rfl) ?_
      refine L_pur rfl (p_add64 rfl rfl (by omega)) ?_
      refine L_pur rfl (p_assign rfl) ?_
      refine L_nil ?_
      refine Q_then ?_
      refine J_exit ?_
      refine Q_then_exit ?_
      refine Q_blk_this ?_
      refine Q_then ?_
      refine J_region ?_
      refine L_pur rfl (p_move rfl) ?_
      refine L_pur rfl (p_add64 rfl rfl (by omega)) ?_
      refine L_pur rfl (p_assign rfl) ?_
      refine L_nil ?_
      refine Q_then ?_
      refine J_slot (t := 7) (v := .int .i64 ((min (s + 1) r : Nat) : Int)) rfl (by simp at h54; congr 1; omega) ?_
      exact J_again3 (i + 1) (s + 1) r (by omega) (⟨by omega, by omega⟩) SU KE
     ·
      refine J_skip ?_
      refine Q_then ?_
      refine J_seq ?_
      refine J_region ?_
      refine L_pur rfl (p_move rfl) ?_
      refine L_pur rfl (p_add64 rfl rfl (by omega)) ?_
      refine L_pur rfl (p_assign rfl) ?_
      refine L_nil ?_
      refine Q_then ?_
      refine J_exit ?_
      refine Q_then_exit ?_
      refine Q_blk_this ?_
      refine Q_then ?_
      refine J_region ?_
      refine L_pur rfl (p_move rfl) ?_
      refine L_pur rfl (p_add64 rfl rfl (by omega)) ?_
      refine L_pur rfl (p_assign rfl) ?_
      refine L_nil ?_
      refine Q_then ?_
      refine J_slot (t := 7) (v := .int .i64 ((min (s + 1) r : Nat) : Int)) rfl (by simp at h54; congr 1; omega) ?_
      exact J_again3 (i + 1) (s + 1) r (by omega) (⟨by omega, by omega⟩) SU KE
   ·
    refine J_skip ?_
    refine Q_then ?_
    refine J_seq ?_
    refine J_region ?_
    refine L_pur rfl (p_move rfl) ?_
    refine L_pur rfl (bld36 (.cons rfl (.cons rfl .nil)) (by repeat constructor)) ?_
    refine L_pur rfl (p_move rfl) ?_
    refine L_pur rfl (bld52 (.cons rfl (.cons rfl .nil)) (by repeat constructor)) ?_
    refine L_op (x_call Try.func31 nm31 bd31 (.cons rfl (.cons rfl .nil)) rfl (recvAt (s := s) (r := r) PC (by omega) (by omega)) fun _ => ?_)
    refine L_pur rfl (p_move rfl) ?_
    refine L_pur rfl (p_extract rfl rfl) ?_
    refine L_pur rfl (p_extract rfl rfl) ?_
    refine L_op (x_alloc ty56 rfl fun b11 => ?_)
    refine L_op (x_store rfl rfl ty56 rfl (by first | rfl | (simp [*]; done)) (by first | rfl | (simp [*]; done)) RO PT ?_)
    refine L_pur rfl (p_assign rfl) ?_
    refine L_nil ?_
    refine Q_then ?_
    refine J_seq ?_
    refine J_seq ?_
    refine J_region ?_
    refine L_pur rfl (p_move rfl) ?_
    refine L_pur rfl (p_move rfl) ?_
    refine L_pur rfl (p_move rfl) ?_
    refine L_pur rfl (p_gtr rfl rfl) ?_
    refine L_pur rfl (p_neb Try.underlying4 rfl rfl) ?_
    refine L_pur rfl (p_move rfl) ?_
    refine J_bool (t := 72) (c := false) rfl (by simp) ?_
    refine L_op (G_on rfl rfl rfl ?_)
    refine J_pur (p_move rfl) rfl rfl rfl ?_
    refine L_op (G_on rfl rfl rfl ?_)
    refine J_pur (p_move rfl) rfl rfl rfl ?_
    refine J_gsplit (t := 74) rfl (fun h74 => ?_) (fun h74 => ?_)
    ·
     refine L_op (G_on rfl rfl rfl ?_)
     refine J_pur (p_fieldAddr rfl fa56_0) rfl rfl rfl ?_
     refine L_op (G_on rfl rfl rfl ?_)
     refine J_val (v_loadA rfl ty36 HS CT) rfl rfl rfl ?_
     refine L_op (G_on rfl rfl rfl ?_)
     refine J_pur (p_move rfl) rfl rfl rfl ?_
     refine L_op (G_on rfl rfl rfl ?_)
     refine J_pur (bld36 (.cons rfl (.cons rfl .nil)) (by repeat constructor)) rfl rfl rfl ?_
     refine L_op (G_on rfl rfl rfl ?_)
     refine J_pur (p_nev rfl rfl (fun w => eg36 _ _ _ _ _ w) (fun w => nev36 _ _ _ _ w)) rfl rfl rfl ?_
     refine L_op (G_on rfl rfl rfl ?_)
     refine J_pur (p_move rfl) rfl rfl rfl ?_
     refine J_bool (t := 80) (c := false) rfl (by simp at h74; simp [h74, mg]) ?_
     refine L_op (G_on rfl rfl rfl ?_)
     refine J_pur (p_fieldAddr rfl fa56_1) rfl rfl rfl ?_
     refine L_op (G_on rfl rfl rfl ?_)
     refine J_val (v_load rfl ty37 HS (by exact rfl)) rfl rfl rfl ?_
     refine L_op (G_on rfl rfl rfl ?_)
     refine J_pur (p_move rfl) rfl rfl rfl ?_
     refine L_op (G_on rfl rfl rfl ?_)
     refine J_pur (p_conv rfl Try.underlying3 Try.underlying37) rfl rfl rfl ?_
     refine J_slot (t := 84) (v := .int .u32 (r : Int)) rfl (by rw [wrap32u_of ⟨by omega, by omega⟩]) ?_
     refine L_op (G_on rfl rfl rfl ?_)
     refine J_pur (p_neq rfl rfl) rfl rfl rfl ?_
     refine L_op (G_on rfl rfl rfl ?_)
     refine J_pur (p_pick_f rfl rfl) rfl rfl rfl ?_
     refine L_op (G_on rfl rfl rfl ?_)
     refine J_pur (p_pick_t rfl rfl) rfl rfl rfl ?_
     refine L_pur rfl (p_pick_f rfl rfl) ?_
     refine L_nil ?_
     refine Q_then ?_
     refine J_bool (t := 88) (c := false) rfl (by first | rfl | (simp at h74; simp [h74, mg])) ?_
     refine C_false rfl ?_
     refine J_skip ?_
     refine Q_then ?_
     refine J_seq ?_
     refine J_seq ?_
     refine J_region ?_
     refine L_pur rfl (p_move rfl) ?_
     refine L_nil ?_
     refine Q_then ?_
     refine C_split rfl (fun h89 => ?_) (fun h89 => ?_)
     ·
      refine J_region ?_
      refine L_pur rfl (p_move rfl) ?_
      refine L_pur rfl (p_add64 rfl rfl (by omega)) ?_
      refine L_pur rfl (p_assign rfl) ?_
      refine L_nil ?_
      refine Q_then ?_
      refine J_region ?_
      refine L_pur rfl (p_move rfl) ?_
      refine L_pur rfl (p_add64 rfl rfl (by omega)) ?_
      refine L_pur rfl (p_assign rfl) ?_
      refine L_nil ?_
      refine Q_blk_normal ?_
      refine Q_then ?_
      refine J_region ?_
      refine L_pur rfl (p_move rfl) ?_
      refine L_pur rfl (p_add64 rfl rfl (by omega)) ?_
      refine L_pur rfl (p_assign rfl) ?_
      refine L_nil ?_
      refine Q_then ?_
      refine J_slot (t := 7) (v := .int .i64 ((min s (r + 1) : Nat) : Int)) rfl (by simp at h89; congr 1; omega) ?_
      exact J_again3 (i + 1) s (r + 1) (by omega) (⟨by omega, by omega⟩) SU KE
     ·
      refine J_skip ?_
      refine Q_then ?_
      refine J_region ?_
      refine L_pur rfl (p_move rfl) ?_
      refine L_pur rfl (p_add64 rfl rfl (by omega)) ?_
      refine L_pur rfl (p_assign rfl) ?_
      refine L_nil ?_
      refine Q_blk_normal ?_
      refine Q_then ?_
      refine J_region ?_
      refine L_pur rfl (p_move rfl) ?_
      refine L_pur rfl (p_add64 rfl rfl (by omega)) ?_
      refine L_pur rfl (p_assign rfl) ?_
      refine L_nil ?_
      refine Q_then ?_
      refine J_slot (t := 7) (v := .int .i64 ((min s (r + 1) : Nat) : Int)) rfl (by simp at h89; congr 1; omega) ?_
      exact J_again3 (i + 1) s (r + 1) (by omega) (⟨by omega, by omega⟩) SU KE
    ·
     refine L_op (G_off rfl rfl rfl rfl rfl rfl ?_)
     refine L_op (G_off rfl rfl rfl rfl rfl rfl ?_)
     refine L_op (G_off rfl rfl rfl rfl rfl rfl ?_)
     refine L_op (G_off rfl rfl rfl rfl rfl rfl ?_)
     refine L_op (G_off rfl rfl rfl rfl rfl rfl ?_)
     refine L_op (G_off rfl rfl rfl rfl rfl rfl ?_)
     refine L_op (G_offU rfl rfl rfl rfl rfl ?_)
     refine L_op (G_offU rfl rfl rfl rfl rfl ?_)
     refine L_op (G_offU rfl rfl rfl rfl rfl ?_)
     refine L_op (G_offU rfl rfl rfl rfl rfl ?_)
     refine L_op (G_offU rfl rfl rfl rfl rfl ?_)
     refine L_op (G_off rfl rfl rfl rfl rfl rfl ?_)
     refine L_op (G_on rfl rfl rfl ?_)
     refine J_pur (p_pick_f rfl rfl) rfl rfl rfl ?_
     refine L_pur rfl (p_pick_f rfl rfl) ?_
     refine L_nil ?_
     refine Q_then ?_
     refine C_false rfl ?_
     refine J_skip ?_
     refine Q_then ?_
     refine J_seq ?_
     refine J_seq ?_
     refine J_region ?_
     refine L_pur rfl (p_move rfl) ?_
     refine L_nil ?_
     refine Q_then ?_
     refine C_split rfl (fun h89 => ?_) (fun h89 => ?_)
     ·
      refine J_region ?_
      refine L_pur rfl (p_move rfl) ?_
      refine L_pur rfl (p_add64 rfl rfl (by omega)) ?_
      refine L_pur rfl (p_assign rfl) ?_
      refine L_nil ?_
      refine Q_then ?_
      refine J_region ?_
      refine L_pur rfl (p_move rfl) ?_
      refine L_pur rfl (p_add64 rfl rfl (by omega)) ?_
      refine L_pur rfl (p_assign rfl) ?_
      refine L_nil ?_
      refine Q_blk_normal ?_
      refine Q_then ?_
      refine J_region ?_
      refine L_pur rfl (p_move rfl) ?_
      refine L_pur rfl (p_add64 rfl rfl (by omega)) ?_
      refine L_pur rfl (p_assign rfl) ?_
      refine L_nil ?_
      refine Q_then ?_
      refine J_slot (t := 7) (v := .int .i64 ((min s (r + 1) : Nat) : Int)) rfl (by simp at h89; congr 1; omega) ?_
      exact J_again3 (i + 1) s (r + 1) (by omega) (⟨by omega, by omega⟩) SU KE
     ·
      refine J_skip ?_
      refine Q_then ?_
      refine J_region ?_
      refine L_pur rfl (p_move rfl) ?_
      refine L_pur rfl (p_add64 rfl rfl (by omega)) ?_
      refine L_pur rfl (p_assign rfl) ?_
      refine L_nil ?_
      refine Q_blk_normal ?_
      refine Q_then ?_
      refine J_region ?_
      refine L_pur rfl (p_move rfl) ?_
      refine L_pur rfl (p_add64 rfl rfl (by omega)) ?_
      refine L_pur rfl (p_assign rfl) ?_
      refine L_nil ?_
      refine Q_then ?_
      refine J_slot (t := 7) (v := .int .i64 ((min s (r + 1) : Nat) : Int)) rfl (by simp at h89; congr 1; omega) ?_
      exact J_again3 (i + 1) s (r + 1) (by omega) (⟨by omega, by omega⟩) SU KE
  ·
   have hib : i = bs.length := by omega
   refine J_exit ?_
   refine Q_then_exit ?_
   refine Q_then_exit ?_
   refine Q_blk_this ?_
   refine Q_then ?_
   refine J_seq ?_
   refine J_region ?_
   refine L_pur rfl (p_move rfl) ?_
   refine L_pur rfl (p_move rfl) ?_
   refine J_bool (t := 95) (c := true) rfl (rfl) ?_
   refine L_op (G_on rfl rfl rfl ?_)
   refine J_pur (p_move rfl) rfl rfl rfl ?_
   refine L_op (G_on rfl rfl rfl ?_)
   refine J_pur (p_move rfl) rfl rfl rfl ?_
   refine L_op (G_on rfl rfl rfl ?_)
   refine J_pur (p_move rfl) rfl rfl rfl ?_
   refine L_op (G_on rfl rfl rfl ?_)
   refine J_pur (p_min rfl rfl) rfl rfl rfl ?_
   refine L_op (G_on rfl rfl rfl ?_)
   refine J_pur (p_eql rfl rfl) rfl rfl rfl ?_
   refine L_pur rfl (p_pick_t rfl rfl) ?_
   refine L_pur rfl (p_move rfl) ?_
   refine J_bool (t := 102) (c := true) rfl (by simp; omega) ?_
   refine L_op (G_on rfl rfl rfl ?_)
   refine x_call Try.func32 nm32 bd32 (.cons rfl .nil) rfl (senders PC (by rw [outs_len]; omega) (by rw [inns_len]; omega)) fun v103 => ?_
   refine J_row .here fun hw103 a103 c103 hv103 hl103 hm103 hz103 => ?_
   subst hv103
   refine L_op (G_on rfl rfl rfl ?_)
   refine J_pur (p_len rfl Try.underlying47) rfl rfl rfl ?_
   refine L_op (G_on rfl rfl rfl ?_)
   refine J_pur (p_move rfl) rfl rfl rfl ?_
   refine L_op (G_on rfl rfl rfl ?_)
   refine J_pur (p_move rfl) rfl rfl rfl ?_
   refine L_op (G_on rfl rfl rfl ?_)
   refine J_pur (p_sub64 rfl rfl (by omega)) rfl rfl rfl ?_
   refine L_op (G_on rfl rfl rfl ?_)
   refine J_pur (p_max rfl rfl) rfl rfl rfl ?_
   refine L_op (G_on rfl rfl rfl ?_)
   refine J_pur (p_eql rfl rfl) rfl rfl rfl ?_
   refine L_pur rfl (p_pick_t rfl rfl) ?_
   refine L_pur rfl (p_move rfl) ?_
   refine J_bool (t := 111) (c := true) rfl (by simp [outs_len]; omega) ?_
   refine L_op (G_on rfl rfl rfl ?_)
   refine x_call Try.func33 nm33 bd33 (.cons rfl .nil) rfl (receivers PC (by rw [outs_len]; omega) (by rw [inns_len]; omega)) fun v112 => ?_
   refine J_row .here fun hw112 a112 c112 hv112 hl112 hm112 hz112 => ?_
   subst hv112
   refine L_op (G_on rfl rfl rfl ?_)
   refine J_pur (p_len rfl Try.underlying48) rfl rfl rfl ?_
   refine L_op (G_on rfl rfl rfl ?_)
   refine J_pur (p_move rfl) rfl rfl rfl ?_
   refine L_op (G_on rfl rfl rfl ?_)
   refine J_pur (p_move rfl) rfl rfl rfl ?_
   refine L_op (G_on rfl rfl rfl ?_)
   refine J_pur (p_sub64 rfl rfl (by omega)) rfl rfl rfl ?_
   refine L_op (G_on rfl rfl rfl ?_)
   refine J_pur (p_max rfl rfl) rfl rfl rfl ?_
   refine L_op (G_on rfl rfl rfl ?_)
   refine J_pur (p_eql rfl rfl) rfl rfl rfl ?_
   refine J_bool (t := 118) (c := true) rfl (by simp [inns_len]; omega) ?_
   refine L_pur rfl (p_pick_t rfl rfl) ?_
   refine L_pur rfl (p_assign rfl) ?_
   refine L_nil ?_
   refine Q_then ?_
   refine J_ret ?_
   exact J_return (()) Try.results5 (.tmp rfl .nil) rfl SU

end Go.Pse
