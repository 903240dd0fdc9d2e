/-
  The law on those that are put in again.
-/
import Derived.Test.YtjolbnicboaaeaaTm6
namespace Go.Pse
open Go.RowKit Go.Proofs

def TMv (ds : List Int) (k : Nat) : Tm := (ds.getD k 0, (1, (k : Int)))
theorem TMv_inj (ds : List Int) : ∀ j k, (TMv ds j).2 = (TMv ds k).2 → j = k := fun j k e => by have := congrArg Prod.snd e; simp only [TMv] at this; omega
theorem num_30 {x : Int} : (0 : Int) ≤ num x 30 ∧ (num x 30 : Int) < 60 := by have := num_lt (x := x) (b := 30) (by omega); omega
theorem num_60 {x : Int} : (0 : Int) ≤ num x 60 ∧ (num x 60 : Int) < 60 := by have := num_lt (x := x) (b := 60) (by omega); omega
theorem TMv_at {ds : List Int} {k : Nat} {d : Int} (h : ds[k]? = some d) : TMv ds k = (d, (1, (k : Int))) := by simp [TMv, List.getD, h]
theorem TMv_set {ds : List Int} {k j : Nat} {d : Int} (h : j ≠ k) : TMv (ds.set k d) j = TMv ds j := by
  unfold TMv
  simp only [List.getD, List.getElem?_set]
  rw [if_neg (fun e => h e.symm)]
theorem map_set_lt {ds : List Int} {i : Nat} {d : Int} : (List.range i).map (TMv (ds.set i d)) = (List.range i).map (TMv ds) := List.map_congr_left fun j hj => TMv_set (by have := List.mem_range.1 hj; omega)
theorem push_again {ds : List Int} {n k : Nat} {d : Int} {xs : List Tm} (hn : ds.length = n) (hk : k < n) (h : xs.Perm ((List.range n).map (TMv ds))) : (hpush xs (TMv (ds.set k d) k)).Perm ((List.range n).map (TMv (ds.set k d))) := by
  unfold hpush
  refine (put_perm _ _).trans ?_
  have h1 : (hdrop xs (TMv (ds.set k d) k).2).Perm (((List.range n).filter fun j => !decide (j = k)).map (TMv ds)) := drop_old (T := TMv ds) (k := k) (TMv_inj ds) h
  have h2 : ((List.range n).filter fun j => !decide (j = k)).map (TMv (ds.set k d)) = ((List.range n).filter fun j => !decide (j = k)).map (TMv ds) := List.map_congr_left fun j hj => TMv_set (by have := (List.mem_filter.1 hj).2; simpa using this)
  rw [← h2] at h1
  exact (List.Perm.cons _ h1).trans ((range_but hk).symm.map (TMv (ds.set k d)))
theorem but_len {n k : Nat} (h : k < n) : ((List.range n).filter fun j => !decide (j = k)).length = n - 1 := by
  have := (range_but h).length_eq
  simp at this; omega

set_option maxRecDepth 100000 in
set_option maxHeartbeats 4000000 in
theorem timerMoves {E W : World} {v : Value} {zs : List Int} (hr : Reads W 1 v (zs.map fun z => [Value.int .i64 z])) (z1 z2 z3 : Int) :
  Con Try.prog 18 #[v, .int .i64 z1, .int .i64 z2, .int .i64 z3] E [old W] (fun _ : Unit => .bool true) (fun _ => [old W]) := by
 refine Con.body (vs := [v, .int .i64 z1, .int .i64 z2, .int .i64 z3]) (n := 167) Try.func18 rfl rfl [(0, v), (1, .int .i64 z1), (2, .int .i64 z2), (3, .int .i64 z3)] (env_ok 4 rfl) ?_
 refine J_readsB (fun w H => hr.old HS H) fun hw a cap hv h1 h2 h3 => ?_
 subst hv
 have hm : cap ≤ 9223372036854775807 := h2
 have hml : (zs.map fun z => [Value.int .i64 z]).length = zs.length := List.length_map _
 refine J_seq ?_
 refine J_region ?_
 refine L_pur rfl (p_assign rfl) ?_
 refine L_nil ?_
 refine Q_then ?_
 refine J_seq ?_
 refine J_region ?_
 refine L_op (x_call Try.func70 nm70 bd70 .nil rfl (first21) fun _ => ?_)
 refine L_pur rfl (p_assign rfl) ?_
 refine L_nil ?_
 refine Q_then ?_
 refine J_seq ?_
 refine J_seq ?_
 refine J_region ?_
 refine L_pur rfl (p_move rfl) ?_
 refine L_pur rfl (p_not rfl) ?_
 refine L_nil ?_
 refine Q_then ?_
 refine J_bool (t := 22) (c := false) rfl (rfl) ?_
 refine C_false rfl ?_
 refine J_skip ?_
 refine Q_then ?_
 refine J_seq ?_
 refine J_seq ?_
 refine J_region ?_
 refine L_pur rfl (p_move rfl) ?_
 refine L_pur rfl (p_len rfl Try.underlying23) ?_
 refine L_pur rfl (p_lss rfl rfl) ?_
 refine L_pur rfl (p_move rfl) ?_
 refine J_gsplit (t := 26) rfl (fun h26 => ?_) (fun h26 => ?_)
 ·
  refine L_op (G_off rfl rfl rfl rfl rfl rfl ?_)
  refine L_op (G_off rfl rfl rfl rfl rfl rfl ?_)
  refine L_op (G_off rfl rfl rfl rfl rfl rfl ?_)
  refine L_pur rfl (p_pick_t rfl rfl) ?_
  refine L_nil ?_
  refine Q_then ?_
  refine C_true rfl ?_
  refine J_seq ?_
  refine J_region ?_
  refine L_pur rfl (p_move rfl) ?_
  refine L_pur rfl (p_assign rfl) ?_
  refine L_nil ?_
  refine Q_then ?_
  refine J_ret ?_
  refine Q_then_ret ?_
  exact J_return (()) Try.results18 (.tmp rfl .nil) rfl SU
 ·
  refine L_op (G_on rfl rfl rfl ?_)
  refine J_pur (p_move rfl) rfl rfl rfl ?_
  refine L_op (G_on rfl rfl rfl ?_)
  refine J_pur (p_len rfl Try.underlying23) rfl rfl rfl ?_
  refine L_op (G_on rfl rfl rfl ?_)
  refine J_pur (p_gtr rfl rfl) rfl rfl rfl ?_
  refine L_pur rfl (p_pick_f rfl rfl) ?_
  refine L_nil ?_
  refine Q_then ?_
  refine C_dec rfl (fun h30 => ?_) (fun h30 => ?_)
  ·
   refine J_seq ?_
   refine J_region ?_
   refine L_pur rfl (p_move rfl) ?_
   refine L_pur rfl (p_assign rfl) ?_
   refine L_nil ?_
   refine Q_then ?_
   refine J_ret ?_
   refine Q_then_ret ?_
   exact J_return (()) Try.results18 (.tmp rfl .nil) rfl SU
  ·
   obtain ⟨n, hn⟩ : ∃ n, n = zs.length := ⟨_, rfl⟩
   rw [← hn] at hml
   have hn1 : 1 ≤ n := by simp at h26; omega
   have hn2 : n ≤ 20 := by omega
   obtain ⟨bx, ox, hax⟩ := h3 (by intro h; rw [h] at hml; simp at hml; omega)
   subst hax
   refine J_skip ?_
   refine Q_then ?_
   refine J_seq ?_
   refine J_region ?_
   refine L_op (x_alloc ty134 rfl fun b10 => ?_)
   refine J_hpNew ?_
   refine L_nil ?_
   refine Q_then ?_
   refine J_seq ?_
   refine J_region ?_
   refine L_pur rfl (p_move rfl) ?_
   refine L_pur rfl (p_len rfl Try.underlying23) ?_
   refine J_slot (t := 33) (v := .int .i64 (n : Int)) rfl (by rw [hml]) ?_
   refine L_op (x_make rfl rfl Try.underlying23 ty3 rfl rfl (by omega) (by omega) rfl rfl fun v34 => ?_)
   refine J_rowEq (ys := (List.replicate n (0 : Int)).map encZ) (by simp [encZ]) ?_
   refine J_row .here fun hw34 a34 c34 hv34 hl34 hm34 hz34 => ?_
   subst hv34
   refine J_rowTo (v' := .slice a34 n c34) (ys := (List.replicate n (0 : Int)).map encZ) rfl (by simp) ?_
   refine J_slot (t := 34) (v := .slice a34 n c34) rfl (by simp) ?_
   obtain ⟨b34, o34, ha34⟩ := hz34 (by simp; omega)
   subst ha34
   refine L_pur rfl (p_assign rfl) ?_
   refine L_nil ?_
   refine Q_then ?_
   refine J_seq ?_
   refine J_seq ?_
   refine J_region ?_
   refine L_pur rfl (p_assign rfl) ?_
   refine L_nil ?_
   refine Q_then ?_
   refine J_block ?_
   refine J_loop3 (fun i xs ds => i ≤ n ∧ ds.length = n ∧ xs.Perm ((List.range i).map (TMv ds)) ∧ ∀ d ∈ ds, 0 ≤ d ∧ d < 60) (fun i xs ds => [hpA b10 0 xs, row 3 1 (.slice (some ⟨b34, o34, none⟩) n c34) (ds.map encZ), old W]) (fun i xs ds => [(12, .int .i64 (i : Int)), (1, .int .i64 z1), (2, .int .i64 z2), (3, .int .i64 z3), (0, .slice (some ⟨bx, ox, none⟩) (zs.map fun z => [Value.int .i64 z]).length cap), (9, .bool true), (10, .pointer (some ⟨b10, 0, none⟩)), (11, .slice (some ⟨b34, o34, none⟩) n c34)]) (fun i xs ds => n - i) 0 ([] : List Tm) (List.replicate n (0 : Int)) ⟨by omega, by simp, List.Perm.refl _, fun d hd => by rw [List.eq_of_mem_replicate hd]; omega⟩ SU KE ?_
   intro i xs ds ⟨hi, hdl, hp, hdb⟩
   have hxl : xs.length = i := by have := hp.length_eq; simpa using this
   refine J_seq ?_
   refine J_seq ?_
   refine J_region ?_
   refine L_pur rfl (p_move rfl) ?_
   refine L_pur rfl (p_move rfl) ?_
   refine L_pur rfl (p_len rfl Try.underlying23) ?_
   refine L_pur rfl (p_lss rfl rfl) ?_
   refine L_nil ?_
   refine Q_then ?_
   refine C_dec rfl (fun h38 => ?_) (fun h38 => ?_)
   ·
    have hlt : i < n := by omega
    obtain ⟨c, hcc⟩ : ∃ c, zs[i]? = some c := ⟨_, List.getElem?_eq_getElem (by omega)⟩
    have hnl := num_30 (x := c)
    have hds : (ds.set i (num c 30 : Int))[i]? = some (num c 30 : Int) := by simp [hdl, hlt]
    have hTa := TMv_at hds
    refine J_skip ?_
    refine Q_then ?_
    refine J_seq ?_
    refine J_block ?_
    refine J_seq ?_
    refine J_region ?_
    refine L_pur rfl (p_move rfl) ?_
    refine L_pur rfl (p_move rfl) ?_
    refine L_pur rfl (p_move rfl) ?_
    refine L_pur rfl (p_move rfl) ?_
    refine L_pur rfl (p_indexAddr rfl rfl Try.underlying23 ty3 (by omega) (by omega)) ?_
    refine L_val rfl (v_loadR1 rfl ty3 (fun w H => hr.old HS H) (by first | (simp only [Int.toNat_natCast, List.getElem?_map, hcc]; rfl) | (simp only [Int.toNat_natCast, List.getElem?_map, hcd]; rfl) | simp | rfl)) ?_
    refine L_op (x_call Try.func23 nm23 bd23 (.cons rfl (.cons rfl .nil)) rfl (number (by omega) (by omega)) fun _ => ?_)
    refine L_pur rfl (p_indexAddr rfl rfl Try.underlying23 ty3 (by omega) (by omega)) ?_
    refine L_op (x_storeE (len := n) (vs := encZ (num c 30 : Int)) rfl rfl ty3 rfl rfl rfl PC (by simp; omega) ?_)
    refine J_rowEq (ys := (ds.set i (num c 30 : Int)).map encZ) (by simp [List.map_set]) ?_
    refine L_nil ?_
    refine Q_then ?_
    refine J_region ?_
    refine L_pur rfl (p_move rfl) ?_
    refine L_pur rfl (p_move rfl) ?_
    refine L_pur rfl (p_indexAddr rfl rfl Try.underlying23 ty3 (by omega) (by omega)) ?_
    refine L_val rfl (v_loadE1 rfl ty3 HS (by simp only [Int.toNat_natCast, List.getElem?_map, hds]; rfl)) ?_
    refine L_pur rfl (p_conv rfl Try.underlying3 Try.underlying136) ?_
    refine J_slot (t := 53) (v := .int .u64 (TMv (ds.set i (num c 30 : Int)) i).1) rfl (by rw [wrap64u_of ⟨by omega, by omega⟩, hTa]) ?_
    refine L_pur rfl (p_move rfl) ?_
    refine L_pur rfl (bld36 (.cons rfl (.cons rfl .nil)) (by repeat constructor)) ?_
    refine J_slot (t := 55) (v := .agg (encI (TMv (ds.set i (num c 30 : Int)) i).2).toArray) rfl (by rfl) ?_
    refine L_op (x_call Try.func71 nm71 bd71 (.cons rfl (.cons rfl (.cons rfl .nil))) rfl (hPush (xs := xs) PC (by omega) (TMv (ds.set i (num c 30 : Int)) i).1 (TMv (ds.set i (num c 30 : Int)) i).2) fun _ => ?_)
    refine L_nil ?_
    refine Q_blk_normal ?_
    refine Q_then ?_
    refine J_region ?_
    refine L_pur rfl (p_move rfl) ?_
    refine L_pur rfl (p_add64 rfl rfl (by omega)) ?_
    refine L_pur rfl (p_assign rfl) ?_
    refine L_nil ?_
    refine Q_then ?_
    exact J_again3 (i + 1) (hpush xs (TMv (ds.set i (num c 30 : Int)) i)) (ds.set i (num c 30 : Int)) (by omega) (⟨by omega, by simpa using hdl, push_new (TMv_inj _) (by rw [map_set_lt]; exact hp), fun d hd => by rcases List.mem_or_eq_of_mem_set hd with h | h; exact hdb d h; rw [h]; exact num_30⟩) SU KE
   ·
    have hin : i = n := by omega
    subst hin
    refine J_exit ?_
    refine Q_then_exit ?_
    refine Q_then_exit ?_
    refine Q_blk_this ?_
    refine Q_then ?_
    refine J_seq ?_
    refine J_region ?_
    refine L_pur rfl (p_move rfl) ?_
    refine L_pur rfl (p_move rfl) ?_
    refine L_pur rfl (p_len rfl Try.underlying23) ?_
    refine J_slot (t := 59) (v := .int .i64 (i : Int)) rfl (by rw [hml]) ?_
    refine L_op (x_call Try.func23 nm23 bd23 (.cons rfl (.cons rfl .nil)) rfl (number (b := (i : Int)) (by omega) (by omega)) fun _ => ?_)
    obtain ⟨k, hk⟩ : ∃ k, k = num z1 i := ⟨_, rfl⟩
    have hki : k < i := by rw [hk]; exact num_lt' (by omega)
    refine J_slot (t := 60) (v := .int .i64 (k : Int)) rfl (by rw [hk]) ?_
    obtain ⟨e, he⟩ : ∃ e : List Int, e = ds.set k (num z2 60 : Int) := ⟨_, rfl⟩
    have hel : e.length = i := by rw [he]; simpa using hdl
    have hek : e[k]? = some (num z2 60 : Int) := by rw [he]; simp [hdl, hki]
    have heb : ∀ d ∈ e, 0 ≤ d ∧ d < 60 := fun d hd => by rw [he] at hd; rcases List.mem_or_eq_of_mem_set hd with h | h; exact hdb d h; rw [h]; exact num_60
    have hnl := num_60 (x := z2)
    have hTk := TMv_at hek
    have hp2 : (hpush xs (TMv e k)).Perm ((List.range i).map (TMv e)) := by rw [he]; exact push_again hdl hki hp
    refine L_pur rfl (p_assign rfl) ?_
    refine L_nil ?_
    refine Q_then ?_
    refine J_seq ?_
    refine J_region ?_
    refine L_pur rfl (p_move rfl) ?_
    refine L_pur rfl (p_move rfl) ?_
    refine L_pur rfl (p_move rfl) ?_
    refine L_op (x_call Try.func23 nm23 bd23 (.cons rfl (.cons rfl .nil)) rfl (number (by omega) (by omega)) fun _ => ?_)
    refine L_pur rfl (p_indexAddr rfl rfl Try.underlying23 ty3 (by omega) (by omega)) ?_
    refine L_op (x_storeE (len := i) (vs := encZ (num z2 60 : Int)) rfl rfl ty3 rfl rfl rfl PC (by simp; omega) ?_)
    refine J_rowEq (ys := e.map encZ) (by rw [he]; simp [List.map_set]) ?_
    refine L_nil ?_
    refine Q_then ?_
    refine J_seq ?_
    refine J_region ?_
    refine L_pur rfl (p_move rfl) ?_
    refine L_pur rfl (p_move rfl) ?_
    refine L_pur rfl (p_indexAddr rfl rfl Try.underlying23 ty3 (by omega) (by omega)) ?_
    refine L_val rfl (v_loadE1 rfl ty3 HS (by simp only [Int.toNat_natCast, List.getElem?_map, hek]; rfl)) ?_
    refine L_pur rfl (p_conv rfl Try.underlying3 Try.underlying136) ?_
    refine J_slot (t := 70) (v := .int .u64 (TMv e k).1) rfl (by rw [wrap64u_of ⟨by omega, by omega⟩, hTk]) ?_
    refine L_pur rfl (p_move rfl) ?_
    refine L_pur rfl (bld36 (.cons rfl (.cons rfl .nil)) (by repeat constructor)) ?_
    refine J_slot (t := 72) (v := .agg (encI (TMv e k).2).toArray) rfl (by rfl) ?_
    refine L_op (x_call Try.func71 nm71 bd71 (.cons rfl (.cons rfl (.cons rfl .nil))) rfl (hPush (xs := xs) PC (by omega) (TMv e k).1 (TMv e k).2) fun _ => ?_)
    obtain ⟨ys, hys⟩ : ∃ ys, ys = hpush xs (TMv e k) := ⟨_, rfl⟩
    rw [← hys] at hp2
    refine J_pick (A := hpA b10 0 _) PC ?_
    refine J_asTo (B := hpA b10 0 ys) (by rw [hys]) ?_
    have hyl : ys.length = i := by have := hp2.length_eq; simpa using this
    refine L_nil ?_
    refine Q_then ?_
    refine J_seq ?_
    refine J_region ?_
    refine L_pur rfl (p_move rfl) ?_
    refine L_pur rfl (p_move rfl) ?_
    refine L_pur rfl (p_len rfl Try.underlying23) ?_
    refine J_slot (t := 76) (v := .int .i64 (i : Int)) rfl (by rw [hml]) ?_
    refine L_op (x_call Try.func23 nm23 bd23 (.cons rfl (.cons rfl .nil)) rfl (number (b := (i : Int)) (by omega) (by omega)) fun _ => ?_)
    obtain ⟨q, hq⟩ : ∃ q, q = num z3 i := ⟨_, rfl⟩
    have hqi : q < i := by rw [hq]; exact num_lt' (by omega)
    refine J_slot (t := 77) (v := .int .i64 (q : Int)) rfl (by rw [hq]) ?_
    obtain ⟨us, hus⟩ : ∃ us, us = hdrop ys (TMv e q).2 := ⟨_, rfl⟩
    have hpu : us.Perm (((List.range i).filter fun j => !decide (j = q)).map (TMv e)) := by rw [hus]; exact drop_old (TMv_inj e) hp2
    have hul : us.length = i - 1 := by have := hpu.length_eq; simpa [but_len hqi] using this
    have hud : hdrop us (TMv e q).2 = us := by
     unfold hdrop
     rw [List.filter_eq_self]
     intro c hc
     rw [hus] at hc
     have := hdrop_ne hc
     simp [isT_eq, this]
    refine L_pur rfl (p_assign rfl) ?_
    refine L_nil ?_
    refine Q_then ?_
    refine J_seq ?_
    refine J_seq ?_
    refine J_region ?_
    refine L_op (x_call Try.func72 nm72 bd72 (.cons rfl .nil) rfl (hLen (xs := ys) PC (by omega)) fun _ => ?_)
    refine L_pur rfl (p_move rfl) ?_
    refine L_pur rfl (p_len rfl Try.underlying23) ?_
    refine L_pur rfl (p_neq rfl rfl) ?_
    refine L_pur rfl (p_move rfl) ?_
    refine J_bool (t := 82) (c := false) rfl (by simp; omega) ?_
    refine L_op (G_on rfl rfl rfl ?_)
    refine J_pur (p_move rfl) rfl rfl rfl ?_
    refine L_op (G_on rfl rfl rfl ?_)
    refine J_pur (bld36 (.cons rfl (.cons rfl .nil)) (by repeat constructor)) rfl rfl rfl ?_
    refine J_slot (t := 84) (v := .agg (encI (TMv e q).2).toArray) rfl (by rfl) ?_
    refine L_op (G_on rfl rfl rfl ?_)
    refine x_call Try.func73 nm73 bd73 (.cons rfl (.cons rfl .nil)) rfl (hDrop (xs := ys) PC (by omega) (TMv e q).2) fun _ => ?_
    refine J_pick (A := hpA b10 0 _) PC ?_
    refine J_asTo (B := hpA b10 0 us) (by rw [hus]) ?_
    refine L_op (G_on rfl rfl rfl ?_)
    refine J_pur (p_not rfl) rfl rfl rfl ?_
    refine L_pur rfl (p_pick_f rfl rfl) ?_
    refine L_pur rfl (p_move rfl) ?_
    refine J_bool (t := 88) (c := false) rfl (by rw [← hus]; simp; omega) ?_
    refine L_op (G_on rfl rfl rfl ?_)
    refine J_pur (p_move rfl) rfl rfl rfl ?_
    refine L_op (G_on rfl rfl rfl ?_)
    refine J_pur (bld36 (.cons rfl (.cons rfl .nil)) (by repeat constructor)) rfl rfl rfl ?_
    refine J_slot (t := 90) (v := .agg (encI (TMv e q).2).toArray) rfl (by rfl) ?_
    refine L_op (G_on rfl rfl rfl ?_)
    refine x_call Try.func73 nm73 bd73 (.cons rfl (.cons rfl .nil)) rfl (hDrop (xs := us) PC (by omega) (TMv e q).2) fun _ => ?_
    refine J_pick (A := hpA b10 0 _) PC ?_
    refine J_asTo (B := hpA b10 0 us) (by rw [hud]) ?_
    refine L_pur rfl (p_pick_f rfl rfl) ?_
    refine L_pur rfl (p_move rfl) ?_
    refine J_bool (t := 93) (c := false) rfl (by simp [hud]) ?_
    refine L_op (G_on rfl rfl rfl ?_)
    refine x_call Try.func72 nm72 bd72 (.cons rfl .nil) rfl (hLen (xs := us) PC (by omega)) fun _ => ?_
    refine L_op (G_on rfl rfl rfl ?_)
    refine J_pur (p_move rfl) rfl rfl rfl ?_
    refine L_op (G_on rfl rfl rfl ?_)
    refine J_pur (p_len rfl Try.underlying23) rfl rfl rfl ?_
    refine L_op (G_on rfl rfl rfl ?_)
    refine J_pur (p_sub64 rfl rfl (by omega)) rfl rfl rfl ?_
    refine L_op (G_on rfl rfl rfl ?_)
    refine J_pur (p_neq rfl rfl) rfl rfl rfl ?_
    refine L_pur rfl (p_pick_f rfl rfl) ?_
    refine L_nil ?_
    refine Q_then ?_
    refine J_bool (t := 99) (c := false) rfl (by simp; omega) ?_
    refine C_false rfl ?_
    refine J_skip ?_
    refine Q_then ?_
    refine J_seq ?_
    refine J_region ?_
    refine L_pur rfl (p_move rfl) ?_
    refine L_pur rfl (p_len rfl Try.underlying23) ?_
    refine L_pur rfl (p_sub64 rfl rfl (by omega)) ?_
    refine J_slot (t := 102) (v := .int .i64 (us.length : Int)) rfl (by congr 1; omega) ?_
    refine L_pur rfl (p_assign rfl) ?_
    refine L_nil ?_
    refine Q_then ?_
    refine J_seq ?_
    refine J_seq ?_
    refine J_region ?_
    refine L_pur rfl (p_assign rfl) ?_
    refine L_nil ?_
    refine Q_then ?_
    refine J_block ?_
    refine J_loop2 (fun (now : Nat) (xs : List Tm) => now ≤ 60 ∧ xs.length ≤ 1000 ∧ ∀ c ∈ xs, (now : Int) ≤ c.1 ∧ ∃ j, j < i ∧ j ≠ q ∧ c = TMv e j) (fun now xs => [hpA b10 0 xs, row 3 1 (.slice (some ⟨b34, o34, none⟩) i c34) (e.map encZ), old W]) (fun now xs => [(16, .int .i64 (now : Int)), (14, .int .i64 (q : Int)), (15, .int .i64 (xs.length : Int)), (0, .slice (some ⟨bx, ox, none⟩) (zs.map fun z => [Value.int .i64 z]).length cap), (9, .bool true), (10, .pointer (some ⟨b10, 0, none⟩)), (11, .slice (some ⟨b34, o34, none⟩) i c34)]) (fun now xs => 60 - now) 0 us ⟨by omega, by omega, fun c hc => by obtain ⟨j, hj, rfl⟩ := List.mem_map.1 (hpu.mem_iff.1 hc); have h1 := List.mem_filter.1 hj; have h2 : j < i := by { simpa using h1.1 }; have h3 : j ≠ q := by { simpa using h1.2 }; obtain ⟨d, hd⟩ : ∃ d, e[j]? = some d := ⟨_, List.getElem?_eq_getElem (by omega)⟩; have h4 := heb d (List.mem_of_getElem? hd); exact ⟨by rw [TMv_at hd]; simp only; omega, j, h2, h3, rfl⟩⟩ SU KE ?_
    intro now xs ⟨hw1, hxl2, hxs⟩
    refine J_hpSrt .here fun hs => ?_
    refine J_seq ?_
    refine J_seq ?_
    refine J_region ?_
    refine L_pur rfl (p_move rfl) ?_
    refine L_pur rfl (p_lss rfl rfl) ?_
    refine L_nil ?_
    refine Q_then ?_
    refine C_dec rfl (fun h104 => ?_) (fun h104 => ?_)
    ·
     have hdl2 := due_len xs (now : Int)
     obtain ⟨us2, hus2⟩ : ∃ us2, us2 = due xs (now : Int) := ⟨_, rfl⟩
     have hxd := due_late xs (now : Int)
     rw [← hus2] at hxd hdl2
     refine J_skip ?_
     refine Q_then ?_
     refine J_seq ?_
     refine J_block ?_
     refine J_seq ?_
     refine J_region ?_
     refine L_pur rfl (p_move rfl) ?_
     refine L_pur rfl (p_conv rfl Try.underlying3 Try.underlying136) ?_
     refine J_slot (t := 108) (v := .int .u64 (now : Int)) rfl (by rw [wrap64u_of ⟨by omega, by omega⟩]) ?_
     refine L_op (x_call Try.func74 nm74 bd74 (.cons rfl (.cons rfl .nil)) rfl (hDue (xs := xs) PC (by omega) (now : Int)) fun v109 => ?_)
     refine J_rowEq (ys := (us2.map Prod.snd).map encI) (by rw [hus2]) ?_
     refine J_row .here fun hw109 a109 c109 hv109 hl109 hm109 hz109 => ?_
     subst hv109
     have hmd : ((us2.map Prod.snd).map encI).length = us2.length := by simp
     refine L_pur rfl (p_assign rfl) ?_
     refine L_nil ?_
     refine Q_then ?_
     refine J_seq ?_
     refine J_region ?_
     refine L_pur rfl (p_assign rfl) ?_
     refine L_nil ?_
     refine Q_then ?_
     refine J_block ?_
     refine J_loop (α := Nat) (fun k => k ≤ us2.length) (fun k => [row 36 2 (.slice a109 ((us2.map Prod.snd).map encI).length c109) ((us2.map Prod.snd).map encI), hpA b10 0 (late xs (now : Int)), row 3 1 (.slice (some ⟨b34, o34, none⟩) i c34) (e.map encZ), old W]) (fun k => [(18, .int .i64 (k : Int)), (17, .slice a109 ((us2.map Prod.snd).map encI).length c109), (16, .int .i64 (now : Int)), (14, .int .i64 (q : Int)), (15, .int .i64 ((xs.length - k : Nat) : Int)), (0, .slice (some ⟨bx, ox, none⟩) (zs.map fun z => [Value.int .i64 z]).length cap), (9, .bool true), (10, .pointer (some ⟨b10, 0, none⟩)), (11, .slice (some ⟨b34, o34, none⟩) i c34)]) (fun k => us2.length - k) 0 (by omega) SU KE ?_
     intro k hk
     refine J_seq ?_
     refine J_seq ?_
     refine J_region ?_
     refine L_pur rfl (p_move rfl) ?_
     refine L_pur rfl (p_move rfl) ?_
     refine L_pur rfl (p_len rfl Try.underlying80) ?_
     refine L_pur rfl (p_lss rfl rfl) ?_
     refine L_nil ?_
     refine Q_then ?_
     refine C_dec rfl (fun h113 => ?_) (fun h113 => ?_)
     ·
      have hltk : k < us2.length := by omega
      obtain ⟨bd, od, had⟩ := hz109 (by intro h; rw [h] at hmd; simp at hmd; omega)
      subst had
      obtain ⟨c, hck⟩ : ∃ c, us2[k]? = some c := ⟨_, List.getElem?_eq_getElem hltk⟩
      have hkx : xs[k]? = some c := by rw [hxd, List.getElem?_append_left hltk]; exact hck
      have hcx : c ∈ xs := List.mem_of_getElem? hkx
      have hcd : c.1 ≤ (now : Int) := (due_mem (now := (now : Int)) hs).1 (by rw [← hus2]; exact List.mem_of_getElem? hck)
      obtain ⟨hnc, j, hji, hjq, hcj⟩ := hxs c hcx
      subst hcj
      obtain ⟨d, hd⟩ : ∃ d, e[j]? = some d := ⟨_, List.getElem?_eq_getElem (by omega)⟩
      have hTj := TMv_at hd
      have hdn : d = (now : Int) := by rw [hTj] at hcd hnc; simp only at hcd hnc; omega
      refine J_skip ?_
      refine Q_then ?_
      refine J_seq ?_
      refine J_block ?_
      refine J_seq ?_
      refine J_region ?_
      refine L_pur rfl (p_move rfl) ?_
      refine L_pur rfl (p_move rfl) ?_
      refine L_pur rfl (p_indexAddr rfl rfl Try.underlying80 ty36 (by omega) (by omega)) ?_
      refine L_pur rfl (p_fieldAddr rfl fa36_1) ?_
      refine L_val rfl (v_loadF rfl ty3 HS (by simp only [Int.toNat_natCast, List.getElem?_map, hck]; rfl) (by exact rfl)) ?_
      refine J_slot (t := 120) (v := .int .i64 (j : Int)) rfl rfl ?_
      refine L_pur rfl (p_assign rfl) ?_
      refine L_nil ?_
      refine Q_then ?_
      refine J_seq ?_
      refine J_seq ?_
      refine J_region ?_
      refine L_pur rfl (p_move rfl) ?_
      refine L_pur rfl (p_lss rfl rfl) ?_
      refine L_pur rfl (p_move rfl) ?_
      refine J_bool (t := 123) (c := false) rfl (by simp) ?_
      refine L_op (G_on rfl rfl rfl ?_)
      refine J_pur (p_move rfl) rfl rfl rfl ?_
      refine L_op (G_on rfl rfl rfl ?_)
      refine J_pur (p_move rfl) rfl rfl rfl ?_
      refine L_op (G_on rfl rfl rfl ?_)
      refine J_pur (p_len rfl Try.underlying23) rfl rfl rfl ?_
      refine L_op (G_on rfl rfl rfl ?_)
      refine J_pur (p_geq rfl rfl) rfl rfl rfl ?_
      refine L_pur rfl (p_pick_f rfl rfl) ?_
      refine L_pur rfl (p_move rfl) ?_
      refine J_bool (t := 129) (c := false) rfl (by simp; omega) ?_
      refine L_op (G_on rfl rfl rfl ?_)
      refine J_pur (p_move rfl) rfl rfl rfl ?_
      refine L_op (G_on rfl rfl rfl ?_)
      refine J_pur (p_move rfl) rfl rfl rfl ?_
      refine L_op (G_on rfl rfl rfl ?_)
      refine J_pur (p_eql rfl rfl) rfl rfl rfl ?_
      refine L_pur rfl (p_pick_f rfl rfl) ?_
      refine L_pur rfl (p_move rfl) ?_
      refine J_bool (t := 134) (c := false) rfl (by simp; omega) ?_
      refine L_op (G_on rfl rfl rfl ?_)
      refine J_pur (p_move rfl) rfl rfl rfl ?_
      refine L_op (G_on rfl rfl rfl ?_)
      refine J_pur (p_move rfl) rfl rfl rfl ?_
      refine L_op (G_on rfl rfl rfl ?_)
      refine J_pur (p_indexAddr rfl rfl Try.underlying23 ty3 (by omega) (by omega)) rfl rfl rfl ?_
      refine L_op (G_on rfl rfl rfl ?_)
      refine J_val (v_loadE1 rfl ty3 HS (by simp only [Int.toNat_natCast, List.getElem?_map, hd]; rfl)) rfl rfl rfl ?_
      refine L_op (G_on rfl rfl rfl ?_)
      refine J_pur (p_move rfl) rfl rfl rfl ?_
      refine L_op (G_on rfl rfl rfl ?_)
      refine J_pur (p_neq rfl rfl) rfl rfl rfl ?_
      refine L_pur rfl (p_pick_f rfl rfl) ?_
      refine L_pur rfl (p_move rfl) ?_
      refine J_bool (t := 142) (c := false) rfl (by simp; omega) ?_
      refine L_op (G_on rfl rfl rfl ?_)
      refine J_pur (p_move rfl) rfl rfl rfl ?_
      refine L_op (G_on rfl rfl rfl ?_)
      refine J_pur (p_gtr rfl rfl) rfl rfl rfl ?_
      refine L_op (G_on rfl rfl rfl ?_)
      refine J_pur (p_move rfl) rfl rfl rfl ?_
      refine J_gsplit (t := 145) rfl (fun h145 => ?_) (fun h145 => ?_)
      ·
       have hk0 : 0 < k := by simpa using h145
       obtain ⟨p, hpk⟩ : ∃ p, us2[k - 1]? = some p := ⟨_, List.getElem?_eq_getElem (by omega)⟩
       have hpx : xs[k - 1]? = some p := by rw [hxd, List.getElem?_append_left (by omega)]; exact hpk
       have hpl : ltT p (TMv e j) = true := by
        have h1 := List.pairwise_iff_getElem.1 hs (k - 1) k (List.getElem?_eq_some_iff.1 hpx).1 (List.getElem?_eq_some_iff.1 hkx).1 (by omega)
        rwa [(List.getElem?_eq_some_iff.1 hpx).2, (List.getElem?_eq_some_iff.1 hkx).2] at h1
       obtain ⟨hnp, jp, hjp, _, hpj⟩ := hxs p (List.mem_of_getElem? hpx)
       subst hpj
       have hkk : ((k : Int) - 1).toNat = k - 1 := by omega
       have hcmp : jp < j := by
        rw [ltT_iff] at hpl
        rw [hTj] at hpl hcd
        simp only [TMv] at hpl hnp hcd
        omega
       refine L_op (G_on rfl rfl rfl ?_)
       refine J_pur (p_move rfl) rfl rfl rfl ?_
       refine L_op (G_on rfl rfl rfl ?_)
       refine J_pur (p_move rfl) rfl rfl rfl ?_
       refine L_op (G_on rfl rfl rfl ?_)
       refine J_pur (p_sub64 rfl rfl (by omega)) rfl rfl rfl ?_
       refine L_op (G_on rfl rfl rfl ?_)
       refine J_pur (p_indexAddr rfl rfl Try.underlying80 ty36 (by omega) (by omega)) rfl rfl rfl ?_
       refine L_op (G_on rfl rfl rfl ?_)
       refine J_pur (p_fieldAddr rfl fa36_1) rfl rfl rfl ?_
       refine L_op (G_on rfl rfl rfl ?_)
       refine J_val (v_loadF rfl ty3 HS (by rw [hkk]; simp only [List.getElem?_map, hpk]; rfl) (by exact rfl)) rfl rfl rfl ?_
       refine J_slot (t := 151) (v := .int .i64 (jp : Int)) rfl rfl ?_
       refine L_op (G_on rfl rfl rfl ?_)
       refine J_pur (p_move rfl) rfl rfl rfl ?_
       refine L_op (G_on rfl rfl rfl ?_)
       refine J_pur (p_geq rfl rfl) rfl rfl rfl ?_
       refine L_op (G_on rfl rfl rfl ?_)
       refine J_pur (p_pick_t rfl rfl) rfl rfl rfl ?_
       refine L_pur rfl (p_pick_f rfl rfl) ?_
       refine L_nil ?_
       refine Q_then ?_
       refine J_bool (t := 155) (c := false) rfl (by simp; omega) ?_
       refine C_false rfl ?_
       refine J_skip ?_
       refine Q_then ?_
       refine J_region ?_
       refine L_pur rfl (p_move rfl) ?_
       refine L_pur rfl (p_sub64 rfl rfl (by omega)) ?_
       refine L_pur rfl (p_assign rfl) ?_
       refine L_nil ?_
       refine Q_blk_normal ?_
       refine Q_then ?_
       refine J_region ?_
       refine L_pur rfl (p_move rfl) ?_
       refine L_pur rfl (p_add64 rfl rfl (by omega)) ?_
       refine L_pur rfl (p_assign rfl) ?_
       refine L_nil ?_
       refine Q_then ?_
       refine J_slot (t := 15) (v := .int .i64 ((xs.length - (k + 1) : Nat) : Int)) rfl (by congr 1; omega) ?_
       exact J_again (k + 1) (by omega) (by omega) SU KE
      ·
       refine L_op (G_off rfl rfl rfl rfl rfl rfl ?_)
       refine L_op (G_off rfl rfl rfl rfl rfl rfl ?_)
       refine L_op (G_off rfl rfl rfl rfl rfl rfl ?_)
       refine L_op (G_off rfl rfl rfl rfl rfl rfl ?_)
       refine L_op (G_off rfl rfl rfl rfl rfl rfl ?_)
       refine L_op (G_off rfl rfl rfl rfl rfl rfl ?_)
       refine L_op (G_off rfl rfl rfl rfl rfl rfl ?_)
       refine L_op (G_off rfl rfl rfl rfl rfl rfl ?_)
       refine L_op (G_on rfl rfl rfl ?_)
       refine J_pur (p_pick_f rfl rfl) rfl rfl rfl ?_
       refine L_pur rfl (p_pick_f rfl rfl) ?_
       refine L_nil ?_
       refine Q_then ?_
       refine C_false rfl ?_
       refine J_skip ?_
       refine Q_then ?_
       refine J_region ?_
       refine L_pur rfl (p_move rfl) ?_
       refine L_pur rfl (p_sub64 rfl rfl (by omega)) ?_
       refine L_pur rfl (p_assign rfl) ?_
       refine L_nil ?_
       refine Q_blk_normal ?_
       refine Q_then ?_
       refine J_region ?_
       refine L_pur rfl (p_move rfl) ?_
       refine L_pur rfl (p_add64 rfl rfl (by omega)) ?_
       refine L_pur rfl (p_assign rfl) ?_
       refine L_nil ?_
       refine Q_then ?_
       refine J_slot (t := 15) (v := .int .i64 ((xs.length - (k + 1) : Nat) : Int)) rfl (by congr 1; omega) ?_
       exact J_again (k + 1) (by omega) (by omega) SU KE
     ·
      have hku : k = us2.length := by omega
      refine J_slot (t := 15) (v := .int .i64 ((late xs (now : Int)).length : Int)) rfl (by congr 1; omega) ?_
      refine J_exit ?_
      refine Q_then_exit ?_
      refine Q_then_exit ?_
      refine Q_blk_this ?_
      refine Q_blk_normal ?_
      refine Q_then ?_
      refine J_region ?_
      refine L_pur rfl (p_move rfl) ?_
      refine L_pur rfl (p_add64 rfl rfl (by omega)) ?_
      refine L_pur rfl (p_assign rfl) ?_
      refine L_nil ?_
      refine Q_then ?_
      exact J_again2 (now + 1) (late xs (now : Int)) (by omega) (⟨by omega, by omega, fun c hc => ⟨by have := (due_mem (now := (now : Int)) hs).2 hc; omega, (hxs c ((List.dropWhile_sublist _).mem hc)).2⟩⟩) SU KE
    ·
     have hn60 : now = 60 := by omega
     have hx0 : xs = [] := by
      cases hx : xs with
      | nil => rfl
      | cons c r =>
       obtain ⟨h1, j, h2, _, h4⟩ := hxs c (by rw [hx]; simp)
       obtain ⟨d, hd⟩ : ∃ d, e[j]? = some d := ⟨_, List.getElem?_eq_getElem (by omega)⟩
       have h5 := heb d (List.mem_of_getElem? hd)
       rw [h4, TMv_at hd] at h1
       simp only at h1; omega
     subst hx0
     refine J_exit ?_
     refine Q_then_exit ?_
     refine Q_then_exit ?_
     refine Q_blk_this ?_
     refine Q_then ?_
     refine J_seq ?_
     refine J_region ?_
     refine L_pur rfl (p_move rfl) ?_
     refine L_pur rfl (p_move rfl) ?_
     refine J_bool (t := 159) (c := true) rfl (rfl) ?_
     refine L_op (G_on rfl rfl rfl ?_)
     refine J_pur (p_move rfl) rfl rfl rfl ?_
     refine L_op (G_on rfl rfl rfl ?_)
     refine J_pur (p_eql rfl rfl) rfl rfl rfl ?_
     refine L_pur rfl (p_pick_t rfl rfl) ?_
     refine L_pur rfl (p_move rfl) ?_
     refine J_bool (t := 163) (c := true) rfl (by simp) ?_
     refine L_op (G_on rfl rfl rfl ?_)
     refine x_call Try.func72 nm72 bd72 (.cons rfl .nil) rfl (hLen (xs := []) PC (by simp)) fun _ => ?_
     refine L_op (G_on rfl rfl rfl ?_)
     refine J_pur (p_eql rfl rfl) rfl rfl rfl ?_
     refine L_pur rfl (p_pick_t rfl rfl) ?_
     refine J_bool (t := 166) (c := true) rfl (by simp) ?_
     refine L_pur rfl (p_assign rfl) ?_
     refine L_nil ?_
     refine Q_then ?_
     refine J_ret ?_
     exact J_return (()) Try.results18 (.tmp rfl .nil) rfl SU

end Go.Pse
