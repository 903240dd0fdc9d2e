/-
  The law on the next one.
-/
import Derived.Test.YtjolbnicboaaeaaTm5
namespace Go.Pse
open Go.RowKit Go.Proofs

def TN (zs : List Int) (k : Nat) : Tm := ((num (zs.getD k 0) 12 : Int), (1 + ((k % 2 : Nat) : Int), (k : Int)))
theorem TN_inj (zs : List Int) : ∀ j k, (TN zs j).2 = (TN zs k).2 → j = k := fun j k e => by have := congrArg Prod.snd e; simp only [TN] at this; omega
theorem num_le {x : Int} : (0 : Int) ≤ num x 12 ∧ (num x 12 : Int) ≤ 100 := by have := num_lt (x := x) (b := 12) (by omega); omega
theorem J_hpSrt {E : World} {l : List As} {n : Nat} {F : Env} {K : Act → World → Prop} {b o : Nat} {xs : List Tm} (hh : Has (hpA b o xs) l) (k : Srt xs → Jk E l n F K) : Jk E l n F K := J_know (fun w H => by
  obtain ⟨S, g, S1, S2, ⟨h, _⟩, _⟩ := H.has hh
  exact h) k

set_option maxRecDepth 100000 in
set_option maxHeartbeats 4000000 in
theorem timerNext {E W : World} {v : Value} {zs : List Int} (hr : Reads W 1 v (zs.map fun z => [Value.int .i64 z])) :
  Con Try.prog 19 #[v] E [old W] (fun _ : Unit => .bool true) (fun _ => [old W]) := by
 refine Con.body (vs := [v]) (n := 95) Try.func19 rfl rfl [(0, v)] (env_ok 1 rfl) ?_
 refine J_readsB (fun w H => hr.old HS H) fun hw a cap hv h1 h2 h3 => ?_
 subst hv
 have hm : cap ≤ 9223372036854775807 := h2
 have hml : (zs.map fun z => [Value.int .i64 z]).length = zs.length := List.length_map _
 refine J_seq ?_
 refine J_region ?_
 refine L_pur rfl (p_assign rfl) ?_
 refine L_nil ?_
 refine Q_then ?_
 refine J_seq ?_
 refine J_region ?_
 refine L_op (x_call Try.func70 nm70 bd70 .nil rfl (first21) fun _ => ?_)
 refine L_pur rfl (p_assign rfl) ?_
 refine L_nil ?_
 refine Q_then ?_
 refine J_seq ?_
 refine J_seq ?_
 refine J_region ?_
 refine L_pur rfl (p_move rfl) ?_
 refine L_pur rfl (p_not rfl) ?_
 refine L_nil ?_
 refine Q_then ?_
 refine J_bool (t := 16) (c := false) rfl (rfl) ?_
 refine C_false rfl ?_
 refine J_skip ?_
 refine Q_then ?_
 refine J_seq ?_
 refine J_seq ?_
 refine J_region ?_
 refine L_pur rfl (p_move rfl) ?_
 refine L_pur rfl (p_len rfl Try.underlying23) ?_
 refine L_pur rfl (p_gtr rfl rfl) ?_
 refine L_nil ?_
 refine Q_then ?_
 refine C_dec rfl (fun h19 => ?_) (fun h19 => ?_)
 ·
  refine J_seq ?_
  refine J_region ?_
  refine L_pur rfl (p_move rfl) ?_
  refine L_pur rfl (p_assign rfl) ?_
  refine L_nil ?_
  refine Q_then ?_
  refine J_ret ?_
  refine Q_then_ret ?_
  exact J_return (()) Try.results19 (.tmp rfl .nil) rfl SU
 ·
  refine J_skip ?_
  refine Q_then ?_
  refine J_seq ?_
  refine J_region ?_
  refine L_op (x_alloc ty134 rfl fun b4 => ?_)
  refine J_hpNew ?_
  refine L_nil ?_
  refine Q_then ?_
  refine J_seq ?_
  refine J_seq ?_
  refine J_region ?_
  refine L_pur rfl (p_assign rfl) ?_
  refine L_nil ?_
  refine Q_then ?_
  refine J_block ?_
  refine J_loop2 (fun i xs => i ≤ zs.length ∧ xs.Perm ((List.range i).map (TN zs))) (fun i xs => [hpA b4 0 xs, old W]) (fun i xs => [(5, .int .i64 (i : Int)), (0, .slice a (zs.map fun z => [Value.int .i64 z]).length cap), (3, .bool true), (4, .pointer (some ⟨b4, 0, none⟩))]) (fun i xs => zs.length - i) 0 ([] : List Tm) ⟨by omega, List.Perm.refl _⟩ SU KE ?_
  intro i xs ⟨hi, hp⟩
  have hxl : xs.length = i := by have := hp.length_eq; simpa using this
  refine J_seq ?_
  refine J_seq ?_
  refine J_region ?_
  refine L_pur rfl (p_move rfl) ?_
  refine L_pur rfl (p_move rfl) ?_
  refine L_pur rfl (p_len rfl Try.underlying23) ?_
  refine L_pur rfl (p_lss rfl rfl) ?_
  refine L_nil ?_
  refine Q_then ?_
  refine C_dec rfl (fun h24 => ?_) (fun h24 => ?_)
  ·
   have hlt : i < zs.length := by omega
   obtain ⟨bx, ox, rfl⟩ := h3 (by intro h; rw [h] at hml; simp at hml; omega)
   obtain ⟨c, hcc⟩ : ∃ c, zs[i]? = some c := ⟨_, List.getElem?_eq_getElem hlt⟩
   have hT1 : (TN zs i).1 = (num c 12 : Int) := by simp [TN, List.getD, hcc]
   have hnl := num_le (x := c)
   refine J_skip ?_
   refine Q_then ?_
   refine J_seq ?_
   refine J_block ?_
   refine J_region ?_
   refine L_pur rfl (p_move rfl) ?_
   refine L_pur rfl (p_move rfl) ?_
   refine L_pur rfl (p_indexAddr rfl rfl Try.underlying23 ty3 (by omega) (by omega)) ?_
   refine L_val rfl (by first | exact v_loadE1 rfl ty3 HS (by first | (simp only [Int.toNat_natCast, List.getElem?_map, hcc]; rfl) | (simp only [Int.toNat_natCast, List.getElem?_map, hcd]; rfl) | simp | rfl) | exact v_loadR1 rfl ty3 (fun w H => hr.old HS H) (by first | (simp only [Int.toNat_natCast, List.getElem?_map, hcc]; rfl) | (simp only [Int.toNat_natCast, List.getElem?_map, hcd]; rfl) | simp | rfl)) ?_
   refine L_op (x_call Try.func23 nm23 bd23 (.cons rfl (.cons rfl .nil)) rfl (number (by omega) (by omega)) fun _ => ?_)
   refine L_pur rfl (p_conv rfl Try.underlying3 Try.underlying136) ?_
   refine J_slot (t := 32) (v := .int .u64 (TN zs i).1) rfl (by rw [wrap64u_of ⟨by omega, by omega⟩, hT1]) ?_
   refine L_pur rfl (p_move rfl) ?_
   refine L_pur rfl (p_rem rfl rfl (by decide)) ?_
   refine J_slot (t := 34) (v := .int .i64 ((i % 2 : Nat) : Int)) rfl (by rfl) ?_
   refine L_pur rfl (p_add64 rfl rfl (by omega)) ?_
   refine L_pur rfl (p_move rfl) ?_
   refine L_pur rfl (bld36 (.cons rfl (.cons rfl .nil)) (by repeat constructor)) ?_
   refine J_slot (t := 37) (v := .agg (encI (TN zs i).2).toArray) rfl (by rfl) ?_
   refine L_op (x_call Try.func71 nm71 bd71 (.cons rfl (.cons rfl (.cons rfl .nil))) rfl (hPush (xs := xs) PC (by omega) (TN zs i).1 (TN zs i).2) fun _ => ?_)
   refine L_nil ?_
   refine Q_blk_normal ?_
   refine Q_then ?_
   refine J_region ?_
   refine L_pur rfl (p_move rfl) ?_
   refine L_pur rfl (p_add64 rfl rfl (by omega)) ?_
   refine L_pur rfl (p_assign rfl) ?_
   refine L_nil ?_
   refine Q_then ?_
   exact J_again2 (i + 1) (hpush xs (TN zs i)) (by omega) (⟨by omega, push_new (TN_inj zs) hp⟩) SU KE
  ·
   have hin : i = zs.length := by omega
   refine J_exit ?_
   refine Q_then_exit ?_
   refine Q_then_exit ?_
   refine Q_blk_this ?_
   refine Q_then ?_
   refine J_seq ?_
   refine J_region ?_
   refine L_pur rfl (p_move rfl) ?_
   refine L_pur rfl (p_len rfl Try.underlying23) ?_
   refine J_slot (t := 40) (v := .int .i64 (xs.length : Int)) rfl (by rw [hxl, hin]; simp) ?_
   refine L_pur rfl (p_assign rfl) ?_
   refine L_nil ?_
   refine Q_then ?_
   refine J_seq ?_
   refine J_block ?_
   refine J_loop (α := List Tm) (fun ys => ys.length ≤ 1000 ∧ ∀ c ∈ ys, 0 ≤ c.1 ∧ c.1 ≤ 100) (fun ys => [hpA b4 0 ys, old W]) (fun ys => [(6, .int .i64 (ys.length : Int)), (3, .bool true), (4, .pointer (some ⟨b4, 0, none⟩))]) (fun ys => ys.length) xs ⟨by omega, fun c hc => by obtain ⟨j, _, rfl⟩ := List.mem_map.1 (hp.mem_iff.1 hc); exact num_le⟩ SU KE ?_
   intro ys ⟨hyl, hyb⟩
   refine J_hpSrt .here fun hs => ?_
   refine J_seq ?_
   refine J_seq ?_
   refine J_region ?_
   refine L_pur rfl (p_move rfl) ?_
   refine L_pur rfl (p_gtr rfl rfl) ?_
   refine L_nil ?_
   refine Q_then ?_
   refine C_dec rfl (fun h42 => ?_) (fun h42 => ?_)
   ·
    obtain ⟨y, r, hyr⟩ : ∃ y r, ys = y :: r := by
     cases ys with
     | nil => simp at h42
     | cons y r => exact ⟨y, r, rfl⟩
    subst hyr
    have hrl : r.length + 1 ≤ 1000 := hyl
    have hy1 := hyb y (by simp)
    have hdl := due_len r y.1
    have hds : due (y :: r) y.1 = y :: due r y.1 := by unfold due; simp
    have hls : late (y :: r) y.1 = late r y.1 := by unfold late; simp
    refine J_skip ?_
    refine Q_then ?_
    refine J_block ?_
    refine J_seq ?_
    refine J_region ?_
    refine L_op (x_call Try.func75 nm75 bd75 (.cons rfl .nil) rfl (hNext (xs := y :: r) PC (by omega)) fun _ => ?_)
    refine L_pur rfl (p_move rfl) ?_
    refine L_pur rfl (p_extract rfl rfl) ?_
    refine J_slot (t := 45) (v := .int .u64 y.1) rfl rfl ?_
    refine L_pur rfl (p_extract rfl rfl) ?_
    refine L_pur rfl (p_extract rfl rfl) ?_
    refine L_op (x_alloc ty36 rfl fun b8 => ?_)
    refine L_pur rfl (p_assign rfl) ?_
    refine L_op (x_store rfl rfl ty36 rfl (by first | rfl | (simp [*]; done)) (by first | rfl | (simp [*]; done)) RO PT ?_)
    refine J_pick (A := blk b8 36 _) PC ?_
    refine J_asTo (B := blk b8 36 (encI y.2)) rfl ?_
    refine L_pur rfl (p_assign rfl) ?_
    refine L_nil ?_
    refine Q_then ?_
    refine J_seq ?_
    refine J_seq ?_
    refine J_region ?_
    refine L_pur rfl (p_move rfl) ?_
    refine L_pur rfl (p_not rfl) ?_
    refine L_nil ?_
    refine Q_then ?_
    refine J_bool (t := 49) (c := false) rfl (rfl) ?_
    refine C_false rfl ?_
    refine J_skip ?_
    refine Q_then ?_
    refine J_seq ?_
    refine J_seq ?_
    refine J_region ?_
    refine L_pur rfl (p_move rfl) ?_
    refine L_pur rfl (p_gtr rfl rfl) ?_
    refine L_pur rfl (p_move rfl) ?_
    refine J_gsplit (t := 52) rfl (fun h52 => ?_) (fun h52 => ?_)
    ·
     have hdn := due_none (xs := y :: r) (now := y.1 - 1) (fun c hc => by rcases List.mem_cons.1 hc with rfl | hc; omega; have := srt_head hs c hc; omega)
     refine L_op (G_on rfl rfl rfl ?_)
     refine J_pur (p_move rfl) rfl rfl rfl ?_
     refine L_op (G_on rfl rfl rfl ?_)
     refine J_pur (p_sub rfl rfl) rfl rfl rfl ?_
     refine J_slot (t := 54) (v := .int .u64 (y.1 - 1)) rfl (by have : 0 < y.1 := by { simpa using h52 }; rw [wrap64u_of ⟨by omega, by omega⟩]) ?_
     refine L_op (G_on rfl rfl rfl ?_)
     refine x_call Try.func74 nm74 bd74 (.cons rfl (.cons rfl .nil)) rfl (hDue (xs := y :: r) PC (by omega) (y.1 - 1)) fun v55 => ?_
     refine J_row .here fun hw55 a55 c55 hv55 hl55 hm55 hz55 => ?_
     subst hv55
     refine J_pick (A := hpA b4 0 _) PC ?_
     refine J_asTo (B := hpA b4 0 (y :: r)) (by rw [hdn.2]) ?_
     refine L_op (G_on rfl rfl rfl ?_)
     refine J_pur (p_len rfl Try.underlying80) rfl rfl rfl ?_
     refine L_op (G_on rfl rfl rfl ?_)
     refine J_pur (p_neq rfl rfl) rfl rfl rfl ?_
     refine L_pur rfl (p_pick_t rfl rfl) ?_
     refine L_nil ?_
     refine Q_then ?_
     refine J_bool (t := 58) (c := false) rfl (by simp [hdn.1]) ?_
     refine C_false rfl ?_
     refine J_skip ?_
     refine Q_then ?_
     refine J_seq ?_
     refine J_region ?_
     refine L_pur rfl (p_move rfl) ?_
     refine L_op (x_call Try.func74 nm74 bd74 (.cons rfl (.cons rfl .nil)) rfl (hDue (xs := y :: r) PC (by omega) y.1) fun v60 => ?_)
     refine J_rowEq (ys := ((y :: due r y.1).map Prod.snd).map encI) (by rw [hds]) ?_
     refine J_row .here fun hw60 a60 c60 hv60 hl60 hm60 hz60 => ?_
     subst hv60
     refine J_pick (A := hpA b4 0 _) PC ?_
     refine J_asTo (B := hpA b4 0 (late r y.1)) (by rw [hls]) ?_
     have hm60 : (((y :: due r y.1).map Prod.snd).map encI).length = (due r y.1).length + 1 := by simp
     obtain ⟨b6, o6, hb6⟩ := hz60 (by simp)
     subst hb6
     refine L_pur rfl (p_assign rfl) ?_
     refine L_nil ?_
     refine Q_then ?_
     refine J_seq ?_
     refine J_seq ?_
     refine J_drawS mixed (by kernel_rfl) ?_
     refine S_val rfl (Pur.vl (p_move rfl)) ?_
     refine S_val rfl (Pur.vl (p_len rfl Try.underlying80)) ?_
     refine S_val rfl (Pur.vl (p_eql rfl rfl)) ?_
     refine S_val rfl (Pur.vl (p_move rfl)) ?_
     refine J_bool (t := 64) (c := false) rfl (by simp; omega) ?_
     refine S_on rfl rfl rfl rfl (Pur.vl (p_move rfl)) ?_
     refine S_on rfl rfl rfl rfl (Pur.vl (p_indexAddr rfl rfl Try.underlying80 ty36 (by omega) (by omega))) ?_
     refine S_on rfl rfl rfl rfl (v_loadE rfl ty36 HS (by rfl)) ?_
     refine S_on rfl rfl rfl rfl (v_loadA rfl ty36 HS CT) ?_
     refine S_on rfl rfl rfl rfl (Pur.vl (p_nev rfl rfl (fun w => eg36 _ _ _ _ _ w) (fun w => nev36 _ _ _ _ w))) ?_
     refine S_val rfl (Pur.vl (p_pick_f rfl rfl)) ?_
     refine S_val rfl (Pur.vl (p_move rfl)) ?_
     refine J_bool (t := 71) (c := false) rfl (by simp) ?_
     refine S_on rfl rfl rfl rfl (Pur.vl (p_move rfl)) ?_
     refine S_on rfl rfl rfl rfl (Pur.vl (p_len rfl Try.underlying80)) ?_
     refine S_on rfl rfl rfl rfl (Pur.vl (p_move rfl)) ?_
     refine S_on rfl rfl rfl rfl (Pur.vl (p_gtr rfl rfl)) ?_
     refine S_val rfl (Pur.vl (p_pick_f rfl rfl)) ?_
     refine S_nil ?_
     refine Q_then ?_
     refine J_bool (t := 76) (c := false) rfl (by simp; omega) ?_
     refine C_false rfl ?_
     refine J_skip ?_
     refine Q_then ?_
     refine J_region ?_
     refine L_pur rfl (p_move rfl) ?_
     refine L_pur rfl (p_move rfl) ?_
     refine L_pur rfl (p_len rfl Try.underlying80) ?_
     refine L_pur rfl (p_sub64 rfl rfl (by simp; omega)) ?_
     refine J_slot (t := 80) (v := .int .i64 ((late r y.1).length : Int)) rfl (by congr 1; simp at hm60 ⊢; omega) ?_
     refine L_pur rfl (p_assign rfl) ?_
     refine L_nil ?_
     refine Q_blk_normal ?_
     refine Q_then ?_
     exact J_again ((late r y.1)) (by have := due_len r y.1; simp; omega) (⟨by have := due_len r y.1; simp at hyl; omega, fun c hc => hyb c (List.mem_cons_of_mem _ ((List.dropWhile_sublist _).mem hc))⟩) SU KE
    ·
     refine L_op (G_off rfl rfl rfl rfl rfl rfl ?_)
     refine L_op (G_off rfl rfl rfl rfl rfl rfl ?_)
     refine L_op (G_off rfl rfl rfl rfl rfl rfl ?_)
     refine L_op (G_off rfl rfl rfl rfl rfl rfl ?_)
     refine L_op (G_off rfl rfl rfl rfl rfl rfl ?_)
     refine L_pur rfl (p_pick_f rfl rfl) ?_
     refine L_nil ?_
     refine Q_then ?_
     refine C_false rfl ?_
     refine J_skip ?_
     refine Q_then ?_
     refine J_seq ?_
     refine J_region ?_
     refine L_pur rfl (p_move rfl) ?_
     refine L_op (x_call Try.func74 nm74 bd74 (.cons rfl (.cons rfl .nil)) rfl (hDue (xs := y :: r) PC (by omega) y.1) fun v60 => ?_)
     refine J_rowEq (ys := ((y :: due r y.1).map Prod.snd).map encI) (by rw [hds]) ?_
     refine J_row .here fun hw60 a60 c60 hv60 hl60 hm60 hz60 => ?_
     subst hv60
     refine J_pick (A := hpA b4 0 _) PC ?_
     refine J_asTo (B := hpA b4 0 (late r y.1)) (by rw [hls]) ?_
     have hm60 : (((y :: due r y.1).map Prod.snd).map encI).length = (due r y.1).length + 1 := by simp
     obtain ⟨b6, o6, hb6⟩ := hz60 (by simp)
     subst hb6
     refine L_pur rfl (p_assign rfl) ?_
     refine L_nil ?_
     refine Q_then ?_
     refine J_seq ?_
     refine J_seq ?_
     refine J_drawS mixed (by kernel_rfl) ?_
     refine S_val rfl (Pur.vl (p_move rfl)) ?_
     refine S_val rfl (Pur.vl (p_len rfl Try.underlying80)) ?_
     refine S_val rfl (Pur.vl (p_eql rfl rfl)) ?_
     refine S_val rfl (Pur.vl (p_move rfl)) ?_
     refine J_bool (t := 64) (c := false) rfl (by simp; omega) ?_
     refine S_on rfl rfl rfl rfl (Pur.vl (p_move rfl)) ?_
     refine S_on rfl rfl rfl rfl (Pur.vl (p_indexAddr rfl rfl Try.underlying80 ty36 (by omega) (by omega))) ?_
     refine S_on rfl rfl rfl rfl (v_loadE rfl ty36 HS (by rfl)) ?_
     refine S_on rfl rfl rfl rfl (v_loadA rfl ty36 HS CT) ?_
     refine S_on rfl rfl rfl rfl (Pur.vl (p_nev rfl rfl (fun w => eg36 _ _ _ _ _ w) (fun w => nev36 _ _ _ _ w))) ?_
     refine S_val rfl (Pur.vl (p_pick_f rfl rfl)) ?_
     refine S_val rfl (Pur.vl (p_move rfl)) ?_
     refine J_bool (t := 71) (c := false) rfl (by simp) ?_
     refine S_on rfl rfl rfl rfl (Pur.vl (p_move rfl)) ?_
     refine S_on rfl rfl rfl rfl (Pur.vl (p_len rfl Try.underlying80)) ?_
     refine S_on rfl rfl rfl rfl (Pur.vl (p_move rfl)) ?_
     refine S_on rfl rfl rfl rfl (Pur.vl (p_gtr rfl rfl)) ?_
     refine S_val rfl (Pur.vl (p_pick_f rfl rfl)) ?_
     refine S_nil ?_
     refine Q_then ?_
     refine J_bool (t := 76) (c := false) rfl (by simp; omega) ?_
     refine C_false rfl ?_
     refine J_skip ?_
     refine Q_then ?_
     refine J_region ?_
     refine L_pur rfl (p_move rfl) ?_
     refine L_pur rfl (p_move rfl) ?_
     refine L_pur rfl (p_len rfl Try.underlying80) ?_
     refine L_pur rfl (p_sub64 rfl rfl (by simp; omega)) ?_
     refine J_slot (t := 80) (v := .int .i64 ((late r y.1).length : Int)) rfl (by congr 1; simp at hm60 ⊢; omega) ?_
     refine L_pur rfl (p_assign rfl) ?_
     refine L_nil ?_
     refine Q_blk_normal ?_
     refine Q_then ?_
     exact J_again ((late r y.1)) (by have := due_len r y.1; simp; omega) (⟨by have := due_len r y.1; simp at hyl; omega, fun c hc => hyb c (List.mem_cons_of_mem _ ((List.dropWhile_sublist _).mem hc))⟩) SU KE
   ·
    have hy0 : ys = [] := by
     cases ys with
     | nil => rfl
     | cons y r => first | (simp at h42; done) | (simp at h42; omega)
    subst hy0
    refine J_exit ?_
    refine Q_then_exit ?_
    refine Q_then_exit ?_
    refine Q_blk_this ?_
    refine Q_then ?_
    refine J_seq ?_
    refine J_region ?_
    refine L_op (x_call Try.func75 nm75 bd75 (.cons rfl .nil) rfl (hNext (xs := []) PC (by simp)) fun _ => ?_)
    refine L_pur rfl (p_move rfl) ?_
    refine L_pur rfl (p_extract rfl rfl) ?_
    refine L_pur rfl (p_extract rfl rfl) ?_
    refine L_pur rfl (p_extract rfl rfl) ?_
    refine L_op (x_alloc ty36 rfl fun b12 => ?_)
    refine L_pur rfl (p_assign rfl) ?_
    refine L_op (x_store rfl rfl ty36 rfl (by first | rfl | (simp [*]; done)) (by first | rfl | (simp [*]; done)) RO PT ?_)
    refine L_pur rfl (p_assign rfl) ?_
    refine L_nil ?_
    refine Q_then ?_
    refine J_seq ?_
    refine J_region ?_
    refine L_pur rfl (p_move rfl) ?_
    refine L_pur rfl (p_move rfl) ?_
    refine J_bool (t := 87) (c := true) rfl (rfl) ?_
    refine L_op (G_on rfl rfl rfl ?_)
    refine J_pur (p_move rfl) rfl rfl rfl ?_
    refine L_op (G_on rfl rfl rfl ?_)
    refine J_pur (p_not rfl) rfl rfl rfl ?_
    refine L_pur rfl (p_pick_t rfl rfl) ?_
    refine L_pur rfl (p_move rfl) ?_
    refine J_bool (t := 91) (c := true) rfl (rfl) ?_
    refine L_op (G_on rfl rfl rfl ?_)
    refine x_call Try.func72 nm72 bd72 (.cons rfl .nil) rfl (hLen (xs := []) PC (by simp)) fun _ => ?_
    refine L_op (G_on rfl rfl rfl ?_)
    refine J_pur (p_eql rfl rfl) rfl rfl rfl ?_
    refine L_pur rfl (p_pick_t rfl rfl) ?_
    refine J_bool (t := 94) (c := true) rfl (by simp) ?_
    refine L_pur rfl (p_assign rfl) ?_
    refine L_nil ?_
    refine Q_then ?_
    refine J_ret ?_
    exact J_return (()) Try.results19 (.tmp rfl .nil) rfl SU

end Go.Pse
