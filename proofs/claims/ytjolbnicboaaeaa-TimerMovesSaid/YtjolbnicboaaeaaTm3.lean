/-
  The heaps: those whose time has come.
-/
import Derived.Test.YtjolbnicboaaeaaTm2
import Derived.Test.YtjolbnicboaaeaaLs2
namespace Go.Pse
open Go.RowKit Go.Proofs

set_option maxRecDepth 100000 in
set_option maxHeartbeats 4000000 in
theorem hDue {E : World} {l m : List As}{b o : Nat} {xs : List Tm} (hp : Pick (hpA b o xs) l m) (hb : xs.length ≤ 90000) (now : Int) :
  Con Try.prog 74 #[.pointer (some ⟨b, o, none⟩), .int .u64 now] E l (fun v' : Value => v') (fun v' => row 36 2 v' (((due xs now).map Prod.snd).map encI) :: hpA b o (late xs now) :: m) := by
 refine Con.body (vs := [.pointer (some ⟨b, o, none⟩), .int .u64 now]) (n := 42) Try.func74 rfl rfl [(0, .pointer (some ⟨b, o, none⟩)), (1, .int .u64 now)] (env_ok 2 rfl) ?_
 refine J_pick hp ?_
 refine J_asTo (B := hpA b o (xs.drop 0)) (by simp) ?_
 refine J_seq ?_
 refine J_region ?_
 refine L_pur rfl (p_assign rfl) ?_
 refine L_nil ?_
 refine Q_then ?_
 refine J_seq ?_
 refine J_region ?_
 refine L_pur rfl (p_assign rfl) ?_
 refine L_nil ?_
 refine Q_then ?_
 refine J_seq ?_
 refine J_block ?_
 refine J_nil (el := 36) (sz := 2) ?_
 refine J_loop2 (fun j v5 => j ≤ xs.length ∧ ∀ c ∈ xs.take j, c.1 ≤ now) (fun j v5 => row 36 2 v5 (((xs.take j).map Prod.snd).map encI) :: hpA b o (xs.drop j) :: m) (fun j v5 => [(5, v5), (0, .pointer (some ⟨b, o, none⟩)), (1, .int .u64 now)]) (fun j v5 => xs.length - j) 0 (.slice none 0 0) ⟨by omega, by simp⟩ SU KE ?_
 intro j v5 ⟨hj, hq⟩
 refine J_pick (A := hpA b o (xs.drop j)) (.there .here) ?_
 refine J_hpO fun v hs => ?_
 refine J_row (.there .here) fun hw a cap hv h1 h2 h3 => ?_
 subst hv
 have hml : ((xs.drop j).map encT).length = xs.length - j := by simp
 have htl : (xs.take j).length ≤ j := by simp; omega
 refine J_seq ?_
 refine J_seq ?_
 refine J_region ?_
 refine L_pur rfl (p_move rfl) ?_
 refine L_pur rfl (p_nilCheck rfl) ?_
 refine L_pur rfl (p_fieldAddr rfl fa134_0) ?_
 refine L_val rfl (v_loadL rfl ty132 HS rfl (by exact rfl)) ?_
 refine L_pur rfl (p_len rfl Try.underlying132) ?_
 refine L_pur rfl (p_gtr rfl rfl) ?_
 refine L_pur rfl (p_move rfl) ?_
 refine J_gsplit (t := 12) rfl (fun h12 => ?_) (fun h12 => ?_)
 ·
  have hlt : j < xs.length := by simp at h12; omega
  obtain ⟨bx, ox, hax⟩ := h3 (by intro h; rw [h] at hml; simp at hml; omega)
  subst hax
  obtain ⟨c, hcc⟩ : ∃ c, xs[j]? = some c := ⟨_, List.getElem?_eq_getElem hlt⟩
  have hc0 : (xs.drop j)[0]? = some c := by rw [List.getElem?_drop]; exact hcc
  have hdj : xs.drop j = c :: xs.drop (j + 1) := by rw [List.drop_eq_getElem_cons hlt, (List.getElem?_eq_some_iff.1 hcc).2]
  have htt : Srt (xs.drop (j + 1)) := by have hs2 : Srt (xs.drop j) := hs; rw [hdj] at hs2; exact (List.pairwise_cons.1 hs2).2
  refine L_op (G_on rfl rfl rfl ?_)
  refine J_pur (p_move rfl) rfl rfl rfl ?_
  refine L_op (G_on rfl rfl rfl ?_)
  refine J_pur (p_nilCheck rfl) rfl rfl rfl ?_
  refine L_op (G_on rfl rfl rfl ?_)
  refine J_pur (p_fieldAddr rfl fa134_0) rfl rfl rfl ?_
  refine L_op (G_on rfl rfl rfl ?_)
  refine J_val (v_loadL rfl ty132 HS rfl (by exact rfl)) rfl rfl rfl ?_
  refine L_op (G_on rfl rfl rfl ?_)
  refine J_pur (p_indexAddr rfl rfl Try.underlying132 ty175 (by omega) (by omega)) rfl rfl rfl ?_
  refine L_op (G_on rfl rfl rfl ?_)
  refine J_pur (p_fieldAddr rfl fa175_0) rfl rfl rfl ?_
  refine L_op (G_on rfl rfl rfl ?_)
  refine J_val (v_loadF rfl ty136 HS (by show ((xs.drop j).map encT)[0]? = _; rw [List.getElem?_map, hc0]; rfl) (by exact rfl)) rfl rfl rfl ?_
  refine L_op (G_on rfl rfl rfl ?_)
  refine J_pur (p_move rfl) rfl rfl rfl ?_
  refine L_op (G_on rfl rfl rfl ?_)
  refine J_pur (p_leq rfl rfl) rfl rfl rfl ?_
  refine L_pur rfl (p_pick_t rfl rfl) ?_
  refine L_nil ?_
  refine Q_then ?_
  refine C_dec rfl (fun h22 => ?_) (fun h22 => ?_)
  ·
   refine J_skip ?_
   refine Q_then ?_
   refine J_block ?_
   refine J_seq ?_
   refine J_region ?_
   refine L_pur rfl (p_move rfl) ?_
   refine L_pur rfl (p_move rfl) ?_
   refine L_pur rfl (p_nilCheck rfl) ?_
   refine L_pur rfl (p_fieldAddr rfl fa134_0) ?_
   refine L_val rfl (v_loadL rfl ty132 HS rfl (by exact rfl)) ?_
   refine L_pur rfl (p_indexAddr rfl rfl Try.underlying132 ty175 (by omega) (by omega)) ?_
   refine L_pur rfl (p_fieldAddr rfl fa175_1) ?_
   refine L_val rfl (v_loadFA rfl ty36 HS (by show ((xs.drop j).map encT)[0]? = _; rw [List.getElem?_map, hc0]; rfl) CT) ?_
   refine L_op (x_lit (vals := [_]) Try.underlying80 ty36 rfl (.cons rfl .nil) (.agg .nil) (Wf.cons rfl rfl Wf.nil) rfl (by decide) rfl rfl fun v31 => ?_)
   refine J_row .here fun hw31 a31 c31 hv31 hl31 hm31 hz31 => ?_
   subst hv31
   refine L_op (x_app rfl rfl Try.underlying80 ty36 rfl rfl PC (fun w H => sep_reads HS H) (by first | omega | (simp <;> omega)) (by first | omega | (simp <;> omega)) rfl fun v32 => ?_)
   refine J_rowEq (ys := ((xs.take (j + 1)).map Prod.snd).map encI) (by rw [List.take_add_one, hcc]; simp [encI]) ?_
   refine J_row .here fun hw32 a32 c32 hv32 hl32 hm32 hz32 => ?_
   subst hv32
   refine L_pur rfl (p_assign rfl) ?_
   refine L_nil ?_
   refine Q_then ?_
   refine J_region ?_
   refine L_pur rfl (p_move rfl) ?_
   refine L_pur rfl (p_move rfl) ?_
   refine L_pur rfl (p_nilCheck rfl) ?_
   refine L_pur rfl (p_fieldAddr rfl fa134_0) ?_
   refine L_val rfl (v_loadL rfl ty132 HS rfl (by exact rfl)) ?_
   refine J_pick (A := row 175 3 (.slice (some ⟨bx, ox, none⟩) ((xs.drop j).map encT).length cap) ((xs.drop j).map encT)) PC ?_
   refine J_rowEq (ys := encT c :: (xs.drop (j + 1)).map encT) (by rw [hdj]; rfl) ?_
   refine L_op (x_call Try.func108 nm108 bd108 (.cons rfl (.cons rfl (.cons rfl .nil))) rfl (delete108 (c := encT c) (xs := (xs.drop (j + 1)).map encT) (by have e : ((xs.drop j).map encT).length = (encT c :: (xs.drop (j + 1)).map encT).length := by { rw [hdj]; rfl }; rw [e]; exact .here)) fun v38 => ?_)
   refine J_row .here fun hw38 a38 c38 hv38 hl38 hm38 hz38 => ?_
   subst hv38
   refine L_pur rfl (p_nilCheck rfl) ?_
   refine L_pur rfl (p_fieldAddr rfl fa134_0) ?_
   refine L_op (x_storeL rfl rfl ty132 rfl (by first | rfl | (simp [*]; done)) (by first | rfl | (simp [*]; done)) rfl RO rfl PT ?_)
   refine L_nil ?_
   refine Q_blk_normal ?_
   refine Q_then ?_
   refine J_hpS (b := b) (o := o) (xs := xs.drop (j + 1)) _ PX (htt) ?_
   exact J_again2 (j + 1) _ (by omega) (⟨by omega, fun c' hc' => by rw [List.take_add_one, hcc] at hc'; rcases List.mem_append.1 hc' with h | h; exact hq c' h; simp at h; subst h; exact h22⟩) SU KE
  ·
   refine J_exit ?_
   refine Q_then_exit ?_
   refine Q_then_exit ?_
   refine Q_blk_this ?_
   refine Q_then ?_
   refine J_seq ?_
   obtain ⟨hd, hl⟩ := due_at hj hq (fun c' h => by rw [hcc] at h; cases h; exact h22)
   refine J_region ?_
   refine L_pur rfl (p_move rfl) ?_
   refine L_pur rfl (p_assign rfl) ?_
   refine L_nil ?_
   refine Q_then ?_
   refine J_ret ?_
   refine J_hpS (b := b) (o := o) (xs := xs.drop j) _ PX (hs) ?_
   refine J_asTo (B := hpA b o (late xs now)) (by rw [hl]) ?_
   refine J_pick (A := row 36 2 v5 _) PC ?_
   refine J_rowEq (ys := ((due xs now).map Prod.snd).map encI) (by rw [hd]) ?_
   exact J_return (_) Try.results74 (.tmp rfl .nil) rfl SU
 ·
  refine L_op (G_off rfl rfl rfl rfl rfl rfl ?_)
  refine L_op (G_off rfl rfl rfl rfl rfl rfl ?_)
  refine L_op (G_off rfl rfl rfl rfl rfl rfl ?_)
  refine L_op (G_off rfl rfl rfl rfl rfl rfl ?_)
  refine L_op (G_off rfl rfl rfl rfl rfl rfl ?_)
  refine L_op (G_off rfl rfl rfl rfl rfl rfl ?_)
  refine L_op (G_off rfl rfl rfl rfl rfl rfl ?_)
  refine L_op (G_off rfl rfl rfl rfl rfl rfl ?_)
  refine L_op (G_off rfl rfl rfl rfl rfl rfl ?_)
  refine L_pur rfl (p_pick_f rfl rfl) ?_
  refine L_nil ?_
  refine Q_then ?_
  refine C_false rfl ?_
  refine J_exit ?_
  refine Q_then_exit ?_
  refine Q_then_exit ?_
  refine Q_blk_this ?_
  refine Q_then ?_
  refine J_seq ?_
  obtain ⟨hd, hl⟩ := due_at hj hq (fun c' h => by rw [show j = xs.length by simp at h12; omega, List.getElem?_eq_none (Nat.le_refl _)] at h; cases h)
  refine J_region ?_
  refine L_pur rfl (p_move rfl) ?_
  refine L_pur rfl (p_assign rfl) ?_
  refine L_nil ?_
  refine Q_then ?_
  refine J_ret ?_
  refine J_hpS (b := b) (o := o) (xs := xs.drop j) _ PX (hs) ?_
  refine J_asTo (B := hpA b o (late xs now)) (by rw [hl]) ?_
  refine J_pick (A := row 36 2 v5 _) PC ?_
  refine J_rowEq (ys := ((due xs now).map Prod.snd).map encI) (by rw [hd]) ?_
  exact J_return (_) Try.results74 (.tmp rfl .nil) rfl SU

set_option maxRecDepth 100000 in
set_option maxHeartbeats 4000000 in
theorem rhDue {E : World} {l m : List As}{b o : Nat} {xs : List Tm} (hp : Pick (hrA b o xs) l m) (hb : xs.length ≤ 90000) (now : Int) :
  Con Try.prog 77 #[.pointer (some ⟨b, o, none⟩), .int .u64 now] E l (fun v' : Value => v') (fun v' => row 36 2 v' (((due xs now).map Prod.snd).map encI) :: hrA b o (late xs now) :: m) := by
 refine Con.body (vs := [.pointer (some ⟨b, o, none⟩), .int .u64 now]) (n := 42) Try.func77 rfl rfl [(0, .pointer (some ⟨b, o, none⟩)), (1, .int .u64 now)] (env_ok 2 rfl) ?_
 refine J_pick hp ?_
 refine J_asTo (B := hrA b o (xs.drop 0)) (by simp) ?_
 refine J_seq ?_
 refine J_region ?_
 refine L_pur rfl (p_assign rfl) ?_
 refine L_nil ?_
 refine Q_then ?_
 refine J_seq ?_
 refine J_region ?_
 refine L_pur rfl (p_assign rfl) ?_
 refine L_nil ?_
 refine Q_then ?_
 refine J_seq ?_
 refine J_block ?_
 refine J_nil (el := 36) (sz := 2) ?_
 refine J_loop2 (fun j v5 => j ≤ xs.length ∧ ∀ c ∈ xs.take j, c.1 ≤ now) (fun j v5 => row 36 2 v5 (((xs.take j).map Prod.snd).map encI) :: hrA b o (xs.drop j) :: m) (fun j v5 => [(5, v5), (0, .pointer (some ⟨b, o, none⟩)), (1, .int .u64 now)]) (fun j v5 => xs.length - j) 0 (.slice none 0 0) ⟨by omega, by simp⟩ SU KE ?_
 intro j v5 ⟨hj, hq⟩
 refine J_pick (A := hrA b o (xs.drop j)) (.there .here) ?_
 refine J_hrO fun v hs => ?_
 refine J_row (.there .here) fun hw a cap hv h1 h2 h3 => ?_
 subst hv
 have hml : ((xs.drop j).map encT).length = xs.length - j := by simp
 have htl : (xs.take j).length ≤ j := by simp; omega
 refine J_seq ?_
 refine J_seq ?_
 refine J_region ?_
 refine L_pur rfl (p_move rfl) ?_
 refine L_pur rfl (p_nilCheck rfl) ?_
 refine L_pur rfl (p_fieldAddr rfl fa144_0) ?_
 refine L_val rfl (v_loadL rfl ty142 HS rfl (by exact rfl)) ?_
 refine L_pur rfl (p_len rfl Try.underlying142) ?_
 refine L_pur rfl (p_gtr rfl rfl) ?_
 refine L_pur rfl (p_move rfl) ?_
 refine J_gsplit (t := 12) rfl (fun h12 => ?_) (fun h12 => ?_)
 ·
  have hlt : j < xs.length := by simp at h12; omega
  obtain ⟨bx, ox, hax⟩ := h3 (by intro h; rw [h] at hml; simp at hml; omega)
  subst hax
  obtain ⟨c, hcc⟩ : ∃ c, xs[j]? = some c := ⟨_, List.getElem?_eq_getElem hlt⟩
  have hc0 : (xs.drop j)[0]? = some c := by rw [List.getElem?_drop]; exact hcc
  have hdj : xs.drop j = c :: xs.drop (j + 1) := by rw [List.drop_eq_getElem_cons hlt, (List.getElem?_eq_some_iff.1 hcc).2]
  have htt : Srt (xs.drop (j + 1)) := by have hs2 : Srt (xs.drop j) := hs; rw [hdj] at hs2; exact (List.pairwise_cons.1 hs2).2
  refine L_op (G_on rfl rfl rfl ?_)
  refine J_pur (p_move rfl) rfl rfl rfl ?_
  refine L_op (G_on rfl rfl rfl ?_)
  refine J_pur (p_nilCheck rfl) rfl rfl rfl ?_
  refine L_op (G_on rfl rfl rfl ?_)
  refine J_pur (p_fieldAddr rfl fa144_0) rfl rfl rfl ?_
  refine L_op (G_on rfl rfl rfl ?_)
  refine J_val (v_loadL rfl ty142 HS rfl (by exact rfl)) rfl rfl rfl ?_
  refine L_op (G_on rfl rfl rfl ?_)
  refine J_pur (p_indexAddr rfl rfl Try.underlying142 ty184 (by omega) (by omega)) rfl rfl rfl ?_
  refine L_op (G_on rfl rfl rfl ?_)
  refine J_pur (p_fieldAddr rfl fa184_0) rfl rfl rfl ?_
  refine L_op (G_on rfl rfl rfl ?_)
  refine J_val (v_loadF rfl ty136 HS (by show ((xs.drop j).map encT)[0]? = _; rw [List.getElem?_map, hc0]; rfl) (by exact rfl)) rfl rfl rfl ?_
  refine L_op (G_on rfl rfl rfl ?_)
  refine J_pur (p_move rfl) rfl rfl rfl ?_
  refine L_op (G_on rfl rfl rfl ?_)
  refine J_pur (p_leq rfl rfl) rfl rfl rfl ?_
  refine L_pur rfl (p_pick_t rfl rfl) ?_
  refine L_nil ?_
  refine Q_then ?_
  refine C_dec rfl (fun h22 => ?_) (fun h22 => ?_)
  ·
   refine J_skip ?_
   refine Q_then ?_
   refine J_block ?_
   refine J_seq ?_
   refine J_region ?_
   refine L_pur rfl (p_move rfl) ?_
   refine L_pur rfl (p_move rfl) ?_
   refine L_pur rfl (p_nilCheck rfl) ?_
   refine L_pur rfl (p_fieldAddr rfl fa144_0) ?_
   refine L_val rfl (v_loadL rfl ty142 HS rfl (by exact rfl)) ?_
   refine L_pur rfl (p_indexAddr rfl rfl Try.underlying142 ty184 (by omega) (by omega)) ?_
   refine L_pur rfl (p_fieldAddr rfl fa184_1) ?_
   refine L_val rfl (v_loadFA rfl ty36 HS (by show ((xs.drop j).map encT)[0]? = _; rw [List.getElem?_map, hc0]; rfl) CT) ?_
   refine L_op (x_lit (vals := [_]) Try.underlying80 ty36 rfl (.cons rfl .nil) (.agg .nil) (Wf.cons rfl rfl Wf.nil) rfl (by decide) rfl rfl fun v31 => ?_)
   refine J_row .here fun hw31 a31 c31 hv31 hl31 hm31 hz31 => ?_
   subst hv31
   refine L_op (x_app rfl rfl Try.underlying80 ty36 rfl rfl PC (fun w H => sep_reads HS H) (by first | omega | (simp <;> omega)) (by first | omega | (simp <;> omega)) rfl fun v32 => ?_)
   refine J_rowEq (ys := ((xs.take (j + 1)).map Prod.snd).map encI) (by rw [List.take_add_one, hcc]; simp [encI]) ?_
   refine J_row .here fun hw32 a32 c32 hv32 hl32 hm32 hz32 => ?_
   subst hv32
   refine L_pur rfl (p_assign rfl) ?_
   refine L_nil ?_
   refine Q_then ?_
   refine J_region ?_
   refine L_pur rfl (p_move rfl) ?_
   refine L_pur rfl (p_move rfl) ?_
   refine L_pur rfl (p_nilCheck rfl) ?_
   refine L_pur rfl (p_fieldAddr rfl fa144_0) ?_
   refine L_val rfl (v_loadL rfl ty142 HS rfl (by exact rfl)) ?_
   refine L_pur rfl (p_slice rfl Try.underlying142 ty184 rfl rfl (by omega) (by omega) (by omega)) ?_
   refine J_pick (A := row 184 3 (.slice (some ⟨bx, ox, none⟩) ((xs.drop j).map encT).length cap) ((xs.drop j).map encT)) PC ?_
   refine J_dropS (t := 38) (lo := 1) rfl (by omega) fun a38 => ?_
   refine J_rowEq (ys := (xs.drop (j + 1)).map encT) (by rw [← List.map_drop, List.drop_drop]) ?_
   refine J_rowTo (v' := .slice a38 (((xs.drop j).map encT).length - 1) (cap - 1)) (ys := (xs.drop (j + 1)).map encT) rfl rfl ?_
   refine L_pur rfl (p_nilCheck rfl) ?_
   refine L_pur rfl (p_fieldAddr rfl fa144_0) ?_
   refine L_op (x_storeL rfl rfl ty142 rfl (by first | rfl | (simp [*]; done)) (by first | rfl | (simp [*]; done)) rfl RO rfl PT ?_)
   refine L_nil ?_
   refine Q_blk_normal ?_
   refine Q_then ?_
   refine J_hrS (b := b) (o := o) (xs := xs.drop (j + 1)) _ PX (htt) ?_
   exact J_again2 (j + 1) _ (by omega) (⟨by omega, fun c' hc' => by rw [List.take_add_one, hcc] at hc'; rcases List.mem_append.1 hc' with h | h; exact hq c' h; simp at h; subst h; exact h22⟩) SU KE
  ·
   refine J_exit ?_
   refine Q_then_exit ?_
   refine Q_then_exit ?_
   refine Q_blk_this ?_
   refine Q_then ?_
   refine J_seq ?_
   obtain ⟨hd, hl⟩ := due_at hj hq (fun c' h => by rw [hcc] at h; cases h; exact h22)
   refine J_region ?_
   refine L_pur rfl (p_move rfl) ?_
   refine L_pur rfl (p_assign rfl) ?_
   refine L_nil ?_
   refine Q_then ?_
   refine J_ret ?_
   refine J_hrS (b := b) (o := o) (xs := xs.drop j) _ PX (hs) ?_
   refine J_asTo (B := hrA b o (late xs now)) (by rw [hl]) ?_
   refine J_pick (A := row 36 2 v5 _) PC ?_
   refine J_rowEq (ys := ((due xs now).map Prod.snd).map encI) (by rw [hd]) ?_
   exact J_return (_) Try.results77 (.tmp rfl .nil) rfl SU
 ·
  refine L_op (G_off rfl rfl rfl rfl rfl rfl ?_)
  refine L_op (G_off rfl rfl rfl rfl rfl rfl ?_)
  refine L_op (G_off rfl rfl rfl rfl rfl rfl ?_)
  refine L_op (G_off rfl rfl rfl rfl rfl rfl ?_)
  refine L_op (G_off rfl rfl rfl rfl rfl rfl ?_)
  refine L_op (G_off rfl rfl rfl rfl rfl rfl ?_)
  refine L_op (G_off rfl rfl rfl rfl rfl rfl ?_)
  refine L_op (G_off rfl rfl rfl rfl rfl rfl ?_)
  refine L_op (G_off rfl rfl rfl rfl rfl rfl ?_)
  refine L_pur rfl (p_pick_f rfl rfl) ?_
  refine L_nil ?_
  refine Q_then ?_
  refine C_false rfl ?_
  refine J_exit ?_
  refine Q_then_exit ?_
  refine Q_then_exit ?_
  refine Q_blk_this ?_
  refine Q_then ?_
  refine J_seq ?_
  obtain ⟨hd, hl⟩ := due_at hj hq (fun c' h => by rw [show j = xs.length by simp at h12; omega, List.getElem?_eq_none (Nat.le_refl _)] at h; cases h)
  refine J_region ?_
  refine L_pur rfl (p_move rfl) ?_
  refine L_pur rfl (p_assign rfl) ?_
  refine L_nil ?_
  refine Q_then ?_
  refine J_ret ?_
  refine J_hrS (b := b) (o := o) (xs := xs.drop j) _ PX (hs) ?_
  refine J_asTo (B := hrA b o (late xs now)) (by rw [hl]) ?_
  refine J_pick (A := row 36 2 v5 _) PC ?_
  refine J_rowEq (ys := ((due xs now).map Prod.snd).map encI) (by rw [hd]) ?_
  exact J_return (_) Try.results77 (.tmp rfl .nil) rfl SU

end Go.Pse
