/-
  The laws on chains.
-/
import Derived.Test.YtjolbnicboaaeaaCh5
namespace Go.Pse
open Go.RowKit Go.Proofs

theorem plan_prefix {ring seq : Int} {gs : List Bool} {es : List Sqe} {i : Nat} : ∀ (j : Nat), i ≤ j → j ≤ es.length → ∃ r, plan ring seq gs es j = plan ring seq gs es i ++ r
  | 0, h, _ => ⟨[], by rw [Nat.le_zero.1 h]; simp⟩
  | j + 1, h, hj => by
    rcases Nat.lt_or_ge i (j + 1) with h1 | h1
    · obtain ⟨r, hr⟩ := plan_prefix (ring := ring) (seq := seq) (gs := gs) (es := es) (i := i) j (by omega) (by omega)
      exact ⟨r ++ _, by rw [plan_succ (List.getElem?_eq_getElem (by omega)), hr, List.append_assoc]⟩
    · exact ⟨[], by rw [show i = j + 1 by omega]; simp⟩
theorem plan_get {ring seq : Int} {gs : List Bool} {es : List Sqe} {i : Nat} {e : Sqe} (h : es[i]? = some e) (hr : rightAt gs i = true) : (plan ring seq gs es es.length)[(plan ring seq gs es i).length]? = some (reqAt ring seq gs es i e) := by
  have hi := (List.getElem?_eq_some_iff.1 h).1
  obtain ⟨r, hp⟩ := plan_prefix (ring := ring) (seq := seq) (gs := gs) (es := es) (i := i + 1) es.length (by omega) (Nat.le_refl _)
  rw [hp, plan_succ h, if_pos hr]
  simp
theorem plan_started {ring seq : Int} {gs : List Bool} {es : List Sqe} {n i : Nat} {c : Req} (h : (plan ring seq gs es n)[i]? = some c) : c.2.2.2.2 = false := by
  have hm := List.mem_of_getElem? h
  unfold plan at hm
  obtain ⟨k, _, hk⟩ := List.mem_flatMap.1 hm
  split at hk
  · split at hk
    · obtain rfl := List.mem_singleton.1 hk; rfl
    · cases hk
  · cases hk
theorem soft_of_prev {gs : List Bool} {es : List Sqe} {seq k : Int} (h0 : 0 ≤ k) (hs : 1 < seq) (h : prevOf seq gs es k = 0) : softOf gs es k = false := by
  unfold prevOf at h
  unfold softOf
  split at h
  · omega
  · rename_i hc
    cases hr : rightAt gs (k - 1)
    · rfl
    · simp only [hr, Bool.true_and, decide_eq_true_eq, Decidable.not_not] at hc
      simp [and31 hc]
theorem prev_is {gs : List Bool} {es : List Sqe} {seq k : Int} : prevOf seq gs es k = 0 ∨ prevOf seq gs es k = seq + k - 1 := by
  unfold prevOf
  split
  · exact .inr rfl
  · exact .inl rfl
theorem plan_heads {ring seq : Int} {gs : List Bool} {es : List Sqe} : ∀ (i : Nat), i ≤ es.length → (plan ring seq gs es i = [] ∧ ∀ j, j < i → rightAt gs j = false) ∨ headsOf (plan ring seq gs es i) ≠ []
  | 0, _ => .inl ⟨rfl, fun j h => absurd h (by omega)⟩
  | i + 1, h => by
    rw [plan_succ (List.getElem?_eq_getElem (by omega))]
    rcases plan_heads (ring := ring) (seq := seq) (gs := gs) (es := es) i (by omega) with ⟨h1, h2⟩ | h1
    · rw [h1]
      by_cases hr : rightAt gs i = true
      · right
        have hp : prevOf seq gs es i = 0 := by
          unfold prevOf
          have : rightAt gs ((i : Int) - 1) = false := by
            by_cases h0 : i = 0
            · subst h0; rfl
            · have := h2 (i - 1) (by omega)
              rwa [show ((i : Int) - 1) = ((i - 1 : Nat) : Int) by omega]
          rw [this]; rfl
        rw [if_pos hr]
        simp [headsOf, reqAt, hp]
      · left
        rw [if_neg hr]
        refine ⟨rfl, fun j hj => ?_⟩
        rcases Nat.lt_or_ge j i with h3 | h3
        · exact h2 j h3
        · have : j = i := by omega
          subst this
          simpa using hr
    · right
      unfold headsOf at h1 ⊢
      rw [List.filter_append, List.map_append]
      intro h
      exact h1 (List.append_eq_nil_iff.1 h).1

set_option maxRecDepth 100000 in
set_option maxHeartbeats 4000000 in
theorem chainSays {E W : World} {vg vl : Value} {gs : List Bool} {zs : List Int} (hr : Reads W 1 vg (gs.map fun b => [Value.bool b])) (hz : Reads W 1 vl (zs.map fun z => [Value.int .i64 z])) (ring sq : Int) :
    Con Try.prog 3 #[.int .i64 ring, .int .i64 sq, vg, vl] E [old W] (fun _ : Unit => .bool true) (fun _ => [old W]) := by
  refine Con.body (vs := [.int .i64 ring, .int .i64 sq, vg, vl]) (n := 136) Try.func3 rfl rfl [(0, .int .i64 ring), (1, .int .i64 sq), (2, vg), (3, vl)] (env_ok 4 rfl) ?_
  refine J_readsB (fun w H => hr.old (by repeat (first | with_reducible exact Has.here | with_reducible assumption | with_reducible apply Has.there)) H) fun hw a cap hv h1 h2 h3 => ?_
  subst hv
  have hm : cap ≤ 9223372036854775807 := h2
  have hml : (gs.map fun b => [Value.bool b]).length = gs.length := List.length_map _
  refine J_readsB (fun w H => hz.old (by repeat (first | with_reducible exact Has.here | with_reducible assumption | with_reducible apply Has.there)) H) fun hw' a' cap' hv' h1' h2' h3' => ?_
  subst hv'
  have hm' : cap' ≤ 9223372036854775807 := h2'
  have hml' : (zs.map fun z => [Value.int .i64 z]).length = zs.length := List.length_map _
  refine J_seq ?_
  refine J_region ?_
  refine L_pur rfl (p_assign rfl) ?_
  refine L_nil ?_
  refine Q_then ?_
  refine J_seq ?_
  refine J_region ?_
  refine L_op (x_call Try.func22 nm22 bd22 .nil rfl (first20) fun _ => ?_)
  refine L_pur rfl (p_assign rfl) ?_
  refine L_nil ?_
  refine Q_then ?_
  refine J_seq ?_
  refine J_seq ?_
  refine J_region ?_
  refine L_pur rfl (p_move rfl) ?_
  refine L_pur rfl (p_not rfl) ?_
  refine L_nil ?_
  refine Q_then ?_
  refine J_bool (t := 18) (c := false) rfl (rfl) ?_
  refine C_false rfl ?_
  refine J_skip ?_
  refine Q_then ?_
  refine J_seq ?_
  refine J_seq ?_
  refine J_region ?_
  refine L_pur rfl (p_move rfl) ?_
  refine L_pur rfl (p_len rfl Try.underlying22) ?_
  refine L_pur rfl (p_gtr rfl rfl) ?_
  refine L_pur rfl (p_move rfl) ?_
  refine J_gsplit (t := 22) rfl (fun h22 => ?_) (fun h22 => ?_)
  ·
    refine L_op (G_off rfl rfl rfl rfl rfl rfl ?_)
    refine L_op (G_off rfl rfl rfl rfl rfl rfl ?_)
    refine L_op (G_off rfl rfl rfl rfl rfl rfl ?_)
    refine L_pur rfl (p_pick_t rfl rfl) ?_
    refine L_nil ?_
    refine Q_then ?_
    refine C_true rfl ?_
    refine J_seq ?_
    refine J_region ?_
    refine L_pur rfl (p_move rfl) ?_
    refine L_pur rfl (p_assign rfl) ?_
    refine L_nil ?_
    refine Q_then ?_
    refine J_ret ?_
    refine Q_then_ret ?_
    exact J_return (()) Try.results3 (.tmp rfl .nil) rfl (by repeat (first | exact Sub.nil | exact Sub.refl | refine Sub.cons (by repeat (first | exact Pick.here | apply Pick.there)) ?_ | refine Sub.drop ?_))
  ·
    refine L_op (G_on rfl rfl rfl ?_)
    refine J_pur (p_move rfl) rfl rfl rfl ?_
    refine L_op (G_on rfl rfl rfl ?_)
    refine J_pur (p_len rfl Try.underlying23) rfl rfl rfl ?_
    refine L_op (G_on rfl rfl rfl ?_)
    refine J_pur (p_gtr rfl rfl) rfl rfl rfl ?_
    refine L_pur rfl (p_pick_f rfl rfl) ?_
    refine L_nil ?_
    refine Q_then ?_
    refine C_dec rfl (fun h26 => ?_) (fun h26 => ?_)
    ·
      refine J_seq ?_
      refine J_region ?_
      refine L_pur rfl (p_move rfl) ?_
      refine L_pur rfl (p_assign rfl) ?_
      refine L_nil ?_
      refine Q_then ?_
      refine J_ret ?_
      refine Q_then_ret ?_
      exact J_return (()) Try.results3 (.tmp rfl .nil) rfl (by repeat (first | exact Sub.nil | exact Sub.refl | refine Sub.cons (by repeat (first | exact Pick.here | apply Pick.there)) ?_ | refine Sub.drop ?_))
    ·
      refine J_skip ?_
      refine Q_then ?_
      refine J_seq ?_
      refine J_region ?_
      refine L_pur rfl (p_move rfl) ?_
      refine L_op (x_call Try.func23 nm23 bd23 (.cons rfl (.cons rfl .nil)) rfl (number (by omega) (by omega)) fun _ => ?_)
      have hn := num_lt (x := sq) (b := 1073741824) (by omega)
      refine L_pur rfl (p_add64 rfl rfl (by omega)) ?_
      refine L_pur rfl (p_assign rfl) ?_
      refine L_nil ?_
      refine Q_then ?_
      refine J_seq ?_
      refine J_region ?_
      refine L_pur rfl (p_move rfl) ?_
      refine L_pur rfl (bld28 (.cons rfl .nil) (by repeat constructor)) ?_
      refine L_op (x_box rfl rfl rfl fun b33 => ?_)
      refine J_sShut (lo := 0) (k := 0) (by omega) ?_
      refine L_pur rfl (p_assign rfl) ?_
      refine L_nil ?_
      refine Q_then ?_
      refine J_seq ?_
      refine J_region ?_
      refine L_pur rfl (p_move rfl) ?_
      refine L_op (x_call Try.func24 nm24 bd24 (.cons rfl (.cons rfl .nil)) rfl (entries (zs := zs) (by repeat (first | with_reducible exact Pick.here | with_reducible assumption | with_reducible apply Pick.there)) (fun w H => hz.old (by repeat (first | with_reducible exact Has.here | with_reducible assumption | with_reducible apply Has.there)) H) (by omega)) fun ve => ?_)
      refine J_esOpen fun es hes => ?_
      refine J_row .here fun hwe ae ce hve hle hme hze => ?_
      subst hve
      have hmle : (es.map encS).length = es.length := List.length_map _
      obtain ⟨rs, hrs⟩ : ∃ rs, rs = plan (ring) ((num sq 1073741824 : Int) + 1) gs es es.length := ⟨_, rfl⟩
      have hrl : rs.length ≤ 20 := by have := plan_len (ring := ring) (seq := (num sq 1073741824 : Int) + 1) (gs := gs) (es := es) es.length (Nat.le_refl _); rw [hrs]; omega
      have hmlr : (rs.map encQ).length = rs.length := List.length_map _
      refine L_pur rfl (p_assign rfl) ?_
      refine L_nil ?_
      refine Q_then ?_
      refine J_seq ?_
      refine J_region ?_
      refine L_pur rfl (p_move rfl) ?_
      refine L_pur rfl (p_move rfl) ?_
      refine L_pur rfl (p_move rfl) ?_
      refine L_pur rfl (p_move rfl) ?_
      refine L_op (x_call Try.func25 nm25 bd25 (.cons rfl (.cons rfl (.cons rfl (.cons rfl .nil)))) rfl (planC (gs := gs) (es := es) (fun w H => hr.old (by repeat (first | with_reducible exact Has.here | with_reducible assumption | with_reducible apply Has.there)) H) (fun w H => sep_reads (xs := es.map encS) (by repeat (first | with_reducible exact Has.here | with_reducible assumption | with_reducible apply Has.there)) H) (by omega) (by omega) (by omega)) fun v40 => ?_)
      refine J_rowEq (ys := rs.map encQ) (by rw [hrs]) ?_
      refine J_row .here fun hw40 a40 c40 hv40 hl40 hm40 hz40 => ?_
      subst hv40
      refine L_pur rfl (p_assign rfl) ?_
      refine L_nil ?_
      refine Q_then ?_
      refine J_seq ?_
      refine J_region ?_
      refine L_pur rfl (p_move rfl) ?_
      refine L_pur rfl (p_move rfl) ?_
      refine L_pur rfl (p_move rfl) ?_
      refine L_pur rfl (p_move rfl) ?_
      refine L_op (x_call Try.func26 nm26 bd26 (.cons rfl (.cons rfl (.cons rfl (.cons rfl .nil)))) rfl (rplanC (gs := gs) (es := es) (fun w H => hr.old (by repeat (first | with_reducible exact Has.here | with_reducible assumption | with_reducible apply Has.there)) H) (fun w H => sep_reads (xs := es.map encS) (by repeat (first | with_reducible exact Has.here | with_reducible assumption | with_reducible apply Has.there)) H) (by omega) (by omega) (by omega)) fun v45 => ?_)
      refine J_rowEq (ys := rs.map encQ) (by rw [hrs]) ?_
      refine J_row .here fun hw45 a45 c45 hv45 hl45 hm45 hz45 => ?_
      subst hv45
      refine L_pur rfl (p_assign rfl) ?_
      refine L_nil ?_
      refine Q_then ?_
      refine J_seq ?_
      refine J_seq ?_
      refine J_region ?_
      refine L_pur rfl (p_move rfl) ?_
      refine L_pur rfl (p_len rfl Try.underlying31) ?_
      refine L_pur rfl (p_move rfl) ?_
      refine L_pur rfl (p_len rfl Try.underlying33) ?_
      refine L_pur rfl (p_neq rfl rfl) ?_
      refine L_nil ?_
      refine Q_then ?_
      refine J_bool (t := 50) (c := false) rfl (by simp) ?_
      refine C_false rfl ?_
      refine J_skip ?_
      refine Q_then ?_
      refine J_seq ?_
      refine J_region ?_
      refine L_pur rfl (p_assign rfl) ?_
      refine L_nil ?_
      refine Q_then ?_
      refine J_seq ?_
      refine J_seq ?_
      refine J_region ?_
      refine L_pur rfl (p_assign rfl) ?_
      refine L_nil ?_
      refine Q_then ?_
      refine J_block ?_
      refine J_nil (el := 3) (sz := 1) ?_
      refine J_loop2 (fun k v' => k ≤ rs.length) (fun k v' => row 3 1 v' ((headsOf (rs.take k)).map encZ) :: row 41 13 (.slice a40 (rs.map encQ).length c40) (rs.map encQ) :: row 42 13 (.slice a45 (rs.map encQ).length c45) (rs.map encQ) :: [old W]) (fun k v' => [(15, .int .i64 (k : Int)), (14, v'), (12, .slice a40 (rs.map encQ).length c40), (13, .slice a45 (rs.map encQ).length c45), (9, .bool true)]) (fun k v' => rs.length - k) 0 (.slice none 0 0) (by omega) (by repeat (first | exact Sub.nil | exact Sub.refl | refine Sub.cons (by repeat (first | exact Pick.here | apply Pick.there)) ?_ | refine Sub.drop ?_)) (by repeat (first | exact Keep.nil | refine Keep.cons rfl ?_)) ?_
      intro k v' hk
      refine J_seq ?_
      refine J_seq ?_
      refine J_region ?_
      refine L_pur rfl (p_move rfl) ?_
      refine L_pur rfl (p_move rfl) ?_
      refine L_pur rfl (p_len rfl Try.underlying31) ?_
      refine L_pur rfl (p_lss rfl rfl) ?_
      refine L_nil ?_
      refine Q_then ?_
      refine C_dec rfl (fun h54 => ?_) (fun h54 => ?_)
      ·
        have hlt : k < rs.length := by omega
        obtain ⟨b40, o40, rfl⟩ := hz40 (by intro h; rw [h] at hmlr; simp at hmlr; omega)
        obtain ⟨b45, o45, rfl⟩ := hz45 (by intro h; rw [h] at hmlr; simp at hmlr; omega)
        obtain ⟨c, hcc⟩ : ∃ c, rs[k]? = some c := ⟨_, List.getElem?_eq_getElem hlt⟩
        have hhl := heads_len (rs.take k)
        have htl : (rs.take k).length ≤ k := by simp; omega
        have hst : c.2.2.2.2 = false := plan_started (hrs ▸ hcc)
        refine J_skip ?_
        refine Q_then ?_
        refine J_seq ?_
        refine J_block ?_
        refine J_seq ?_
        refine J_seq ?_
        refine J_drawS mixed (by kernel_rfl) ?_
        refine S_val rfl (Pur.vl (p_move rfl)) ?_
        refine S_val rfl (Pur.vl (p_move rfl)) ?_
        refine S_val rfl (Pur.vl (p_indexAddr rfl rfl Try.underlying31 ty41 (by omega) (by omega))) ?_
        refine S_val rfl (Pur.vl (p_fieldAddr rfl fa41_0)) ?_
        refine S_val rfl (v_loadFA rfl ty36 (by repeat (first | with_reducible exact Has.here | with_reducible assumption | with_reducible apply Has.there)) (by first | (simp only [Int.toNat_natCast, List.getElem?_map, hcc]; rfl) | (simp only [Int.toNat_natCast, List.getElem?_map, hcd]; rfl) | simp | rfl) (by first | exact Cut.full rfl | ((repeat constructor); done) | exact Cut.full (by first | rfl | simp [*]))) ?_
        refine S_val rfl (Pur.vl (p_move rfl)) ?_
        refine S_val rfl (Pur.vl (p_move rfl)) ?_
        refine S_val rfl (Pur.vl (p_indexAddr rfl rfl Try.underlying33 ty42 (by omega) (by omega))) ?_
        refine S_val rfl (Pur.vl (p_fieldAddr rfl fa42_0)) ?_
        refine S_val rfl (v_loadFA rfl ty36 (by repeat (first | with_reducible exact Has.here | with_reducible assumption | with_reducible apply Has.there)) (by first | (simp only [Int.toNat_natCast, List.getElem?_map, hcc]; rfl) | (simp only [Int.toNat_natCast, List.getElem?_map, hcd]; rfl) | simp | rfl) (by first | exact Cut.full rfl | ((repeat constructor); done) | exact Cut.full (by first | rfl | simp [*]))) ?_
        refine S_val rfl (Pur.vl (p_nev rfl rfl (fun w => eg36 _ _ _ _ _ w) (fun w => nev36 _ _ _ _ w))) ?_
        refine S_val rfl (Pur.vl (p_move rfl)) ?_
        refine J_bool (t := 68) (c := false) rfl (by simp) ?_
        refine S_on rfl rfl rfl rfl (Pur.vl (p_move rfl)) ?_
        refine S_on rfl rfl rfl rfl (Pur.vl (p_move rfl)) ?_
        refine S_on rfl rfl rfl rfl (Pur.vl (p_indexAddr rfl rfl Try.underlying31 ty41 (by omega) (by omega))) ?_
        refine S_on rfl rfl rfl rfl (Pur.vl (p_fieldAddr rfl fa41_1)) ?_
        refine S_on rfl rfl rfl rfl (v_loadFA rfl ty39 (by repeat (first | with_reducible exact Has.here | with_reducible assumption | with_reducible apply Has.there)) (by first | (simp only [Int.toNat_natCast, List.getElem?_map, hcc]; rfl) | (simp only [Int.toNat_natCast, List.getElem?_map, hcd]; rfl) | simp | rfl) (by first | exact Cut.full rfl | ((repeat constructor); done) | exact Cut.full (by first | rfl | simp [*]))) ?_
        refine S_on rfl rfl rfl rfl (Pur.vl (p_move rfl)) ?_
        refine S_on rfl rfl rfl rfl (Pur.vl (p_move rfl)) ?_
        refine S_on rfl rfl rfl rfl (Pur.vl (p_indexAddr rfl rfl Try.underlying33 ty42 (by omega) (by omega))) ?_
        refine S_on rfl rfl rfl rfl (Pur.vl (p_fieldAddr rfl fa42_1)) ?_
        refine S_on rfl rfl rfl rfl (v_loadFA rfl ty39 (by repeat (first | with_reducible exact Has.here | with_reducible assumption | with_reducible apply Has.there)) (by first | (simp only [Int.toNat_natCast, List.getElem?_map, hcc]; rfl) | (simp only [Int.toNat_natCast, List.getElem?_map, hcd]; rfl) | simp | rfl) (by first | exact Cut.full rfl | ((repeat constructor); done) | exact Cut.full (by first | rfl | simp [*]))) ?_
        refine S_on rfl rfl rfl rfl (Pur.vl (p_nev rfl rfl (fun w => eg39 _ _ _ _ _ w) (fun w => nev39 _ _ _ _ _ _ _ _ _ _ _ _ _ _ _ _ w))) ?_
        refine S_val rfl (Pur.vl (p_pick_f rfl rfl)) ?_
        refine S_val rfl (Pur.vl (p_move rfl)) ?_
        refine J_bool (t := 81) (c := false) rfl (by simp) ?_
        refine S_on rfl rfl rfl rfl (Pur.vl (p_move rfl)) ?_
        refine S_on rfl rfl rfl rfl (Pur.vl (p_move rfl)) ?_
        refine S_on rfl rfl rfl rfl (Pur.vl (p_indexAddr rfl rfl Try.underlying31 ty41 (by omega) (by omega))) ?_
        refine S_on rfl rfl rfl rfl (Pur.vl (p_fieldAddr rfl fa41_2)) ?_
        refine S_on rfl rfl rfl rfl (v_loadF rfl ty3 (by repeat (first | with_reducible exact Has.here | with_reducible assumption | with_reducible apply Has.there)) (by first | (simp only [Int.toNat_natCast, List.getElem?_map, hcc]; rfl) | (simp only [Int.toNat_natCast, List.getElem?_map, hcd]; rfl) | simp | rfl) (by exact rfl)) ?_
        refine S_on rfl rfl rfl rfl (Pur.vl (p_move rfl)) ?_
        refine S_on rfl rfl rfl rfl (Pur.vl (p_move rfl)) ?_
        refine S_on rfl rfl rfl rfl (Pur.vl (p_indexAddr rfl rfl Try.underlying33 ty42 (by omega) (by omega))) ?_
        refine S_on rfl rfl rfl rfl (Pur.vl (p_fieldAddr rfl fa42_2)) ?_
        refine S_on rfl rfl rfl rfl (v_loadF rfl ty3 (by repeat (first | with_reducible exact Has.here | with_reducible assumption | with_reducible apply Has.there)) (by first | (simp only [Int.toNat_natCast, List.getElem?_map, hcc]; rfl) | (simp only [Int.toNat_natCast, List.getElem?_map, hcd]; rfl) | simp | rfl) (by exact rfl)) ?_
        refine S_on rfl rfl rfl rfl (Pur.vl (p_neq rfl rfl)) ?_
        refine S_val rfl (Pur.vl (p_pick_f rfl rfl)) ?_
        refine S_val rfl (Pur.vl (p_move rfl)) ?_
        refine J_bool (t := 94) (c := false) rfl (by simp) ?_
        refine S_on rfl rfl rfl rfl (Pur.vl (p_move rfl)) ?_
        refine S_on rfl rfl rfl rfl (Pur.vl (p_move rfl)) ?_
        refine S_on rfl rfl rfl rfl (Pur.vl (p_indexAddr rfl rfl Try.underlying31 ty41 (by omega) (by omega))) ?_
        refine S_on rfl rfl rfl rfl (Pur.vl (p_fieldAddr rfl fa41_3)) ?_
        refine S_on rfl rfl rfl rfl (v_loadF rfl ty4 (by repeat (first | with_reducible exact Has.here | with_reducible assumption | with_reducible apply Has.there)) (by first | (simp only [Int.toNat_natCast, List.getElem?_map, hcc]; rfl) | (simp only [Int.toNat_natCast, List.getElem?_map, hcd]; rfl) | simp | rfl) (by exact rfl)) ?_
        refine S_on rfl rfl rfl rfl (Pur.vl (p_move rfl)) ?_
        refine S_on rfl rfl rfl rfl (Pur.vl (p_move rfl)) ?_
        refine S_on rfl rfl rfl rfl (Pur.vl (p_indexAddr rfl rfl Try.underlying33 ty42 (by omega) (by omega))) ?_
        refine S_on rfl rfl rfl rfl (Pur.vl (p_fieldAddr rfl fa42_3)) ?_
        refine S_on rfl rfl rfl rfl (v_loadF rfl ty4 (by repeat (first | with_reducible exact Has.here | with_reducible assumption | with_reducible apply Has.there)) (by first | (simp only [Int.toNat_natCast, List.getElem?_map, hcc]; rfl) | (simp only [Int.toNat_natCast, List.getElem?_map, hcd]; rfl) | simp | rfl) (by exact rfl)) ?_
        refine S_on rfl rfl rfl rfl (Pur.vl (p_neb Try.underlying4 rfl rfl)) ?_
        refine S_val rfl (Pur.vl (p_pick_f rfl rfl)) ?_
        refine S_val rfl (Pur.vl (p_move rfl)) ?_
        refine J_bool (t := 107) (c := false) rfl (by simp) ?_
        refine S_on rfl rfl rfl rfl (Pur.vl (p_move rfl)) ?_
        refine S_on rfl rfl rfl rfl (Pur.vl (p_move rfl)) ?_
        refine S_on rfl rfl rfl rfl (Pur.vl (p_indexAddr rfl rfl Try.underlying31 ty41 (by omega) (by omega))) ?_
        refine S_on rfl rfl rfl rfl (Pur.vl (p_fieldAddr rfl fa41_4)) ?_
        refine S_on rfl rfl rfl rfl (v_loadF rfl ty4 (by repeat (first | with_reducible exact Has.here | with_reducible assumption | with_reducible apply Has.there)) (by first | (simp only [Int.toNat_natCast, List.getElem?_map, hcc]; rfl) | (simp only [Int.toNat_natCast, List.getElem?_map, hcd]; rfl) | simp | rfl) (by exact rfl)) ?_
        refine S_val rfl (Pur.vl (p_pick_f rfl rfl)) ?_
        refine S_nil ?_
        refine Q_then ?_
        refine J_bool (t := 113) (c := false) rfl (by simp [hst]) ?_
        refine C_false rfl ?_
        refine J_skip ?_
        refine Q_then ?_
        refine J_seq ?_
        refine J_region ?_
        refine L_pur rfl (p_move rfl) ?_
        refine L_pur rfl (p_move rfl) ?_
        refine L_pur rfl (p_indexAddr rfl rfl Try.underlying33 ty42 (by omega) (by omega)) ?_
        refine L_pur rfl (p_fieldAddr rfl fa42_2) ?_
        refine L_val rfl (v_loadF rfl ty3 (by repeat (first | with_reducible exact Has.here | with_reducible assumption | with_reducible apply Has.there)) (by first | (simp only [Int.toNat_natCast, List.getElem?_map, hcc]; rfl) | (simp only [Int.toNat_natCast, List.getElem?_map, hcd]; rfl) | simp | rfl) (by exact rfl)) ?_
        refine L_pur rfl (p_eql rfl rfl) ?_
        refine L_nil ?_
        refine Q_then ?_
        refine C_dec rfl (fun h119 => ?_) (fun h119 => ?_)
        ·
          refine J_region ?_
          refine L_pur rfl (p_move rfl) ?_
          refine L_pur rfl (p_move rfl) ?_
          refine L_pur rfl (p_move rfl) ?_
          refine L_pur rfl (p_indexAddr rfl rfl Try.underlying33 ty42 (by omega) (by omega)) ?_
          refine L_pur rfl (p_fieldAddr rfl fa42_0) ?_
          refine L_pur rfl (p_fieldAddr rfl fa36_1) ?_
          refine L_val rfl (v_loadF rfl ty3 (by repeat (first | with_reducible exact Has.here | with_reducible assumption | with_reducible apply Has.there)) (by first | (simp only [Int.toNat_natCast, List.getElem?_map, hcc]; rfl) | (simp only [Int.toNat_natCast, List.getElem?_map, hcd]; rfl) | simp | rfl) (by exact rfl)) ?_
          refine L_op (x_lit (vals := [_]) Try.underlying23 ty3 rfl (.cons rfl .nil) (.one rfl .nil) (Wf.cons rfl rfl Wf.nil) rfl (by decide) rfl rfl fun v127 => ?_)
          refine J_row .here fun hw127 a127 c127 hv127 hl127 hm127 hz127 => ?_
          subst hv127
          refine L_op (x_app rfl rfl Try.underlying23 ty3 rfl rfl (by repeat (first | with_reducible exact Pick.here | with_reducible assumption | with_reducible apply Pick.there)) (fun w H => sep_reads (by repeat (first | with_reducible exact Has.here | with_reducible assumption | with_reducible apply Has.there)) H) (by first | omega | (simp <;> omega)) (by first | omega | (simp <;> omega)) rfl fun v128 => ?_)
          refine J_rowEq (ys := (headsOf (rs.take (k + 1))).map encZ) (by rw [heads_succ hcc, if_pos h119]; simp [encZ]) ?_
          refine J_row .here fun hw128 a128 c128 hv128 hl128 hm128 hz128 => ?_
          subst hv128
          refine L_pur rfl (p_assign rfl) ?_
          refine L_nil ?_
          refine Q_blk_normal ?_
          refine Q_then ?_
          refine J_region ?_
          refine L_pur rfl (p_move rfl) ?_
          refine L_pur rfl (p_add64 rfl rfl (by omega)) ?_
          refine L_pur rfl (p_assign rfl) ?_
          refine L_nil ?_
          refine Q_then ?_
          
          exact J_again2 (k + 1) _ (by omega) (by omega) (by repeat (first | exact Sub.nil | exact Sub.refl | refine Sub.cons (by repeat (first | exact Pick.here | apply Pick.there)) ?_ | refine Sub.drop ?_)) (by repeat (first | exact Keep.nil | refine Keep.cons rfl ?_))
        ·
          refine J_skip ?_
          refine Q_blk_normal ?_
          refine Q_then ?_
          refine J_region ?_
          refine L_pur rfl (p_move rfl) ?_
          refine L_pur rfl (p_add64 rfl rfl (by omega)) ?_
          refine L_pur rfl (p_assign rfl) ?_
          refine L_nil ?_
          refine Q_then ?_
          refine J_pick (A := row 3 1 v' _) (by repeat (first | with_reducible exact Pick.here | with_reducible assumption | with_reducible apply Pick.there)) ?_
          refine J_rowEq (ys := (headsOf (rs.take (k + 1))).map encZ) (by rw [heads_succ hcc, if_neg h119]; simp) ?_
          exact J_again2 (k + 1) _ (by omega) (by omega) (by repeat (first | exact Sub.nil | exact Sub.refl | refine Sub.cons (by repeat (first | exact Pick.here | apply Pick.there)) ?_ | refine Sub.drop ?_)) (by repeat (first | exact Keep.nil | refine Keep.cons rfl ?_))
      ·
        have hke : k = rs.length := by omega
        subst hke
        have hhl := heads_len rs
        refine J_pick (A := row 3 1 v' _) (by repeat (first | with_reducible exact Pick.here | with_reducible assumption | with_reducible apply Pick.there)) ?_
        refine J_rowEq (ys := (headsOf rs).map encZ) (by rw [List.take_length]) ?_
        refine J_exit ?_
        refine Q_then_exit ?_
        refine Q_then_exit ?_
        refine Q_blk_this ?_
        refine Q_then ?_
        refine J_seq ?_
        refine J_region ?_
        refine L_pur rfl (p_move rfl) ?_
        refine L_pur rfl (p_move rfl) ?_
        refine J_bool (t := 130) (c := true) rfl (rfl) ?_
        refine L_op (G_on rfl rfl rfl ?_)
        refine J_pur (p_move rfl) rfl rfl rfl ?_
        refine L_op (G_on rfl rfl rfl ?_)
        refine x_call Try.func28 nm28 bd28 (.cons rfl .nil) rfl (heads (rs := rs) (fun w H => sep_reads (by repeat (first | with_reducible exact Has.here | with_reducible assumption | with_reducible apply Has.there)) H) (by omega)) fun v132 => ?_
        refine J_row .here fun hw132 a132 c132 hv132 hl132 hm132 hz132 => ?_
        subst hv132
        refine L_op (G_on rfl rfl rfl ?_)
        refine J_pur (p_move rfl) rfl rfl rfl ?_
        refine L_op (G_on rfl rfl rfl ?_)
        refine x_call Try.func27 nm27 bd27 (.cons rfl (.cons rfl .nil)) rfl (sameInts (xs := headsOf rs) (fun w H => sep_reads (by repeat (first | with_reducible exact Has.here | with_reducible assumption | with_reducible apply Has.there)) H) (fun w H => sep_reads (by repeat (first | with_reducible exact Has.here | with_reducible assumption | with_reducible apply Has.there)) H) (by omega)) fun _ => ?_
        refine L_pur rfl (p_pick_t rfl rfl) ?_
        refine L_pur rfl (p_assign rfl) ?_
        refine L_nil ?_
        refine Q_then ?_
        refine J_ret ?_
        exact J_return (()) Try.results3 (.tmp rfl .nil) rfl (by repeat (first | exact Sub.nil | exact Sub.refl | refine Sub.cons (by repeat (first | exact Pick.here | apply Pick.there)) ?_ | refine Sub.drop ?_))

set_option maxRecDepth 100000 in
set_option maxHeartbeats 4000000 in
theorem chainAll {E W : World} {vg vl : Value} {gs : List Bool} {zs : List Int} (hr : Reads W 1 vg (gs.map fun b => [Value.bool b])) (hz : Reads W 1 vl (zs.map fun z => [Value.int .i64 z])) :
    Con Try.prog 4 #[vl, vg] E [old W] (fun _ : Unit => .bool true) (fun _ => [old W]) := by
  refine Con.body (vs := [vl, vg]) (n := 141) Try.func4 rfl rfl [(0, vl), (1, vg)] (env_ok 2 rfl) ?_
  refine J_readsB (fun w H => hr.old (by repeat (first | with_reducible exact Has.here | with_reducible assumption | with_reducible apply Has.there)) H) fun hw a cap hv h1 h2 h3 => ?_
  subst hv
  have hm : cap ≤ 9223372036854775807 := h2
  have hml : (gs.map fun b => [Value.bool b]).length = gs.length := List.length_map _
  refine J_readsB (fun w H => hz.old (by repeat (first | with_reducible exact Has.here | with_reducible assumption | with_reducible apply Has.there)) H) fun hw' a' cap' hv' h1' h2' h3' => ?_
  subst hv'
  have hm' : cap' ≤ 9223372036854775807 := h2'
  have hml' : (zs.map fun z => [Value.int .i64 z]).length = zs.length := List.length_map _
  refine J_seq ?_
  refine J_region ?_
  refine L_pur rfl (p_assign rfl) ?_
  refine L_nil ?_
  refine Q_then ?_
  refine J_seq ?_
  refine J_region ?_
  refine L_op (x_call Try.func22 nm22 bd22 .nil rfl (first20) fun _ => ?_)
  refine L_pur rfl (p_assign rfl) ?_
  refine L_nil ?_
  refine Q_then ?_
  refine J_seq ?_
  refine J_seq ?_
  refine J_region ?_
  refine L_pur rfl (p_move rfl) ?_
  refine L_pur rfl (p_not rfl) ?_
  refine L_nil ?_
  refine Q_then ?_
  refine J_bool (t := 12) (c := false) rfl (rfl) ?_
  refine C_false rfl ?_
  refine J_skip ?_
  refine Q_then ?_
  refine J_seq ?_
  refine J_seq ?_
  refine J_region ?_
  refine L_pur rfl (p_move rfl) ?_
  refine L_pur rfl (p_len rfl Try.underlying23) ?_
  refine L_pur rfl (p_gtr rfl rfl) ?_
  refine L_pur rfl (p_move rfl) ?_
  refine J_gsplit (t := 16) rfl (fun h16 => ?_) (fun h16 => ?_)
  ·
    refine L_op (G_off rfl rfl rfl rfl rfl rfl ?_)
    refine L_op (G_off rfl rfl rfl rfl rfl rfl ?_)
    refine L_op (G_off rfl rfl rfl rfl rfl rfl ?_)
    refine L_pur rfl (p_pick_t rfl rfl) ?_
    refine L_nil ?_
    refine Q_then ?_
    refine C_true rfl ?_
    refine J_seq ?_
    refine J_region ?_
    refine L_pur rfl (p_move rfl) ?_
    refine L_pur rfl (p_assign rfl) ?_
    refine L_nil ?_
    refine Q_then ?_
    refine J_ret ?_
    refine Q_then_ret ?_
    exact J_return (()) Try.results4 (.tmp rfl .nil) rfl (by repeat (first | exact Sub.nil | exact Sub.refl | refine Sub.cons (by repeat (first | exact Pick.here | apply Pick.there)) ?_ | refine Sub.drop ?_))
  ·
    refine L_op (G_on rfl rfl rfl ?_)
    refine J_pur (p_move rfl) rfl rfl rfl ?_
    refine L_op (G_on rfl rfl rfl ?_)
    refine J_pur (p_len rfl Try.underlying22) rfl rfl rfl ?_
    refine L_op (G_on rfl rfl rfl ?_)
    refine J_pur (p_gtr rfl rfl) rfl rfl rfl ?_
    refine L_pur rfl (p_pick_f rfl rfl) ?_
    refine L_nil ?_
    refine Q_then ?_
    refine C_dec rfl (fun h20 => ?_) (fun h20 => ?_)
    ·
      refine J_seq ?_
      refine J_region ?_
      refine L_pur rfl (p_move rfl) ?_
      refine L_pur rfl (p_assign rfl) ?_
      refine L_nil ?_
      refine Q_then ?_
      refine J_ret ?_
      refine Q_then_ret ?_
      exact J_return (()) Try.results4 (.tmp rfl .nil) rfl (by repeat (first | exact Sub.nil | exact Sub.refl | refine Sub.cons (by repeat (first | exact Pick.here | apply Pick.there)) ?_ | refine Sub.drop ?_))
    ·
      refine J_skip ?_
      refine Q_then ?_
      refine J_seq ?_
      refine J_region ?_
      refine L_pur rfl (p_move rfl) ?_
      refine L_pur rfl (bld28 (.cons rfl .nil) (by repeat constructor)) ?_
      refine L_op (x_box rfl rfl rfl fun b24 => ?_)
      refine J_sShut (lo := 0) (k := 0) (by omega) ?_
      refine L_op (x_call Try.func24 nm24 bd24 (.cons rfl (.cons rfl .nil)) rfl (entries (zs := zs) (by repeat (first | with_reducible exact Pick.here | with_reducible assumption | with_reducible apply Pick.there)) (fun w H => hz.old (by repeat (first | with_reducible exact Has.here | with_reducible assumption | with_reducible apply Has.there)) H) (by omega)) fun ve => ?_)
      refine J_esOpen fun es hes => ?_
      refine J_row .here fun hwe ae ce hve hle hme hze => ?_
      subst hve
      have hmle : (es.map encS).length = es.length := List.length_map _
      obtain ⟨rs, hrs⟩ : ∃ rs, rs = plan (9) (100) gs es es.length := ⟨_, rfl⟩
      have hrl : rs.length ≤ 20 := by have := plan_len (ring := 9) (seq := 100) (gs := gs) (es := es) es.length (Nat.le_refl _); rw [hrs]; omega
      have hmlr : (rs.map encQ).length = rs.length := List.length_map _
      refine L_pur rfl (p_assign rfl) ?_
      refine L_nil ?_
      refine Q_then ?_
      refine J_seq ?_
      refine J_region ?_
      refine L_pur rfl (p_move rfl) ?_
      refine L_pur rfl (p_move rfl) ?_
      refine L_op (x_call Try.func25 nm25 bd25 (.cons rfl (.cons rfl (.cons rfl (.cons rfl .nil)))) rfl (planC (gs := gs) (es := es) (fun w H => hr.old (by repeat (first | with_reducible exact Has.here | with_reducible assumption | with_reducible apply Has.there)) H) (fun w H => sep_reads (xs := es.map encS) (by repeat (first | with_reducible exact Has.here | with_reducible assumption | with_reducible apply Has.there)) H) (by omega) (by omega) (by omega)) fun v28 => ?_)
      refine J_rowEq (ys := rs.map encQ) (by rw [hrs]) ?_
      refine J_row .here fun hw28 a28 c28 hv28 hl28 hm28 hz28 => ?_
      subst hv28
      refine L_pur rfl (p_assign rfl) ?_
      refine L_nil ?_
      refine Q_then ?_
      refine J_seq ?_
      refine J_region ?_
      refine L_pur rfl (p_assign rfl) ?_
      refine L_nil ?_
      refine Q_then ?_
      refine J_seq ?_
      refine J_seq ?_
      refine J_region ?_
      refine L_pur rfl (p_assign rfl) ?_
      refine L_nil ?_
      refine Q_then ?_
      refine J_block ?_
      refine J_loop (α := Nat) (fun k => k ≤ es.length) (fun k => row 39 8 (.slice ae (es.map encS).length ce) (es.map encS) :: row 41 13 (.slice a28 (rs.map encQ).length c28) (rs.map encQ) :: [old W]) (fun k => [(9, .int .i64 (k : Int)), (8, .int .i64 (((plan 9 100 gs es k).length : Nat) : Int)), (6, .slice ae (es.map encS).length ce), (7, .slice a28 (rs.map encQ).length c28), (5, .bool true), (1, .slice a (gs.map fun b => [Value.bool b]).length cap)]) (fun k => es.length - k) 0 (by omega) (by repeat (first | exact Sub.nil | exact Sub.refl | refine Sub.cons (by repeat (first | exact Pick.here | apply Pick.there)) ?_ | refine Sub.drop ?_)) (by repeat (first | exact Keep.nil | refine Keep.cons rfl ?_)) ?_
      intro k hk
      have hpl := plan_len (ring := 9) (seq := 100) (gs := gs) (es := es) k hk
      refine J_seq ?_
      refine J_seq ?_
      refine J_region ?_
      refine L_pur rfl (p_move rfl) ?_
      refine L_pur rfl (p_move rfl) ?_
      refine L_pur rfl (p_len rfl Try.underlying29) ?_
      refine L_pur rfl (p_lss rfl rfl) ?_
      refine L_nil ?_
      refine Q_then ?_
      refine C_dec rfl (fun h32 => ?_) (fun h32 => ?_)
      ·
        have hlt : k < es.length := by omega
        obtain ⟨be, oe, rfl⟩ := hze (by intro h; rw [h] at hmle; simp at hmle; omega)
        obtain ⟨c, hcc⟩ : ∃ c, es[k]? = some c := ⟨_, List.getElem?_eq_getElem hlt⟩
        refine J_skip ?_
        refine Q_then ?_
        refine J_seq ?_
        refine J_block ?_
        refine J_seq ?_
        refine J_seq ?_
        refine J_region ?_
        refine L_pur rfl (p_move rfl) ?_
        refine L_pur rfl (p_move rfl) ?_
        refine L_pur rfl (p_len rfl Try.underlying22) ?_
        refine L_pur rfl (p_lss rfl rfl) ?_
        refine L_pur rfl (p_move rfl) ?_
        refine J_gsplit (t := 39) rfl (fun h39 => ?_) (fun h39 => ?_)
        ·
          have hlg : k < gs.length := by simp at h39; omega
          obtain ⟨bg, og, rfl⟩ := h3 (by intro h; rw [h] at hml; simp at hml; omega)
          obtain ⟨g, hgg⟩ : ∃ g, gs[k]? = some g := ⟨_, List.getElem?_eq_getElem hlg⟩
          refine L_op (G_on rfl rfl rfl ?_)
          refine J_pur (p_move rfl) rfl rfl rfl ?_
          refine L_op (G_on rfl rfl rfl ?_)
          refine J_pur (p_move rfl) rfl rfl rfl ?_
          refine L_op (G_on rfl rfl rfl ?_)
          refine J_pur (p_indexAddr rfl rfl Try.underlying22 ty4 (by omega) (by simp at h39 ⊢; omega)) rfl rfl rfl ?_
          refine L_op (G_on rfl rfl rfl ?_)
          refine J_val (v_loadR1 rfl ty4 (fun w H => hr.old (by repeat (first | with_reducible exact Has.here | with_reducible assumption | with_reducible apply Has.there)) H) (by simp only [Int.toNat_natCast, List.getElem?_map, hgg]; rfl)) rfl rfl rfl ?_
          refine L_op (G_on rfl rfl rfl ?_)
          refine J_pur (p_not rfl) rfl rfl rfl ?_
          refine L_pur rfl (p_pick_t rfl rfl) ?_
          refine L_nil ?_
          refine Q_then ?_
          refine C_split rfl (fun h45 => ?_) (fun h45 => ?_)
          ·
            have hri : rightAt gs k = false := by simp at h45; simp [rightAt, List.getD, hgg, h45]
            refine J_exit ?_
            refine Q_then_exit ?_
            refine Q_blk_this ?_
            refine Q_then ?_
            refine J_region ?_
            refine L_pur rfl (p_move rfl) ?_
            refine L_pur rfl (p_add64 rfl rfl (by omega)) ?_
            refine L_pur rfl (p_assign rfl) ?_
            refine L_nil ?_
            refine Q_then ?_
            refine J_slot (t := 8) (v := .int .i64 (((plan 9 100 gs es (k + 1)).length : Nat) : Int)) rfl (by rw [plan_succ hcc]; simp [hri]) ?_
            exact J_again (k + 1) (by omega) (by omega) (by repeat (first | exact Sub.nil | exact Sub.refl | refine Sub.cons (by repeat (first | exact Pick.here | apply Pick.there)) ?_ | refine Sub.drop ?_)) (by repeat (first | exact Keep.nil | refine Keep.cons rfl ?_))
          ·
            have hri : rightAt gs k = true := by simp at h45; simp [rightAt, List.getD, hgg, h45]
            have hgt := plan_get (ring := 9) (seq := 100) hcc hri
            rw [← hrs] at hgt
            have hgl := (List.getElem?_eq_some_iff.1 hgt).1
            obtain ⟨b28, o28, rfl⟩ := hz28 (by intro h; rw [h] at hmlr; simp at hmlr; omega)
            obtain ⟨q, hq⟩ : ∃ q, q = reqAt 9 100 gs es k c := ⟨_, rfl⟩
            rw [← hq] at hgt
            have hq1 : q.1 = (9, 100 + (k : Int)) := by rw [hq]; rfl
            have hq2 : q.2.1 = c := by rw [hq]; rfl
            have hq3 : q.2.2.1 = prevOf 100 gs es k := by rw [hq]; rfl
            have hq4 : q.2.2.2.1 = softOf gs es k := by rw [hq]; rfl
            have hq5 : q.2.2.2.2 = false := by rw [hq]; rfl
            have hcd := hgt
            refine J_skip ?_
            refine Q_then ?_
            refine J_seq ?_
            refine J_seq ?_
            refine J_drawS mixed (by kernel_rfl) ?_
            refine S_val rfl (Pur.vl (p_move rfl)) ?_
            refine S_val rfl (Pur.vl (p_move rfl)) ?_
            refine S_val rfl (Pur.vl (p_len rfl Try.underlying31)) ?_
            refine S_val rfl (Pur.vl (p_geq rfl rfl)) ?_
            refine S_val rfl (Pur.vl (p_move rfl)) ?_
            refine J_bool (t := 50) (c := false) rfl (by simp; omega) ?_
            refine S_on rfl rfl rfl rfl (Pur.vl (p_move rfl)) ?_
            refine S_on rfl rfl rfl rfl (Pur.vl (p_move rfl)) ?_
            refine S_on rfl rfl rfl rfl (Pur.vl (p_indexAddr rfl rfl Try.underlying31 ty41 (by omega) (by omega))) ?_
            refine S_on rfl rfl rfl rfl (Pur.vl (p_fieldAddr rfl fa41_0)) ?_
            refine S_on rfl rfl rfl rfl (by first | exact v_loadFA rfl ty36 (by repeat (first | with_reducible exact Has.here | with_reducible assumption | with_reducible apply Has.there)) (by first | (simp only [Int.toNat_natCast, List.getElem?_map, hcc]; rfl) | (simp only [Int.toNat_natCast, List.getElem?_map, hcd]; rfl) | simp | rfl) (by first | exact Cut.full rfl | ((repeat constructor); done) | exact Cut.full (by first | rfl | simp [*])) | exact v_loadRFA rfl ty36 (fun w H => hr.old (by repeat (first | with_reducible exact Has.here | with_reducible assumption | with_reducible apply Has.there)) H) (by first | (simp only [Int.toNat_natCast, List.getElem?_map, hcc]; rfl) | (simp only [Int.toNat_natCast, List.getElem?_map, hcd]; rfl) | simp | rfl) (by first | exact Cut.full rfl | ((repeat constructor); done) | exact Cut.full (by first | rfl | simp [*]))) ?_
            refine S_on rfl rfl rfl rfl (Pur.vl (p_move rfl)) ?_
            refine S_on rfl rfl rfl rfl (Pur.vl (p_add64 rfl rfl (by omega))) ?_
            refine S_on rfl rfl rfl rfl (Pur.vl (bld36 (.cons rfl (.cons rfl .nil)) (by repeat constructor))) ?_
            refine S_on rfl rfl rfl rfl (Pur.vl (p_nev rfl rfl (fun w => eg36 _ _ _ _ _ w) (fun w => nev36 _ _ _ _ w))) ?_
            refine S_val rfl (Pur.vl (p_pick_f rfl rfl)) ?_
            refine S_val rfl (Pur.vl (p_move rfl)) ?_
            refine J_bool (t := 61) (c := false) rfl (by simp [hq1]) ?_
            refine S_on rfl rfl rfl rfl (Pur.vl (p_move rfl)) ?_
            refine S_on rfl rfl rfl rfl (Pur.vl (p_move rfl)) ?_
            refine S_on rfl rfl rfl rfl (Pur.vl (p_indexAddr rfl rfl Try.underlying31 ty41 (by omega) (by omega))) ?_
            refine S_on rfl rfl rfl rfl (Pur.vl (p_fieldAddr rfl fa41_1)) ?_
            refine S_on rfl rfl rfl rfl (by first | exact v_loadFA rfl ty39 (by repeat (first | with_reducible exact Has.here | with_reducible assumption | with_reducible apply Has.there)) (by first | (simp only [Int.toNat_natCast, List.getElem?_map, hcc]; rfl) | (simp only [Int.toNat_natCast, List.getElem?_map, hcd]; rfl) | simp | rfl) (by first | exact Cut.full rfl | ((repeat constructor); done) | exact Cut.full (by first | rfl | simp [*])) | exact v_loadRFA rfl ty39 (fun w H => hr.old (by repeat (first | with_reducible exact Has.here | with_reducible assumption | with_reducible apply Has.there)) H) (by first | (simp only [Int.toNat_natCast, List.getElem?_map, hcc]; rfl) | (simp only [Int.toNat_natCast, List.getElem?_map, hcd]; rfl) | simp | rfl) (by first | exact Cut.full rfl | ((repeat constructor); done) | exact Cut.full (by first | rfl | simp [*]))) ?_
            refine S_on rfl rfl rfl rfl (Pur.vl (p_move rfl)) ?_
            refine S_on rfl rfl rfl rfl (Pur.vl (p_move rfl)) ?_
            refine S_on rfl rfl rfl rfl (Pur.vl (p_indexAddr rfl rfl Try.underlying29 ty39 (by omega) (by omega))) ?_
            refine S_on rfl rfl rfl rfl (by first | exact v_loadE rfl ty39 (by repeat (first | with_reducible exact Has.here | with_reducible assumption | with_reducible apply Has.there)) (by first | (simp only [Int.toNat_natCast, List.getElem?_map, hcc]; rfl) | (simp only [Int.toNat_natCast, List.getElem?_map, hcd]; rfl) | simp | rfl) | exact v_loadR rfl ty39 (fun w H => hr.old (by repeat (first | with_reducible exact Has.here | with_reducible assumption | with_reducible apply Has.there)) H) (by first | (simp only [Int.toNat_natCast, List.getElem?_map, hcc]; rfl) | (simp only [Int.toNat_natCast, List.getElem?_map, hcd]; rfl) | simp | rfl)) ?_
            refine S_on rfl rfl rfl rfl (Pur.vl (p_nev rfl rfl (fun w => eg39 _ _ _ _ _ w) (fun w => nev39 _ _ _ _ _ _ _ _ _ _ _ _ _ _ _ _ w))) ?_
            refine S_val rfl (Pur.vl (p_pick_f rfl rfl)) ?_
            refine S_val rfl (Pur.vl (p_move rfl)) ?_
            refine J_bool (t := 73) (c := false) rfl (by simp [hq2]) ?_
            refine S_on rfl rfl rfl rfl (Pur.vl (p_move rfl)) ?_
            refine S_on rfl rfl rfl rfl (Pur.vl (p_move rfl)) ?_
            refine S_on rfl rfl rfl rfl (Pur.vl (p_indexAddr rfl rfl Try.underlying31 ty41 (by omega) (by omega))) ?_
            refine S_on rfl rfl rfl rfl (Pur.vl (p_fieldAddr rfl fa41_4)) ?_
            refine S_on rfl rfl rfl rfl (by first | exact v_loadF rfl ty4 (by repeat (first | with_reducible exact Has.here | with_reducible assumption | with_reducible apply Has.there)) (by first | (simp only [Int.toNat_natCast, List.getElem?_map, hcc]; rfl) | (simp only [Int.toNat_natCast, List.getElem?_map, hcd]; rfl) | simp | rfl) (by exact rfl) | exact v_loadRF rfl ty4 (fun w H => hr.old (by repeat (first | with_reducible exact Has.here | with_reducible assumption | with_reducible apply Has.there)) H) (by first | (simp only [Int.toNat_natCast, List.getElem?_map, hcc]; rfl) | (simp only [Int.toNat_natCast, List.getElem?_map, hcd]; rfl) | simp | rfl) (by exact rfl)) ?_
            refine S_val rfl (Pur.vl (p_pick_f rfl rfl)) ?_
            refine S_val rfl (Pur.vl (p_move rfl)) ?_
            refine J_bool (t := 80) (c := false) rfl (by simp [hq5]) ?_
            refine S_on rfl rfl rfl rfl (Pur.vl (p_move rfl)) ?_
            refine S_on rfl rfl rfl rfl (Pur.vl (p_move rfl)) ?_
            refine S_on rfl rfl rfl rfl (Pur.vl (p_indexAddr rfl rfl Try.underlying31 ty41 (by omega) (by omega))) ?_
            refine S_on rfl rfl rfl rfl (Pur.vl (p_fieldAddr rfl fa41_2)) ?_
            refine S_on rfl rfl rfl rfl (by first | exact v_loadF rfl ty3 (by repeat (first | with_reducible exact Has.here | with_reducible assumption | with_reducible apply Has.there)) (by first | (simp only [Int.toNat_natCast, List.getElem?_map, hcc]; rfl) | (simp only [Int.toNat_natCast, List.getElem?_map, hcd]; rfl) | simp | rfl) (by exact rfl) | exact v_loadRF rfl ty3 (fun w H => hr.old (by repeat (first | with_reducible exact Has.here | with_reducible assumption | with_reducible apply Has.there)) H) (by first | (simp only [Int.toNat_natCast, List.getElem?_map, hcc]; rfl) | (simp only [Int.toNat_natCast, List.getElem?_map, hcd]; rfl) | simp | rfl) (by exact rfl)) ?_
            refine S_on rfl rfl rfl rfl (Pur.vl (p_neq rfl rfl)) ?_
            refine S_on rfl rfl rfl rfl (Pur.vl (p_move rfl)) ?_
            refine J_gsplit (t := 87) rfl (fun h87 => ?_) (fun h87 => ?_)
            ·
              refine S_on rfl rfl rfl rfl (Pur.vl (p_move rfl)) ?_
              refine S_on rfl rfl rfl rfl (Pur.vl (p_move rfl)) ?_
              refine S_on rfl rfl rfl rfl (Pur.vl (p_indexAddr rfl rfl Try.underlying31 ty41 (by omega) (by omega))) ?_
              refine S_on rfl rfl rfl rfl (Pur.vl (p_fieldAddr rfl fa41_2)) ?_
              refine S_on rfl rfl rfl rfl (by first | exact v_loadF rfl ty3 (by repeat (first | with_reducible exact Has.here | with_reducible assumption | with_reducible apply Has.there)) (by first | (simp only [Int.toNat_natCast, List.getElem?_map, hcc]; rfl) | (simp only [Int.toNat_natCast, List.getElem?_map, hcd]; rfl) | simp | rfl) (by exact rfl) | exact v_loadRF rfl ty3 (fun w H => hr.old (by repeat (first | with_reducible exact Has.here | with_reducible assumption | with_reducible apply Has.there)) H) (by first | (simp only [Int.toNat_natCast, List.getElem?_map, hcc]; rfl) | (simp only [Int.toNat_natCast, List.getElem?_map, hcd]; rfl) | simp | rfl) (by exact rfl)) ?_
              refine S_on rfl rfl rfl rfl (Pur.vl (p_move rfl)) ?_
              refine S_on rfl rfl rfl rfl (Pur.vl (p_add64 rfl rfl (by omega))) ?_
              refine S_on rfl rfl rfl rfl (Pur.vl (p_neq rfl rfl)) ?_
              refine S_on rfl rfl rfl rfl (Pur.vl (p_pick_t rfl rfl)) ?_
              refine S_val rfl (Pur.vl (p_pick_f rfl rfl)) ?_
              refine S_val rfl (Pur.vl (p_move rfl)) ?_
              refine J_bool (t := 98) (c := false) rfl (by first | rfl | (have := prev_is (gs := gs) (es := es) (seq := 100) (k := (k : Int)); simp [hq3] at h87 ⊢; omega)) ?_
              refine S_on rfl rfl rfl rfl (Pur.vl (p_move rfl)) ?_
              refine S_on rfl rfl rfl rfl (Pur.vl (p_move rfl)) ?_
              refine S_on rfl rfl rfl rfl (Pur.vl (p_indexAddr rfl rfl Try.underlying31 ty41 (by omega) (by omega))) ?_
              refine S_on rfl rfl rfl rfl (Pur.vl (p_fieldAddr rfl fa41_2)) ?_
              refine S_on rfl rfl rfl rfl (by first | exact v_loadF rfl ty3 (by repeat (first | with_reducible exact Has.here | with_reducible assumption | with_reducible apply Has.there)) (by first | (simp only [Int.toNat_natCast, List.getElem?_map, hcc]; rfl) | (simp only [Int.toNat_natCast, List.getElem?_map, hcd]; rfl) | simp | rfl) (by exact rfl) | exact v_loadRF rfl ty3 (fun w H => hr.old (by repeat (first | with_reducible exact Has.here | with_reducible assumption | with_reducible apply Has.there)) H) (by first | (simp only [Int.toNat_natCast, List.getElem?_map, hcc]; rfl) | (simp only [Int.toNat_natCast, List.getElem?_map, hcd]; rfl) | simp | rfl) (by exact rfl)) ?_
              refine S_on rfl rfl rfl rfl (Pur.vl (p_eql rfl rfl)) ?_
              refine S_on rfl rfl rfl rfl (Pur.vl (p_move rfl)) ?_
              refine J_gsplit (t := 105) rfl (fun h105 => ?_) (fun h105 => ?_)
              ·
                have hsf : q.2.2.2.1 = false := by rw [hq4]; exact soft_of_prev (seq := 100) (by omega) (by omega) (by simpa [hq3] using h105)
                refine S_on rfl rfl rfl rfl (Pur.vl (p_move rfl)) ?_
                refine S_on rfl rfl rfl rfl (Pur.vl (p_move rfl)) ?_
                refine S_on rfl rfl rfl rfl (Pur.vl (p_indexAddr rfl rfl Try.underlying31 ty41 (by omega) (by omega))) ?_
                refine S_on rfl rfl rfl rfl (Pur.vl (p_fieldAddr rfl fa41_3)) ?_
                refine S_on rfl rfl rfl rfl (by first | exact v_loadF rfl ty4 (by repeat (first | with_reducible exact Has.here | with_reducible assumption | with_reducible apply Has.there)) (by first | (simp only [Int.toNat_natCast, List.getElem?_map, hcc]; rfl) | (simp only [Int.toNat_natCast, List.getElem?_map, hcd]; rfl) | simp | rfl) (by exact rfl) | exact v_loadRF rfl ty4 (fun w H => hr.old (by repeat (first | with_reducible exact Has.here | with_reducible assumption | with_reducible apply Has.there)) H) (by first | (simp only [Int.toNat_natCast, List.getElem?_map, hcc]; rfl) | (simp only [Int.toNat_natCast, List.getElem?_map, hcd]; rfl) | simp | rfl) (by exact rfl)) ?_
                refine S_on rfl rfl rfl rfl (Pur.vl (p_pick_t rfl rfl)) ?_
                refine S_val rfl (Pur.vl (p_pick_f rfl rfl)) ?_
                refine S_nil ?_
                refine Q_then ?_
                refine J_bool (t := 112) (c := false) rfl (by first | rfl | simp [hsf]) ?_
                refine C_false rfl ?_
                refine J_skip ?_
                refine Q_then ?_
                refine J_region ?_
                refine L_pur rfl (p_move rfl) ?_
                refine L_pur rfl (p_add64 rfl rfl (by omega)) ?_
                refine L_pur rfl (p_assign rfl) ?_
                refine L_nil ?_
                refine Q_blk_normal ?_
                refine Q_then ?_
                refine J_region ?_
                refine L_pur rfl (p_move rfl) ?_
                refine L_pur rfl (p_add64 rfl rfl (by omega)) ?_
                refine L_pur rfl (p_assign rfl) ?_
                refine L_nil ?_
                refine Q_then ?_
                refine J_slot (t := 8) (v := .int .i64 (((plan 9 100 gs es (k + 1)).length : Nat) : Int)) rfl (by rw [plan_succ hcc]; simp [hri]) ?_
                exact J_again (k + 1) (by omega) (by omega) (by repeat (first | exact Sub.nil | exact Sub.refl | refine Sub.cons (by repeat (first | exact Pick.here | apply Pick.there)) ?_ | refine Sub.drop ?_)) (by repeat (first | exact Keep.nil | refine Keep.cons rfl ?_))
              ·
                refine S_off rfl rfl rfl rfl rfl ?_
                refine S_off rfl rfl rfl rfl rfl ?_
                refine S_off rfl rfl rfl rfl rfl ?_
                refine S_off rfl rfl rfl rfl rfl ?_
                refine S_off rfl rfl rfl rfl rfl ?_
                refine S_on rfl rfl rfl rfl (Pur.vl (p_pick_f rfl rfl)) ?_
                refine S_val rfl (Pur.vl (p_pick_f rfl rfl)) ?_
                refine S_nil ?_
                refine Q_then ?_
                refine C_false rfl ?_
                refine J_skip ?_
                refine Q_then ?_
                refine J_region ?_
                refine L_pur rfl (p_move rfl) ?_
                refine L_pur rfl (p_add64 rfl rfl (by omega)) ?_
                refine L_pur rfl (p_assign rfl) ?_
                refine L_nil ?_
                refine Q_blk_normal ?_
                refine Q_then ?_
                refine J_region ?_
                refine L_pur rfl (p_move rfl) ?_
                refine L_pur rfl (p_add64 rfl rfl (by omega)) ?_
                refine L_pur rfl (p_assign rfl) ?_
                refine L_nil ?_
                refine Q_then ?_
                refine J_slot (t := 8) (v := .int .i64 (((plan 9 100 gs es (k + 1)).length : Nat) : Int)) rfl (by rw [plan_succ hcc]; simp [hri]) ?_
                exact J_again (k + 1) (by omega) (by omega) (by repeat (first | exact Sub.nil | exact Sub.refl | refine Sub.cons (by repeat (first | exact Pick.here | apply Pick.there)) ?_ | refine Sub.drop ?_)) (by repeat (first | exact Keep.nil | refine Keep.cons rfl ?_))
            ·
              refine S_off rfl rfl rfl rfl rfl ?_
              refine S_off rfl rfl rfl rfl rfl ?_
              refine S_off rfl rfl rfl rfl rfl ?_
              refine S_off rfl rfl rfl rfl rfl ?_
              refine S_off rfl rfl rfl rfl rfl ?_
              refine S_off rfl rfl rfl rfl rfl ?_
              refine S_off rfl rfl rfl rfl rfl ?_
              refine S_off rfl rfl rfl rfl rfl ?_
              refine S_on rfl rfl rfl rfl (Pur.vl (p_pick_f rfl rfl)) ?_
              refine S_val rfl (Pur.vl (p_pick_f rfl rfl)) ?_
              refine S_val rfl (Pur.vl (p_move rfl)) ?_
              refine S_on rfl rfl rfl rfl (Pur.vl (p_move rfl)) ?_
              refine S_on rfl rfl rfl rfl (Pur.vl (p_move rfl)) ?_
              refine S_on rfl rfl rfl rfl (Pur.vl (p_indexAddr rfl rfl Try.underlying31 ty41 (by omega) (by omega))) ?_
              refine S_on rfl rfl rfl rfl (Pur.vl (p_fieldAddr rfl fa41_2)) ?_
              refine S_on rfl rfl rfl rfl (by first | exact v_loadF rfl ty3 (by repeat (first | with_reducible exact Has.here | with_reducible assumption | with_reducible apply Has.there)) (by first | (simp only [Int.toNat_natCast, List.getElem?_map, hcc]; rfl) | (simp only [Int.toNat_natCast, List.getElem?_map, hcd]; rfl) | simp | rfl) (by exact rfl) | exact v_loadRF rfl ty3 (fun w H => hr.old (by repeat (first | with_reducible exact Has.here | with_reducible assumption | with_reducible apply Has.there)) H) (by first | (simp only [Int.toNat_natCast, List.getElem?_map, hcc]; rfl) | (simp only [Int.toNat_natCast, List.getElem?_map, hcd]; rfl) | simp | rfl) (by exact rfl)) ?_
              refine S_on rfl rfl rfl rfl (Pur.vl (p_eql rfl rfl)) ?_
              refine S_on rfl rfl rfl rfl (Pur.vl (p_move rfl)) ?_
              refine J_gsplit (t := 105) rfl (fun h105 => ?_) (fun h105 => ?_)
              ·
                have hsf : q.2.2.2.1 = false := by rw [hq4]; exact soft_of_prev (seq := 100) (by omega) (by omega) (by simpa [hq3] using h105)
                refine S_on rfl rfl rfl rfl (Pur.vl (p_move rfl)) ?_
                refine S_on rfl rfl rfl rfl (Pur.vl (p_move rfl)) ?_
                refine S_on rfl rfl rfl rfl (Pur.vl (p_indexAddr rfl rfl Try.underlying31 ty41 (by omega) (by omega))) ?_
                refine S_on rfl rfl rfl rfl (Pur.vl (p_fieldAddr rfl fa41_3)) ?_
                refine S_on rfl rfl rfl rfl (by first | exact v_loadF rfl ty4 (by repeat (first | with_reducible exact Has.here | with_reducible assumption | with_reducible apply Has.there)) (by first | (simp only [Int.toNat_natCast, List.getElem?_map, hcc]; rfl) | (simp only [Int.toNat_natCast, List.getElem?_map, hcd]; rfl) | simp | rfl) (by exact rfl) | exact v_loadRF rfl ty4 (fun w H => hr.old (by repeat (first | with_reducible exact Has.here | with_reducible assumption | with_reducible apply Has.there)) H) (by first | (simp only [Int.toNat_natCast, List.getElem?_map, hcc]; rfl) | (simp only [Int.toNat_natCast, List.getElem?_map, hcd]; rfl) | simp | rfl) (by exact rfl)) ?_
                refine S_on rfl rfl rfl rfl (Pur.vl (p_pick_t rfl rfl)) ?_
                refine S_val rfl (Pur.vl (p_pick_f rfl rfl)) ?_
                refine S_nil ?_
                refine Q_then ?_
                refine J_bool (t := 112) (c := false) rfl (by first | rfl | simp [hsf]) ?_
                refine C_false rfl ?_
                refine J_skip ?_
                refine Q_then ?_
                refine J_region ?_
                refine L_pur rfl (p_move rfl) ?_
                refine L_pur rfl (p_add64 rfl rfl (by omega)) ?_
                refine L_pur rfl (p_assign rfl) ?_
                refine L_nil ?_
                refine Q_blk_normal ?_
                refine Q_then ?_
                refine J_region ?_
                refine L_pur rfl (p_move rfl) ?_
                refine L_pur rfl (p_add64 rfl rfl (by omega)) ?_
                refine L_pur rfl (p_assign rfl) ?_
                refine L_nil ?_
                refine Q_then ?_
                refine J_slot (t := 8) (v := .int .i64 (((plan 9 100 gs es (k + 1)).length : Nat) : Int)) rfl (by rw [plan_succ hcc]; simp [hri]) ?_
                exact J_again (k + 1) (by omega) (by omega) (by repeat (first | exact Sub.nil | exact Sub.refl | refine Sub.cons (by repeat (first | exact Pick.here | apply Pick.there)) ?_ | refine Sub.drop ?_)) (by repeat (first | exact Keep.nil | refine Keep.cons rfl ?_))
              ·
                refine S_off rfl rfl rfl rfl rfl ?_
                refine S_off rfl rfl rfl rfl rfl ?_
                refine S_off rfl rfl rfl rfl rfl ?_
                refine S_off rfl rfl rfl rfl rfl ?_
                refine S_off rfl rfl rfl rfl rfl ?_
                refine S_on rfl rfl rfl rfl (Pur.vl (p_pick_f rfl rfl)) ?_
                refine S_val rfl (Pur.vl (p_pick_f rfl rfl)) ?_
                refine S_nil ?_
                refine Q_then ?_
                refine C_false rfl ?_
                refine J_skip ?_
                refine Q_then ?_
                refine J_region ?_
                refine L_pur rfl (p_move rfl) ?_
                refine L_pur rfl (p_add64 rfl rfl (by omega)) ?_
                refine L_pur rfl (p_assign rfl) ?_
                refine L_nil ?_
                refine Q_blk_normal ?_
                refine Q_then ?_
                refine J_region ?_
                refine L_pur rfl (p_move rfl) ?_
                refine L_pur rfl (p_add64 rfl rfl (by omega)) ?_
                refine L_pur rfl (p_assign rfl) ?_
                refine L_nil ?_
                refine Q_then ?_
                refine J_slot (t := 8) (v := .int .i64 (((plan 9 100 gs es (k + 1)).length : Nat) : Int)) rfl (by rw [plan_succ hcc]; simp [hri]) ?_
                exact J_again (k + 1) (by omega) (by omega) (by repeat (first | exact Sub.nil | exact Sub.refl | refine Sub.cons (by repeat (first | exact Pick.here | apply Pick.there)) ?_ | refine Sub.drop ?_)) (by repeat (first | exact Keep.nil | refine Keep.cons rfl ?_))
        ·
          have hri : rightAt gs k = true := by
            simp at h39
            simp [rightAt, List.getD, List.getElem?_eq_none (l := gs) (i := k) (by omega)]
          have hgt := plan_get (ring := 9) (seq := 100) hcc hri
          rw [← hrs] at hgt
          have hgl := (List.getElem?_eq_some_iff.1 hgt).1
          obtain ⟨b28, o28, rfl⟩ := hz28 (by intro h; rw [h] at hmlr; simp at hmlr; omega)
          obtain ⟨q, hq⟩ : ∃ q, q = reqAt 9 100 gs es k c := ⟨_, rfl⟩
          rw [← hq] at hgt
          have hq1 : q.1 = (9, 100 + (k : Int)) := by rw [hq]; rfl
          have hq2 : q.2.1 = c := by rw [hq]; rfl
          have hq3 : q.2.2.1 = prevOf 100 gs es k := by rw [hq]; rfl
          have hq4 : q.2.2.2.1 = softOf gs es k := by rw [hq]; rfl
          have hq5 : q.2.2.2.2 = false := by rw [hq]; rfl
          have hcd := hgt
          refine L_op (G_off rfl rfl rfl rfl rfl rfl ?_)
          refine L_op (G_off rfl rfl rfl rfl rfl rfl ?_)
          refine L_op (G_off rfl rfl rfl rfl rfl rfl ?_)
          refine L_op (G_off rfl rfl rfl rfl rfl rfl ?_)
          refine L_op (G_off rfl rfl rfl rfl rfl rfl ?_)
          refine L_pur rfl (p_pick_f rfl rfl) ?_
          refine L_nil ?_
          refine Q_then ?_
          refine C_false rfl ?_
          refine J_skip ?_
          refine Q_then ?_
          refine J_seq ?_
          refine J_seq ?_
          refine J_drawS mixed (by kernel_rfl) ?_
          refine S_val rfl (Pur.vl (p_move rfl)) ?_
          refine S_val rfl (Pur.vl (p_move rfl)) ?_
          refine S_val rfl (Pur.vl (p_len rfl Try.underlying31)) ?_
          refine S_val rfl (Pur.vl (p_geq rfl rfl)) ?_
          refine S_val rfl (Pur.vl (p_move rfl)) ?_
          refine J_bool (t := 50) (c := false) rfl (by simp; omega) ?_
          refine S_on rfl rfl rfl rfl (Pur.vl (p_move rfl)) ?_
          refine S_on rfl rfl rfl rfl (Pur.vl (p_move rfl)) ?_
          refine S_on rfl rfl rfl rfl (Pur.vl (p_indexAddr rfl rfl Try.underlying31 ty41 (by omega) (by omega))) ?_
          refine S_on rfl rfl rfl rfl (Pur.vl (p_fieldAddr rfl fa41_0)) ?_
          refine S_on rfl rfl rfl rfl (by first | exact v_loadFA rfl ty36 (by repeat (first | with_reducible exact Has.here | with_reducible assumption | with_reducible apply Has.there)) (by first | (simp only [Int.toNat_natCast, List.getElem?_map, hcc]; rfl) | (simp only [Int.toNat_natCast, List.getElem?_map, hcd]; rfl) | simp | rfl) (by first | exact Cut.full rfl | ((repeat constructor); done) | exact Cut.full (by first | rfl | simp [*])) | exact v_loadRFA rfl ty36 (fun w H => hr.old (by repeat (first | with_reducible exact Has.here | with_reducible assumption | with_reducible apply Has.there)) H) (by first | (simp only [Int.toNat_natCast, List.getElem?_map, hcc]; rfl) | (simp only [Int.toNat_natCast, List.getElem?_map, hcd]; rfl) | simp | rfl) (by first | exact Cut.full rfl | ((repeat constructor); done) | exact Cut.full (by first | rfl | simp [*]))) ?_
          refine S_on rfl rfl rfl rfl (Pur.vl (p_move rfl)) ?_
          refine S_on rfl rfl rfl rfl (Pur.vl (p_add64 rfl rfl (by omega))) ?_
          refine S_on rfl rfl rfl rfl (Pur.vl (bld36 (.cons rfl (.cons rfl .nil)) (by repeat constructor))) ?_
          refine S_on rfl rfl rfl rfl (Pur.vl (p_nev rfl rfl (fun w => eg36 _ _ _ _ _ w) (fun w => nev36 _ _ _ _ w))) ?_
          refine S_val rfl (Pur.vl (p_pick_f rfl rfl)) ?_
          refine S_val rfl (Pur.vl (p_move rfl)) ?_
          refine J_bool (t := 61) (c := false) rfl (by simp [hq1]) ?_
          refine S_on rfl rfl rfl rfl (Pur.vl (p_move rfl)) ?_
          refine S_on rfl rfl rfl rfl (Pur.vl (p_move rfl)) ?_
          refine S_on rfl rfl rfl rfl (Pur.vl (p_indexAddr rfl rfl Try.underlying31 ty41 (by omega) (by omega))) ?_
          refine S_on rfl rfl rfl rfl (Pur.vl (p_fieldAddr rfl fa41_1)) ?_
          refine S_on rfl rfl rfl rfl (by first | exact v_loadFA rfl ty39 (by repeat (first | with_reducible exact Has.here | with_reducible assumption | with_reducible apply Has.there)) (by first | (simp only [Int.toNat_natCast, List.getElem?_map, hcc]; rfl) | (simp only [Int.toNat_natCast, List.getElem?_map, hcd]; rfl) | simp | rfl) (by first | exact Cut.full rfl | ((repeat constructor); done) | exact Cut.full (by first | rfl | simp [*])) | exact v_loadRFA rfl ty39 (fun w H => hr.old (by repeat (first | with_reducible exact Has.here | with_reducible assumption | with_reducible apply Has.there)) H) (by first | (simp only [Int.toNat_natCast, List.getElem?_map, hcc]; rfl) | (simp only [Int.toNat_natCast, List.getElem?_map, hcd]; rfl) | simp | rfl) (by first | exact Cut.full rfl | ((repeat constructor); done) | exact Cut.full (by first | rfl | simp [*]))) ?_
          refine S_on rfl rfl rfl rfl (Pur.vl (p_move rfl)) ?_
          refine S_on rfl rfl rfl rfl (Pur.vl (p_move rfl)) ?_
          refine S_on rfl rfl rfl rfl (Pur.vl (p_indexAddr rfl rfl Try.underlying29 ty39 (by omega) (by omega))) ?_
          refine S_on rfl rfl rfl rfl (by first | exact v_loadE rfl ty39 (by repeat (first | with_reducible exact Has.here | with_reducible assumption | with_reducible apply Has.there)) (by first | (simp only [Int.toNat_natCast, List.getElem?_map, hcc]; rfl) | (simp only [Int.toNat_natCast, List.getElem?_map, hcd]; rfl) | simp | rfl) | exact v_loadR rfl ty39 (fun w H => hr.old (by repeat (first | with_reducible exact Has.here | with_reducible assumption | with_reducible apply Has.there)) H) (by first | (simp only [Int.toNat_natCast, List.getElem?_map, hcc]; rfl) | (simp only [Int.toNat_natCast, List.getElem?_map, hcd]; rfl) | simp | rfl)) ?_
          refine S_on rfl rfl rfl rfl (Pur.vl (p_nev rfl rfl (fun w => eg39 _ _ _ _ _ w) (fun w => nev39 _ _ _ _ _ _ _ _ _ _ _ _ _ _ _ _ w))) ?_
          refine S_val rfl (Pur.vl (p_pick_f rfl rfl)) ?_
          refine S_val rfl (Pur.vl (p_move rfl)) ?_
          refine J_bool (t := 73) (c := false) rfl (by simp [hq2]) ?_
          refine S_on rfl rfl rfl rfl (Pur.vl (p_move rfl)) ?_
          refine S_on rfl rfl rfl rfl (Pur.vl (p_move rfl)) ?_
          refine S_on rfl rfl rfl rfl (Pur.vl (p_indexAddr rfl rfl Try.underlying31 ty41 (by omega) (by omega))) ?_
          refine S_on rfl rfl rfl rfl (Pur.vl (p_fieldAddr rfl fa41_4)) ?_
          refine S_on rfl rfl rfl rfl (by first | exact v_loadF rfl ty4 (by repeat (first | with_reducible exact Has.here | with_reducible assumption | with_reducible apply Has.there)) (by first | (simp only [Int.toNat_natCast, List.getElem?_map, hcc]; rfl) | (simp only [Int.toNat_natCast, List.getElem?_map, hcd]; rfl) | simp | rfl) (by exact rfl) | exact v_loadRF rfl ty4 (fun w H => hr.old (by repeat (first | with_reducible exact Has.here | with_reducible assumption | with_reducible apply Has.there)) H) (by first | (simp only [Int.toNat_natCast, List.getElem?_map, hcc]; rfl) | (simp only [Int.toNat_natCast, List.getElem?_map, hcd]; rfl) | simp | rfl) (by exact rfl)) ?_
          refine S_val rfl (Pur.vl (p_pick_f rfl rfl)) ?_
          refine S_val rfl (Pur.vl (p_move rfl)) ?_
          refine J_bool (t := 80) (c := false) rfl (by simp [hq5]) ?_
          refine S_on rfl rfl rfl rfl (Pur.vl (p_move rfl)) ?_
          refine S_on rfl rfl rfl rfl (Pur.vl (p_move rfl)) ?_
          refine S_on rfl rfl rfl rfl (Pur.vl (p_indexAddr rfl rfl Try.underlying31 ty41 (by omega) (by omega))) ?_
          refine S_on rfl rfl rfl rfl (Pur.vl (p_fieldAddr rfl fa41_2)) ?_
          refine S_on rfl rfl rfl rfl (by first | exact v_loadF rfl ty3 (by repeat (first | with_reducible exact Has.here | with_reducible assumption | with_reducible apply Has.there)) (by first | (simp only [Int.toNat_natCast, List.getElem?_map, hcc]; rfl) | (simp only [Int.toNat_natCast, List.getElem?_map, hcd]; rfl) | simp | rfl) (by exact rfl) | exact v_loadRF rfl ty3 (fun w H => hr.old (by repeat (first | with_reducible exact Has.here | with_reducible assumption | with_reducible apply Has.there)) H) (by first | (simp only [Int.toNat_natCast, List.getElem?_map, hcc]; rfl) | (simp only [Int.toNat_natCast, List.getElem?_map, hcd]; rfl) | simp | rfl) (by exact rfl)) ?_
          refine S_on rfl rfl rfl rfl (Pur.vl (p_neq rfl rfl)) ?_
          refine S_on rfl rfl rfl rfl (Pur.vl (p_move rfl)) ?_
          refine J_gsplit (t := 87) rfl (fun h87 => ?_) (fun h87 => ?_)
          ·
            refine S_on rfl rfl rfl rfl (Pur.vl (p_move rfl)) ?_
            refine S_on rfl rfl rfl rfl (Pur.vl (p_move rfl)) ?_
            refine S_on rfl rfl rfl rfl (Pur.vl (p_indexAddr rfl rfl Try.underlying31 ty41 (by omega) (by omega))) ?_
            refine S_on rfl rfl rfl rfl (Pur.vl (p_fieldAddr rfl fa41_2)) ?_
            refine S_on rfl rfl rfl rfl (by first | exact v_loadF rfl ty3 (by repeat (first | with_reducible exact Has.here | with_reducible assumption | with_reducible apply Has.there)) (by first | (simp only [Int.toNat_natCast, List.getElem?_map, hcc]; rfl) | (simp only [Int.toNat_natCast, List.getElem?_map, hcd]; rfl) | simp | rfl) (by exact rfl) | exact v_loadRF rfl ty3 (fun w H => hr.old (by repeat (first | with_reducible exact Has.here | with_reducible assumption | with_reducible apply Has.there)) H) (by first | (simp only [Int.toNat_natCast, List.getElem?_map, hcc]; rfl) | (simp only [Int.toNat_natCast, List.getElem?_map, hcd]; rfl) | simp | rfl) (by exact rfl)) ?_
            refine S_on rfl rfl rfl rfl (Pur.vl (p_move rfl)) ?_
            refine S_on rfl rfl rfl rfl (Pur.vl (p_add64 rfl rfl (by omega))) ?_
            refine S_on rfl rfl rfl rfl (Pur.vl (p_neq rfl rfl)) ?_
            refine S_on rfl rfl rfl rfl (Pur.vl (p_pick_t rfl rfl)) ?_
            refine S_val rfl (Pur.vl (p_pick_f rfl rfl)) ?_
            refine S_val rfl (Pur.vl (p_move rfl)) ?_
            refine J_bool (t := 98) (c := false) rfl (by first | rfl | (have := prev_is (gs := gs) (es := es) (seq := 100) (k := (k : Int)); simp [hq3] at h87 ⊢; omega)) ?_
            refine S_on rfl rfl rfl rfl (Pur.vl (p_move rfl)) ?_
            refine S_on rfl rfl rfl rfl (Pur.vl (p_move rfl)) ?_
            refine S_on rfl rfl rfl rfl (Pur.vl (p_indexAddr rfl rfl Try.underlying31 ty41 (by omega) (by omega))) ?_
            refine S_on rfl rfl rfl rfl (Pur.vl (p_fieldAddr rfl fa41_2)) ?_
            refine S_on rfl rfl rfl rfl (by first | exact v_loadF rfl ty3 (by repeat (first | with_reducible exact Has.here | with_reducible assumption | with_reducible apply Has.there)) (by first | (simp only [Int.toNat_natCast, List.getElem?_map, hcc]; rfl) | (simp only [Int.toNat_natCast, List.getElem?_map, hcd]; rfl) | simp | rfl) (by exact rfl) | exact v_loadRF rfl ty3 (fun w H => hr.old (by repeat (first | with_reducible exact Has.here | with_reducible assumption | with_reducible apply Has.there)) H) (by first | (simp only [Int.toNat_natCast, List.getElem?_map, hcc]; rfl) | (simp only [Int.toNat_natCast, List.getElem?_map, hcd]; rfl) | simp | rfl) (by exact rfl)) ?_
            refine S_on rfl rfl rfl rfl (Pur.vl (p_eql rfl rfl)) ?_
            refine S_on rfl rfl rfl rfl (Pur.vl (p_move rfl)) ?_
            refine J_gsplit (t := 105) rfl (fun h105 => ?_) (fun h105 => ?_)
            ·
              have hsf : q.2.2.2.1 = false := by rw [hq4]; exact soft_of_prev (seq := 100) (by omega) (by omega) (by simpa [hq3] using h105)
              refine S_on rfl rfl rfl rfl (Pur.vl (p_move rfl)) ?_
              refine S_on rfl rfl rfl rfl (Pur.vl (p_move rfl)) ?_
              refine S_on rfl rfl rfl rfl (Pur.vl (p_indexAddr rfl rfl Try.underlying31 ty41 (by omega) (by omega))) ?_
              refine S_on rfl rfl rfl rfl (Pur.vl (p_fieldAddr rfl fa41_3)) ?_
              refine S_on rfl rfl rfl rfl (by first | exact v_loadF rfl ty4 (by repeat (first | with_reducible exact Has.here | with_reducible assumption | with_reducible apply Has.there)) (by first | (simp only [Int.toNat_natCast, List.getElem?_map, hcc]; rfl) | (simp only [Int.toNat_natCast, List.getElem?_map, hcd]; rfl) | simp | rfl) (by exact rfl) | exact v_loadRF rfl ty4 (fun w H => hr.old (by repeat (first | with_reducible exact Has.here | with_reducible assumption | with_reducible apply Has.there)) H) (by first | (simp only [Int.toNat_natCast, List.getElem?_map, hcc]; rfl) | (simp only [Int.toNat_natCast, List.getElem?_map, hcd]; rfl) | simp | rfl) (by exact rfl)) ?_
              refine S_on rfl rfl rfl rfl (Pur.vl (p_pick_t rfl rfl)) ?_
              refine S_val rfl (Pur.vl (p_pick_f rfl rfl)) ?_
              refine S_nil ?_
              refine Q_then ?_
              refine J_bool (t := 112) (c := false) rfl (by first | rfl | simp [hsf]) ?_
              refine C_false rfl ?_
              refine J_skip ?_
              refine Q_then ?_
              refine J_region ?_
              refine L_pur rfl (p_move rfl) ?_
              refine L_pur rfl (p_add64 rfl rfl (by omega)) ?_
              refine L_pur rfl (p_assign rfl) ?_
              refine L_nil ?_
              refine Q_blk_normal ?_
              refine Q_then ?_
              refine J_region ?_
              refine L_pur rfl (p_move rfl) ?_
              refine L_pur rfl (p_add64 rfl rfl (by omega)) ?_
              refine L_pur rfl (p_assign rfl) ?_
              refine L_nil ?_
              refine Q_then ?_
              refine J_slot (t := 8) (v := .int .i64 (((plan 9 100 gs es (k + 1)).length : Nat) : Int)) rfl (by rw [plan_succ hcc]; simp [hri]) ?_
              exact J_again (k + 1) (by omega) (by omega) (by repeat (first | exact Sub.nil | exact Sub.refl | refine Sub.cons (by repeat (first | exact Pick.here | apply Pick.there)) ?_ | refine Sub.drop ?_)) (by repeat (first | exact Keep.nil | refine Keep.cons rfl ?_))
            ·
              refine S_off rfl rfl rfl rfl rfl ?_
              refine S_off rfl rfl rfl rfl rfl ?_
              refine S_off rfl rfl rfl rfl rfl ?_
              refine S_off rfl rfl rfl rfl rfl ?_
              refine S_off rfl rfl rfl rfl rfl ?_
              refine S_on rfl rfl rfl rfl (Pur.vl (p_pick_f rfl rfl)) ?_
              refine S_val rfl (Pur.vl (p_pick_f rfl rfl)) ?_
              refine S_nil ?_
              refine Q_then ?_
              refine C_false rfl ?_
              refine J_skip ?_
              refine Q_then ?_
              refine J_region ?_
              refine L_pur rfl (p_move rfl) ?_
              refine L_pur rfl (p_add64 rfl rfl (by omega)) ?_
              refine L_pur rfl (p_assign rfl) ?_
              refine L_nil ?_
              refine Q_blk_normal ?_
              refine Q_then ?_
              refine J_region ?_
              refine L_pur rfl (p_move rfl) ?_
              refine L_pur rfl (p_add64 rfl rfl (by omega)) ?_
              refine L_pur rfl (p_assign rfl) ?_
              refine L_nil ?_
              refine Q_then ?_
              refine J_slot (t := 8) (v := .int .i64 (((plan 9 100 gs es (k + 1)).length : Nat) : Int)) rfl (by rw [plan_succ hcc]; simp [hri]) ?_
              exact J_again (k + 1) (by omega) (by omega) (by repeat (first | exact Sub.nil | exact Sub.refl | refine Sub.cons (by repeat (first | exact Pick.here | apply Pick.there)) ?_ | refine Sub.drop ?_)) (by repeat (first | exact Keep.nil | refine Keep.cons rfl ?_))
          ·
            refine S_off rfl rfl rfl rfl rfl ?_
            refine S_off rfl rfl rfl rfl rfl ?_
            refine S_off rfl rfl rfl rfl rfl ?_
            refine S_off rfl rfl rfl rfl rfl ?_
            refine S_off rfl rfl rfl rfl rfl ?_
            refine S_off rfl rfl rfl rfl rfl ?_
            refine S_off rfl rfl rfl rfl rfl ?_
            refine S_off rfl rfl rfl rfl rfl ?_
            refine S_on rfl rfl rfl rfl (Pur.vl (p_pick_f rfl rfl)) ?_
            refine S_val rfl (Pur.vl (p_pick_f rfl rfl)) ?_
            refine S_val rfl (Pur.vl (p_move rfl)) ?_
            refine S_on rfl rfl rfl rfl (Pur.vl (p_move rfl)) ?_
            refine S_on rfl rfl rfl rfl (Pur.vl (p_move rfl)) ?_
            refine S_on rfl rfl rfl rfl (Pur.vl (p_indexAddr rfl rfl Try.underlying31 ty41 (by omega) (by omega))) ?_
            refine S_on rfl rfl rfl rfl (Pur.vl (p_fieldAddr rfl fa41_2)) ?_
            refine S_on rfl rfl rfl rfl (by first | exact v_loadF rfl ty3 (by repeat (first | with_reducible exact Has.here | with_reducible assumption | with_reducible apply Has.there)) (by first | (simp only [Int.toNat_natCast, List.getElem?_map, hcc]; rfl) | (simp only [Int.toNat_natCast, List.getElem?_map, hcd]; rfl) | simp | rfl) (by exact rfl) | exact v_loadRF rfl ty3 (fun w H => hr.old (by repeat (first | with_reducible exact Has.here | with_reducible assumption | with_reducible apply Has.there)) H) (by first | (simp only [Int.toNat_natCast, List.getElem?_map, hcc]; rfl) | (simp only [Int.toNat_natCast, List.getElem?_map, hcd]; rfl) | simp | rfl) (by exact rfl)) ?_
            refine S_on rfl rfl rfl rfl (Pur.vl (p_eql rfl rfl)) ?_
            refine S_on rfl rfl rfl rfl (Pur.vl (p_move rfl)) ?_
            refine J_gsplit (t := 105) rfl (fun h105 => ?_) (fun h105 => ?_)
            ·
              have hsf : q.2.2.2.1 = false := by rw [hq4]; exact soft_of_prev (seq := 100) (by omega) (by omega) (by simpa [hq3] using h105)
              refine S_on rfl rfl rfl rfl (Pur.vl (p_move rfl)) ?_
              refine S_on rfl rfl rfl rfl (Pur.vl (p_move rfl)) ?_
              refine S_on rfl rfl rfl rfl (Pur.vl (p_indexAddr rfl rfl Try.underlying31 ty41 (by omega) (by omega))) ?_
              refine S_on rfl rfl rfl rfl (Pur.vl (p_fieldAddr rfl fa41_3)) ?_
              refine S_on rfl rfl rfl rfl (by first | exact v_loadF rfl ty4 (by repeat (first | with_reducible exact Has.here | with_reducible assumption | with_reducible apply Has.there)) (by first | (simp only [Int.toNat_natCast, List.getElem?_map, hcc]; rfl) | (simp only [Int.toNat_natCast, List.getElem?_map, hcd]; rfl) | simp | rfl) (by exact rfl) | exact v_loadRF rfl ty4 (fun w H => hr.old (by repeat (first | with_reducible exact Has.here | with_reducible assumption | with_reducible apply Has.there)) H) (by first | (simp only [Int.toNat_natCast, List.getElem?_map, hcc]; rfl) | (simp only [Int.toNat_natCast, List.getElem?_map, hcd]; rfl) | simp | rfl) (by exact rfl)) ?_
              refine S_on rfl rfl rfl rfl (Pur.vl (p_pick_t rfl rfl)) ?_
              refine S_val rfl (Pur.vl (p_pick_f rfl rfl)) ?_
              refine S_nil ?_
              refine Q_then ?_
              refine J_bool (t := 112) (c := false) rfl (by first | rfl | simp [hsf]) ?_
              refine C_false rfl ?_
              refine J_skip ?_
              refine Q_then ?_
              refine J_region ?_
              refine L_pur rfl (p_move rfl) ?_
              refine L_pur rfl (p_add64 rfl rfl (by omega)) ?_
              refine L_pur rfl (p_assign rfl) ?_
              refine L_nil ?_
              refine Q_blk_normal ?_
              refine Q_then ?_
              refine J_region ?_
              refine L_pur rfl (p_move rfl) ?_
              refine L_pur rfl (p_add64 rfl rfl (by omega)) ?_
              refine L_pur rfl (p_assign rfl) ?_
              refine L_nil ?_
              refine Q_then ?_
              refine J_slot (t := 8) (v := .int .i64 (((plan 9 100 gs es (k + 1)).length : Nat) : Int)) rfl (by rw [plan_succ hcc]; simp [hri]) ?_
              exact J_again (k + 1) (by omega) (by omega) (by repeat (first | exact Sub.nil | exact Sub.refl | refine Sub.cons (by repeat (first | exact Pick.here | apply Pick.there)) ?_ | refine Sub.drop ?_)) (by repeat (first | exact Keep.nil | refine Keep.cons rfl ?_))
            ·
              refine S_off rfl rfl rfl rfl rfl ?_
              refine S_off rfl rfl rfl rfl rfl ?_
              refine S_off rfl rfl rfl rfl rfl ?_
              refine S_off rfl rfl rfl rfl rfl ?_
              refine S_off rfl rfl rfl rfl rfl ?_
              refine S_on rfl rfl rfl rfl (Pur.vl (p_pick_f rfl rfl)) ?_
              refine S_val rfl (Pur.vl (p_pick_f rfl rfl)) ?_
              refine S_nil ?_
              refine Q_then ?_
              refine C_false rfl ?_
              refine J_skip ?_
              refine Q_then ?_
              refine J_region ?_
              refine L_pur rfl (p_move rfl) ?_
              refine L_pur rfl (p_add64 rfl rfl (by omega)) ?_
              refine L_pur rfl (p_assign rfl) ?_
              refine L_nil ?_
              refine Q_blk_normal ?_
              refine Q_then ?_
              refine J_region ?_
              refine L_pur rfl (p_move rfl) ?_
              refine L_pur rfl (p_add64 rfl rfl (by omega)) ?_
              refine L_pur rfl (p_assign rfl) ?_
              refine L_nil ?_
              refine Q_then ?_
              refine J_slot (t := 8) (v := .int .i64 (((plan 9 100 gs es (k + 1)).length : Nat) : Int)) rfl (by rw [plan_succ hcc]; simp [hri]) ?_
              exact J_again (k + 1) (by omega) (by omega) (by repeat (first | exact Sub.nil | exact Sub.refl | refine Sub.cons (by repeat (first | exact Pick.here | apply Pick.there)) ?_ | refine Sub.drop ?_)) (by repeat (first | exact Keep.nil | refine Keep.cons rfl ?_))
      ·
        have hke : k = es.length := by omega
        subst hke
        have hhl := heads_len rs
        have hhd := plan_heads (ring := 9) (seq := 100) (gs := gs) (es := es) es.length (by omega)
        rw [← hrs] at hhd
        refine J_exit ?_
        refine Q_then_exit ?_
        refine Q_then_exit ?_
        refine Q_blk_this ?_
        refine Q_then ?_
        refine J_seq ?_
        refine J_region ?_
        refine L_pur rfl (p_move rfl) ?_
        refine L_pur rfl (p_move rfl) ?_
        refine J_bool (t := 116) (c := true) rfl (rfl) ?_
        refine L_op (G_on rfl rfl rfl ?_)
        refine J_pur (p_move rfl) rfl rfl rfl ?_
        refine L_op (G_on rfl rfl rfl ?_)
        refine J_pur (p_move rfl) rfl rfl rfl ?_
        refine L_op (G_on rfl rfl rfl ?_)
        refine J_pur (p_len rfl Try.underlying31) rfl rfl rfl ?_
        refine L_op (G_on rfl rfl rfl ?_)
        refine J_pur (p_eql rfl rfl) rfl rfl rfl ?_
        refine L_pur rfl (p_pick_t rfl rfl) ?_
        refine L_pur rfl (p_move rfl) ?_
        refine J_bool (t := 122) (c := true) rfl (by simp [hrs]) ?_
        refine L_op (G_on rfl rfl rfl ?_)
        refine J_pur (p_move rfl) rfl rfl rfl ?_
        refine L_op (G_on rfl rfl rfl ?_)
        refine x_call Try.func28 nm28 bd28 (.cons rfl .nil) rfl (heads (rs := rs) (fun w H => sep_reads (by repeat (first | with_reducible exact Has.here | with_reducible assumption | with_reducible apply Has.there)) H) (by omega)) fun v124 => ?_
        refine J_row .here fun hw124 a124 c124 hv124 hl124 hm124 hz124 => ?_
        subst hv124
        refine L_op (G_on rfl rfl rfl ?_)
        refine J_pur (p_len rfl Try.underlying23) rfl rfl rfl ?_
        refine L_op (G_on rfl rfl rfl ?_)
        refine J_pur (p_move rfl) rfl rfl rfl ?_
        refine L_op (G_on rfl rfl rfl ?_)
        refine J_pur (p_len rfl Try.underlying31) rfl rfl rfl ?_
        refine L_op (G_on rfl rfl rfl ?_)
        refine J_pur (p_leq rfl rfl) rfl rfl rfl ?_
        refine L_pur rfl (p_pick_t rfl rfl) ?_
        refine L_pur rfl (p_move rfl) ?_
        refine J_bool (t := 130) (c := true) rfl (by simp; omega) ?_
        refine L_op (G_on rfl rfl rfl ?_)
        refine J_pur (p_move rfl) rfl rfl rfl ?_
        refine L_op (G_on rfl rfl rfl ?_)
        refine J_pur (p_len rfl Try.underlying31) rfl rfl rfl ?_
        refine L_op (G_on rfl rfl rfl ?_)
        refine J_pur (p_eql rfl rfl) rfl rfl rfl ?_
        refine L_op (G_on rfl rfl rfl ?_)
        refine J_pur (p_move rfl) rfl rfl rfl ?_
        refine J_gsplit (t := 134) rfl (fun h134 => ?_) (fun h134 => ?_)
        ·
          refine L_op (G_off rfl rfl rfl rfl rfl rfl ?_)
          refine L_op (G_off rfl rfl rfl rfl rfl rfl ?_)
          refine L_op (G_off rfl rfl rfl rfl rfl rfl ?_)
          refine L_op (G_off rfl rfl rfl rfl rfl rfl ?_)
          refine L_op (G_on rfl rfl rfl ?_)
          refine J_pur (p_pick_t rfl rfl) rfl rfl rfl ?_
          refine L_pur rfl (p_pick_t rfl rfl) ?_
          refine J_bool (t := 140) (c := true) rfl (by first | rfl | (simp at h134 ⊢; rcases hhd with h | h; exact absurd h.1 (by simpa using h134); exact List.length_pos_iff.2 h)) ?_
          refine L_pur rfl (p_assign rfl) ?_
          refine L_nil ?_
          refine Q_then ?_
          refine J_ret ?_
          exact J_return (()) Try.results4 (.tmp rfl .nil) rfl (by repeat (first | exact Sub.nil | exact Sub.refl | refine Sub.cons (by repeat (first | exact Pick.here | apply Pick.there)) ?_ | refine Sub.drop ?_))
        ·
          refine L_op (G_on rfl rfl rfl ?_)
          refine J_pur (p_move rfl) rfl rfl rfl ?_
          refine L_op (G_on rfl rfl rfl ?_)
          refine x_call Try.func28 nm28 bd28 (.cons rfl .nil) rfl (heads (rs := rs) (fun w H => sep_reads (by repeat (first | with_reducible exact Has.here | with_reducible assumption | with_reducible apply Has.there)) H) (by omega)) fun v136 => ?_
          refine J_row .here fun hw136 a136 c136 hv136 hl136 hm136 hz136 => ?_
          subst hv136
          refine L_op (G_on rfl rfl rfl ?_)
          refine J_pur (p_len rfl Try.underlying23) rfl rfl rfl ?_
          refine L_op (G_on rfl rfl rfl ?_)
          refine J_pur (p_gtr rfl rfl) rfl rfl rfl ?_
          refine L_op (G_on rfl rfl rfl ?_)
          refine J_pur (p_pick_f rfl rfl) rfl rfl rfl ?_
          refine L_pur rfl (p_pick_t rfl rfl) ?_
          refine J_bool (t := 140) (c := true) rfl (by first | rfl | (simp at h134 ⊢; rcases hhd with h | h; exact absurd h.1 (by simpa using h134); exact List.length_pos_iff.2 h)) ?_
          refine L_pur rfl (p_assign rfl) ?_
          refine L_nil ?_
          refine Q_then ?_
          refine J_ret ?_
          exact J_return (()) Try.results4 (.tmp rfl .nil) rfl (by repeat (first | exact Sub.nil | exact Sub.refl | refine Sub.cons (by repeat (first | exact Pick.here | apply Pick.there)) ?_ | refine Sub.drop ?_))

end Go.Pse
