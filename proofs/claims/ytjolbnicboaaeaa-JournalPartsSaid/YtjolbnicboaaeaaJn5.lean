/-
  The law on the parts of the journal.
-/
import Derived.Test.YtjolbnicboaaeaaJn2
import Derived.Test.YtjolbnicboaaeaaArg
namespace Go.Pse
open Go.RowKit Go.Proofs

/-! ### plain: the k-th deed that is put down -/
def dp (zs : List Int) (k : Nat) : Deed := (((num (zs.getD k 0) 3 : Nat), k), 0, 0, 0, k, decide (bits .and .i64 (zs.getD k 0) 1 = 1))
def dps (zs : List Int) (i : Nat) : List Deed := (List.range i).map (dp zs)
theorem dps_len (zs : List Int) (i : Nat) : (dps zs i).length = i := by simp [dps]
theorem dps_succ (zs : List Int) (i : Nat) : dps zs (i + 1) = dps zs i ++ [dp zs i] := by simp [dps, List.range_succ]
theorem dps_get {zs : List Int} {i k : Nat} (h : k < i) : (dps zs i)[k]? = some (dp zs k) := by simp [dps, h]
/-- In a part the numbers rise. -/
theorem dps_rise {zs : List Int} {i k : Nat} {p : Deed → Bool} {c d : Deed} (hc : ((dps zs i).filter p)[k]? = some c) (hd : ((dps zs i).filter p)[k + 1]? = some d) : c.1.2 < d.1.2 := by
  have hs : (dps zs i).Pairwise fun a b => a.1.2 < b.1.2 := by
    unfold dps
    rw [List.pairwise_map]
    exact List.Pairwise.imp (fun {a b} h => by show ((a : Nat) : Int) < b; omega) List.pairwise_lt_range
  have h2 := hs.filter p
  rw [List.pairwise_iff_getElem] at h2
  have h3 := (List.getElem?_eq_some_iff.1 hc)
  have h4 := (List.getElem?_eq_some_iff.1 hd)
  have := h2 k (k + 1) h3.1 h4.1 (by omega)
  rw [h3.2, h4.2] at this
  exact this
theorem of_ring {xs : List Deed} {r : Int} {k : Nat} {c : Deed} (h : (xs.filter (ofR r))[k]? = some c) : c.1.1 = r := by
  have := List.mem_of_getElem? h
  simpa [ofR] using (List.mem_filter.1 this).2
/-- Three parts, all of it. -/
theorem parts_sum {zs : List Int} (xs : List Deed) (h : ∀ c ∈ xs, c.1.1 = 0 ∨ c.1.1 = 1 ∨ c.1.1 = 2) : (xs.filter (ofR 0)).length + (xs.filter (ofR 1)).length + (xs.filter (ofR 2)).length = xs.length := by
  induction xs with
  | nil => rfl
  | cons a xs ih =>
    have h1 := ih fun c hc => h c (List.mem_cons_of_mem _ hc)
    have h2 := h a (by simp)
    simp only [List.filter_cons, List.length_cons]
    have e : ∀ r : Int, ofR r a = decide (a.1.1 = r) := fun _ => rfl
    rw [e, e, e]
    rcases h2 with h2 | h2 | h2 <;> simp [h2] <;> omega
theorem dps_ring {zs : List Int} {i : Nat} : ∀ c ∈ dps zs i, c.1.1 = 0 ∨ c.1.1 = 1 ∨ c.1.1 = 2 := fun c hc => by
  obtain ⟨k, _, rfl⟩ := List.mem_map.1 hc
  have h1 := num_lt (x := zs.getD k 0) (b := 3) (by omega)
  show ((num (zs.getD k 0) 3 : Nat) : Int) = 0 ∨ ((num (zs.getD k 0) 3 : Nat) : Int) = 1 ∨ ((num (zs.getD k 0) 3 : Nat) : Int) = 2
  omega
/-- How many the first r parts have. -/
def upTo (xs : List Deed) (r : Nat) : Nat := ((List.range r).map fun q : Nat => (xs.filter (ofR (q : Int))).length).sum
theorem upTo_succ (xs : List Deed) (r : Nat) : upTo xs (r + 1) = upTo xs r + (xs.filter (ofR (r : Int))).length := by simp [upTo, List.range_succ]
theorem upTo_all {zs : List Int} {i : Nat} : upTo (dps zs i) 3 = i := by
  have := parts_sum (zs := zs) (dps zs i) dps_ring
  rw [dps_len] at this
  simp [upTo, List.range_succ]
  omega
theorem upTo_le {zs : List Int} {i r : Nat} (h : r ≤ 3) : upTo (dps zs i) r ≤ i := by
  have h3 := upTo_all (zs := zs) (i := i)
  have e3 : upTo (dps zs i) 3 = upTo (dps zs i) 2 + _ := upTo_succ (dps zs i) 2
  have e2 : upTo (dps zs i) 2 = upTo (dps zs i) 1 + _ := upTo_succ (dps zs i) 1
  have e1 : upTo (dps zs i) 1 = upTo (dps zs i) 0 + _ := upTo_succ (dps zs i) 0
  have e0 : upTo (dps zs i) 0 = 0 := rfl
  match r, h with
  | 0, _ => omega
  | 1, _ => omega
  | 2, _ => omega
  | 3, _ => omega
theorem dps_find {zs : List Int} {i k : Nat} (h : k < i) : idx (isD (dp zs k).1) (dps zs i) = k := by
  refine idx_here (c := dp zs k) (fun c hc => ?_) (dps_get h) (by simp [isD])
  obtain ⟨j, hj⟩ := List.mem_iff_getElem?.1 hc
  rw [List.getElem?_take] at hj
  split at hj
  · rename_i hlt
    rw [dps_get (by omega)] at hj
    cases hj
    simp only [isD, decide_eq_false_iff_not, not_and]
    intro _ h2
    have : ((j : Nat) : Int) = ((k : Nat) : Int) := h2
    omega
  · cases hj
/-- A cell of an element, written. -/
def v99 (c : Deed) : Deed := (c.1, c.2.1, c.2.2.1, c.2.2.2.1, 99, c.2.2.2.2.2)
theorem set_ids {F ys : List Deed} {k : Nat} {c : Deed} (hy : ∀ (j : Nat) (c : Deed), ys[j]? = some c → ∃ d, F[j]? = some d ∧ c.1 = d.1) (hc : ys[k]? = some c) : ∀ (j : Nat) (c' : Deed), (ys.set k (v99 c))[j]? = some c' → ∃ d, F[j]? = some d ∧ c'.1 = d.1 := by
  intro j c' h
  rw [List.getElem?_set] at h
  split at h
  · rename_i e
    subst e
    split at h
    · cases h; exact hy k c hc
    · cases h
  · exact hy j c' h

set_option maxRecDepth 100000 in
theorem journalParts {E W : World} {v : Value} {zs : List Int} (hr : Reads W 1 v (zs.map fun z => [Value.int .i64 z])) :
    Con Try.prog 7 #[v] E [old W] (fun _ : Unit => .bool true) (fun _ => [old W]) := by
  refine Con.body (vs := [v]) (n := 152) Try.func7 rfl rfl [(0, v)] (env_ok 1 rfl) ?_
  refine J_readsB (fun w H => hr.old .here H) fun hw a cap hv h1 h2 h3 => ?_
  subst hv
  have hm : cap ≤ 9223372036854775807 := h2
  have hml : (zs.map fun z => [Value.int .i64 z]).length = zs.length := List.length_map _
  refine J_seq ?_
  refine J_region ?_
  refine L_pur rfl (p_assign rfl) ?_
  refine L_nil ?_
  refine Q_then ?_
  refine J_seq ?_
  refine J_region ?_
  refine L_op (x_call Try.func34 nm34 bd34 .nil rfl (first22) fun _ => ?_)
  refine L_pur rfl (p_assign rfl) ?_
  refine L_nil ?_
  refine Q_then ?_
  refine J_seq ?_
  refine J_seq ?_
  refine J_region ?_
  refine L_pur rfl (p_move rfl) ?_
  refine L_pur rfl (p_not rfl) ?_
  refine L_nil ?_
  refine Q_then ?_
  refine J_bool (t := 18) (c := false) rfl (rfl) ?_
  refine C_false rfl ?_
  refine J_skip ?_
  refine Q_then ?_
  refine J_seq ?_
  refine J_seq ?_
  refine J_region ?_
  refine L_pur rfl (p_move rfl) ?_
  refine L_pur rfl (p_len rfl Try.underlying23) ?_
  refine L_pur rfl (p_gtr rfl rfl) ?_
  refine L_nil ?_
  refine Q_then ?_
  refine C_dec rfl (fun h21 => ?_) (fun h21 => ?_)
  ·
    refine J_seq ?_
    refine J_region ?_
    refine L_pur rfl (p_move rfl) ?_
    refine L_pur rfl (p_assign rfl) ?_
    refine L_nil ?_
    refine Q_then ?_
    refine J_ret ?_
    refine Q_then_ret ?_
    exact J_return (()) Try.results7 (.tmp rfl .nil) rfl (by repeat (first | exact Sub.nil | exact Sub.refl | refine Sub.cons (by repeat (first | exact Pick.here | apply Pick.there)) ?_ | refine Sub.drop ?_))
  ·
    refine J_skip ?_
    refine Q_then ?_
    refine J_seq ?_
    refine J_region ?_
    refine L_op (x_alloc ty64 rfl fun b4 => ?_)
    refine J_j ?_
    refine L_nil ?_
    refine Q_then ?_
    refine J_seq ?_
    refine J_seq ?_
    refine J_region ?_
    refine L_pur rfl (p_assign rfl) ?_
    refine L_nil ?_
    refine Q_then ?_
    refine J_block ?_
    refine J_loop (α := Nat) (fun i => i ≤ zs.length) (fun i => [jA 64 b4 (dps zs i), old W]) (fun i => [(5, .int .i64 (i : Int)), (0, .slice a (zs.map fun z => [Value.int .i64 z]).length cap), (3, .bool true), (4, .pointer (some ⟨b4, 0, none⟩))]) (fun i => zs.length - i) 0 (by omega) (by repeat (first | exact Sub.nil | exact Sub.refl | refine Sub.cons (by repeat (first | exact Pick.here | apply Pick.there)) ?_ | refine Sub.drop ?_)) (by repeat (first | exact Keep.nil | refine Keep.cons rfl ?_)) ?_
    intro i hi
    refine J_seq ?_
    refine J_seq ?_
    refine J_region ?_
    refine L_pur rfl (p_move rfl) ?_
    refine L_pur rfl (p_move rfl) ?_
    refine L_pur rfl (p_len rfl Try.underlying23) ?_
    refine L_pur rfl (p_lss rfl rfl) ?_
    refine L_nil ?_
    refine Q_then ?_
    refine C_dec rfl (fun h26 => ?_) (fun h26 => ?_)
    ·
      have hlt : i < zs.length := by omega
      obtain ⟨b, o, rfl⟩ := h3 (by intro h; rw [h] at hml; simp at hml; omega)
      obtain ⟨z, hzz⟩ : ∃ z, zs[i]? = some z := ⟨_, List.getElem?_eq_getElem hlt⟩
      have hz : zs.getD i 0 = z := by simp [List.getD, hzz]
      refine J_skip ?_
      refine Q_then ?_
      refine J_seq ?_
      refine J_block ?_
      refine J_draw mixed ?_
      refine A_take (i := 0) rfl rfl rfl rfl (by kernel_rfl) (by kernel_rfl) (by kernel_rfl) (fun _ _ _ _ h => h) (p_move rfl) ?_
      refine A_take (i := 1) rfl rfl rfl rfl (by kernel_rfl) (by kernel_rfl) (by kernel_rfl) (fun _ _ _ _ h => h) (p_move rfl) ?_
      refine A_take (i := 2) rfl rfl rfl rfl (by kernel_rfl) (by kernel_rfl) (by kernel_rfl) (fun _ _ _ _ h => h) (p_indexAddr rfl rfl Try.underlying23 ty3 (by omega) (by omega)) ?_
      refine A_take (i := 5) rfl rfl rfl rfl (by kernel_rfl) (by kernel_rfl) (by kernel_rfl) (fun _ _ _ _ h => h) (p_move rfl) ?_
      refine A_take (i := 7) rfl rfl rfl rfl (by kernel_rfl) (by kernel_rfl) (by kernel_rfl) (fun _ _ _ _ h => h) (p_move rfl) ?_
      refine A_take (i := 8) rfl rfl rfl rfl (by kernel_rfl) (by kernel_rfl) (by kernel_rfl) (fun _ _ _ _ h => h) (p_conv rfl Try.underlying3 Try.underlying37) ?_
      refine J_slot (t := 37) (v := .int .u32 (i : Int)) rfl (by rw [wrap32u_of ⟨by omega, by omega⟩]) ?_
      refine A_take (i := 9) rfl rfl rfl rfl (by kernel_rfl) (by kernel_rfl) (by kernel_rfl) (fun _ _ _ _ h => h) (p_move rfl) ?_
      refine A_take (i := 10) rfl rfl rfl rfl (by kernel_rfl) (by kernel_rfl) (by kernel_rfl) (fun _ _ _ _ h => h) (p_move rfl) ?_
      refine A_take (i := 11) rfl rfl rfl rfl (by kernel_rfl) (by kernel_rfl) (by kernel_rfl) (fun _ _ _ _ h => h) (p_indexAddr rfl rfl Try.underlying23 ty3 (by omega) (by omega)) ?_
      refine A_ready (rs := [3, 12]) (by kernel_rfl) (by simp) ?_
      refine (A_cons rfl ?_ (A_cons rfl ?_ A_nil))
      ·
        refine J_val (v_loadR1 rfl ty3 (fun w H => hr.old (by repeat (first | with_reducible exact Has.here | with_reducible assumption | with_reducible apply Has.there)) H) (by simp only [Int.toNat_natCast, List.getElem?_map, hzz]; rfl)) rfl rfl rfl ?_
        refine A_ready (rs := [4, 12]) (by kernel_rfl) (by simp) ?_
        refine (A_cons rfl ?_ (A_cons rfl ?_ A_nil))
        ·
          refine x_call Try.func23 nm23 bd23 (.cons rfl (.cons rfl .nil)) rfl (number (by omega) (by omega)) fun _ => ?_
          refine A_take (i := 6) rfl rfl rfl rfl (by kernel_rfl) (by kernel_rfl) (by kernel_rfl) (fun _ _ _ _ h => h) (bld36 (.cons rfl (.cons rfl .nil)) (by repeat constructor)) ?_
          refine A_one (i := 12) (by kernel_rfl) rfl ?_
          refine J_val (v_loadR1 rfl ty3 (fun w H => hr.old (by repeat (first | with_reducible exact Has.here | with_reducible assumption | with_reducible apply Has.there)) H) (by simp only [Int.toNat_natCast, List.getElem?_map, hzz]; rfl)) rfl rfl rfl ?_
          refine A_take (i := 13) rfl rfl rfl rfl (by kernel_rfl) (by kernel_rfl) (by kernel_rfl) (fun _ _ _ _ h => h) (p_and rfl rfl) ?_
          refine A_take (i := 14) rfl rfl rfl rfl (by kernel_rfl) (by kernel_rfl) (by kernel_rfl) (fun _ _ _ _ h => h) (p_eql rfl rfl) ?_
          refine A_take (i := 15) rfl rfl rfl rfl (by kernel_rfl) (by kernel_rfl) (by kernel_rfl) (fun _ _ _ _ h => h) (bld68 (.cons rfl (.cons rfl (.cons rfl .nil))) (by repeat constructor)) ?_
          refine J_slot (t := 44) (v := .agg (encD (dp zs i)).toArray) rfl (by simp only [dp, encD, hz]) ?_
          refine A_one (i := 16) (by kernel_rfl) rfl ?_
          refine x_call Try.func35 nm35 bd35 (.cons rfl (.cons rfl .nil)) rfl (add (d := dp zs i) (by repeat (first | with_reducible exact Pick.here | with_reducible assumption | with_reducible apply Pick.there)) (by rw [dps_len]; omega)) fun _ => ?_
          refine A_done (by kernel_rfl) ?_
          refine Q_blk_normal ?_
          refine Q_then ?_
          refine J_region ?_
          refine L_pur rfl (p_move rfl) ?_
          refine L_pur rfl (p_add64 rfl rfl (by omega)) ?_
          refine L_pur rfl (p_assign rfl) ?_
          refine L_nil ?_
          refine Q_then ?_
          refine J_pick (A := jA 64 b4 (dps zs i ++ [dp zs i])) (by repeat (first | with_reducible exact Pick.here | with_reducible assumption | with_reducible apply Pick.there)) ?_
          refine J_asTo (B := jA 64 b4 (dps zs (i + 1))) (by rw [dps_succ]) ?_
          exact J_again (i + 1) (by omega) (by omega) (by repeat (first | exact Sub.nil | exact Sub.refl | refine Sub.cons (by repeat (first | exact Pick.here | apply Pick.there)) ?_ | refine Sub.drop ?_)) (by repeat (first | exact Keep.nil | refine Keep.cons rfl ?_))
        ·
          refine J_val (v_loadR1 rfl ty3 (fun w H => hr.old (by repeat (first | with_reducible exact Has.here | with_reducible assumption | with_reducible apply Has.there)) H) (by simp only [Int.toNat_natCast, List.getElem?_map, hzz]; rfl)) rfl rfl rfl ?_
          refine A_take (i := 13) rfl rfl rfl rfl (by kernel_rfl) (by kernel_rfl) (by kernel_rfl) (fun _ _ _ _ h => h) (p_and rfl rfl) ?_
          refine A_take (i := 14) rfl rfl rfl rfl (by kernel_rfl) (by kernel_rfl) (by kernel_rfl) (fun _ _ _ _ h => h) (p_eql rfl rfl) ?_
          refine A_one (i := 4) (by kernel_rfl) rfl ?_
          refine x_call Try.func23 nm23 bd23 (.cons rfl (.cons rfl .nil)) rfl (number (by omega) (by omega)) fun _ => ?_
          refine A_take (i := 6) rfl rfl rfl rfl (by kernel_rfl) (by kernel_rfl) (by kernel_rfl) (fun _ _ _ _ h => h) (bld36 (.cons rfl (.cons rfl .nil)) (by repeat constructor)) ?_
          refine A_take (i := 15) rfl rfl rfl rfl (by kernel_rfl) (by kernel_rfl) (by kernel_rfl) (fun _ _ _ _ h => h) (bld68 (.cons rfl (.cons rfl (.cons rfl .nil))) (by repeat constructor)) ?_
          refine J_slot (t := 44) (v := .agg (encD (dp zs i)).toArray) rfl (by simp only [dp, encD, hz]) ?_
          refine A_one (i := 16) (by kernel_rfl) rfl ?_
          refine x_call Try.func35 nm35 bd35 (.cons rfl (.cons rfl .nil)) rfl (add (d := dp zs i) (by repeat (first | with_reducible exact Pick.here | with_reducible assumption | with_reducible apply Pick.there)) (by rw [dps_len]; omega)) fun _ => ?_
          refine A_done (by kernel_rfl) ?_
          refine Q_blk_normal ?_
          refine Q_then ?_
          refine J_region ?_
          refine L_pur rfl (p_move rfl) ?_
          refine L_pur rfl (p_add64 rfl rfl (by omega)) ?_
          refine L_pur rfl (p_assign rfl) ?_
          refine L_nil ?_
          refine Q_then ?_
          refine J_pick (A := jA 64 b4 (dps zs i ++ [dp zs i])) (by repeat (first | with_reducible exact Pick.here | with_reducible assumption | with_reducible apply Pick.there)) ?_
          refine J_asTo (B := jA 64 b4 (dps zs (i + 1))) (by rw [dps_succ]) ?_
          exact J_again (i + 1) (by omega) (by omega) (by repeat (first | exact Sub.nil | exact Sub.refl | refine Sub.cons (by repeat (first | exact Pick.here | apply Pick.there)) ?_ | refine Sub.drop ?_)) (by repeat (first | exact Keep.nil | refine Keep.cons rfl ?_))
      ·
        refine J_val (v_loadR1 rfl ty3 (fun w H => hr.old (by repeat (first | with_reducible exact Has.here | with_reducible assumption | with_reducible apply Has.there)) H) (by simp only [Int.toNat_natCast, List.getElem?_map, hzz]; rfl)) rfl rfl rfl ?_
        refine A_take (i := 13) rfl rfl rfl rfl (by kernel_rfl) (by kernel_rfl) (by kernel_rfl) (fun _ _ _ _ h => h) (p_and rfl rfl) ?_
        refine A_take (i := 14) rfl rfl rfl rfl (by kernel_rfl) (by kernel_rfl) (by kernel_rfl) (fun _ _ _ _ h => h) (p_eql rfl rfl) ?_
        refine A_one (i := 3) (by kernel_rfl) rfl ?_
        refine J_val (v_loadR1 rfl ty3 (fun w H => hr.old (by repeat (first | with_reducible exact Has.here | with_reducible assumption | with_reducible apply Has.there)) H) (by simp only [Int.toNat_natCast, List.getElem?_map, hzz]; rfl)) rfl rfl rfl ?_
        refine A_one (i := 4) (by kernel_rfl) rfl ?_
        refine x_call Try.func23 nm23 bd23 (.cons rfl (.cons rfl .nil)) rfl (number (by omega) (by omega)) fun _ => ?_
        refine A_take (i := 6) rfl rfl rfl rfl (by kernel_rfl) (by kernel_rfl) (by kernel_rfl) (fun _ _ _ _ h => h) (bld36 (.cons rfl (.cons rfl .nil)) (by repeat constructor)) ?_
        refine A_take (i := 15) rfl rfl rfl rfl (by kernel_rfl) (by kernel_rfl) (by kernel_rfl) (fun _ _ _ _ h => h) (bld68 (.cons rfl (.cons rfl (.cons rfl .nil))) (by repeat constructor)) ?_
        refine J_slot (t := 44) (v := .agg (encD (dp zs i)).toArray) rfl (by simp only [dp, encD, hz]) ?_
        refine A_one (i := 16) (by kernel_rfl) rfl ?_
        refine x_call Try.func35 nm35 bd35 (.cons rfl (.cons rfl .nil)) rfl (add (d := dp zs i) (by repeat (first | with_reducible exact Pick.here | with_reducible assumption | with_reducible apply Pick.there)) (by rw [dps_len]; omega)) fun _ => ?_
        refine A_done (by kernel_rfl) ?_
        refine Q_blk_normal ?_
        refine Q_then ?_
        refine J_region ?_
        refine L_pur rfl (p_move rfl) ?_
        refine L_pur rfl (p_add64 rfl rfl (by omega)) ?_
        refine L_pur rfl (p_assign rfl) ?_
        refine L_nil ?_
        refine Q_then ?_
        refine J_pick (A := jA 64 b4 (dps zs i ++ [dp zs i])) (by repeat (first | with_reducible exact Pick.here | with_reducible assumption | with_reducible apply Pick.there)) ?_
        refine J_asTo (B := jA 64 b4 (dps zs (i + 1))) (by rw [dps_succ]) ?_
        exact J_again (i + 1) (by omega) (by omega) (by repeat (first | exact Sub.nil | exact Sub.refl | refine Sub.cons (by repeat (first | exact Pick.here | apply Pick.there)) ?_ | refine Sub.drop ?_)) (by repeat (first | exact Keep.nil | refine Keep.cons rfl ?_))
    ·
      have hin : zs.length = i := by omega
      subst hin
      refine J_exit ?_
      refine Q_then_exit ?_
      refine Q_then_exit ?_
      refine Q_blk_this ?_
      refine Q_then ?_
      refine J_seq ?_
      refine J_region ?_
      refine L_pur rfl (p_assign rfl) ?_
      refine L_nil ?_
      refine Q_then ?_
      refine J_seq ?_
      refine J_seq ?_
      refine J_region ?_
      refine L_pur rfl (p_assign rfl) ?_
      refine L_nil ?_
      refine Q_then ?_
      refine J_block ?_
      refine J_loop (α := Nat) (fun r => r ≤ 3) (fun r => [jA 64 b4 (dps zs zs.length), old W]) (fun r => [(7, .int .i64 (r : Int)), (6, .int .i64 ((upTo (dps zs zs.length) r : Nat) : Int)), (0, .slice a (zs.map fun z => [Value.int .i64 z]).length cap), (3, .bool true), (4, .pointer (some ⟨b4, 0, none⟩))]) (fun r => 3 - r) 0 (by omega) (by repeat (first | exact Sub.nil | exact Sub.refl | refine Sub.cons (by repeat (first | exact Pick.here | apply Pick.there)) ?_ | refine Sub.drop ?_)) (by repeat (first | exact Keep.nil | refine Keep.cons rfl ?_)) ?_
      intro r hr3
      have hup := upTo_le (zs := zs) (i := zs.length) hr3
      refine J_seq ?_
      refine J_seq ?_
      refine J_region ?_
      refine L_pur rfl (p_move rfl) ?_
      refine L_pur rfl (p_lss rfl rfl) ?_
      refine L_nil ?_
      refine Q_then ?_
      refine C_dec rfl (fun h47 => ?_) (fun h47 => ?_)
      ·
        have hfl : ((dps zs zs.length).filter (ofR (r : Int))).length ≤ zs.length := Nat.le_trans (List.length_filter_le _ _) (by rw [dps_len]; omega)
        have hcl : ((dps zs zs.length).filter (ofR (r : Int))).countP gone ≤ ((dps zs zs.length).filter (ofR (r : Int))).length := List.countP_le_length
        have hup1 := upTo_le (zs := zs) (i := zs.length) (r := r + 1) (by omega)
        rw [upTo_succ] at hup1
        refine J_skip ?_
        refine Q_then ?_
        refine J_seq ?_
        refine J_block ?_
        refine J_seq ?_
        refine J_region ?_
        refine L_pur rfl (p_move rfl) ?_
        refine L_op (x_call Try.func43 nm43 bd43 (.cons rfl (.cons rfl .nil)) rfl (of (by repeat (first | with_reducible exact Pick.here | with_reducible assumption | with_reducible apply Pick.there)) (by rw [dps_len]; omega) (r : Int)) fun v51 => ?_)
        refine J_row .here fun hw51 a51 c51 hv51 hl51 hm51 hz51 => ?_
        subst hv51
        refine L_pur rfl (p_assign rfl) ?_
        refine L_nil ?_
        refine Q_then ?_
        refine J_seq ?_
        refine J_region ?_
        refine L_pur rfl (p_move rfl) ?_
        refine L_op (x_call Try.func39 nm39 bd39 (.cons rfl (.cons rfl .nil)) rfl (counts (by repeat (first | with_reducible exact Pick.here | with_reducible assumption | with_reducible apply Pick.there)) (by rw [dps_len]; omega) (r : Int)) fun _ => ?_)
        refine L_pur rfl (p_move rfl) ?_
        refine L_pur rfl (p_extract rfl rfl) ?_
        refine L_pur rfl (p_extract rfl rfl) ?_
        refine L_pur rfl (p_assign rfl) ?_
        refine L_pur rfl (p_assign rfl) ?_
        refine L_nil ?_
        refine Q_then ?_
        refine J_seq ?_
        refine J_seq ?_
        refine J_region ?_
        refine L_pur rfl (p_move rfl) ?_
        refine L_pur rfl (p_move rfl) ?_
        refine L_pur rfl (p_add64 rfl rfl (by omega)) ?_
        refine L_pur rfl (p_move rfl) ?_
        refine L_pur rfl (p_len rfl Try.underlying62) ?_
        refine L_pur rfl (p_neq rfl rfl) ?_
        refine L_nil ?_
        refine Q_then ?_
        refine J_bool (t := 62) (c := false) rfl (by simp) ?_
        refine C_false rfl ?_
        refine J_skip ?_
        refine Q_then ?_
        refine J_seq ?_
        refine J_seq ?_
        obtain ⟨F, hF⟩ : ∃ F, F = ((dps zs zs.length).filter (ofR (r : Int))) := ⟨_, rfl⟩
        have hFl : F.length ≤ zs.length := by rw [hF]; exact hfl
        have hzF : F ≠ [] → ∃ b o, a51 = some ⟨b, o, none⟩ := fun h => hz51 (by rw [← hF]; simpa using h)
        refine J_pick (A := row 68 7 (.slice a51 (((dps zs zs.length).filter (ofR (r : Int))).map encD).length c51) (((dps zs zs.length).filter (ofR (r : Int))).map encD)) (by repeat (first | with_reducible exact Pick.here | with_reducible assumption | with_reducible apply Pick.there)) ?_
        refine J_rowTo (v' := .slice a51 F.length c51) (ys := F.map encD) (by rw [hF]) (by rw [hF]; simp) ?_
        refine J_slot (t := 8) (v := .slice a51 F.length c51) rfl (by rw [hF]; simp) ?_
        refine J_region ?_
        refine L_pur rfl (p_assign rfl) ?_
        refine L_nil ?_
        refine Q_then ?_
        refine J_block ?_
        refine J_loop2 (fun k ys => k ≤ F.length ∧ ys.length = F.length ∧ ∀ (j : Nat) (c : Deed), ys[j]? = some c → ∃ d, F[j]? = some d ∧ c.1 = d.1) (fun k ys => [row 68 7 (.slice a51 F.length c51) (ys.map encD), jA 64 b4 (dps zs zs.length), old W]) (fun k ys => [(11, .int .i64 (k : Int)), (8, .slice a51 F.length c51), (7, .int .i64 (r : Int)), (6, .int .i64 ((upTo (dps zs zs.length) r : Nat) : Int)), (0, .slice a (zs.map fun z => [Value.int .i64 z]).length cap), (3, .bool true), (4, .pointer (some ⟨b4, 0, none⟩))]) (fun k ys => F.length - k) 0 F ⟨by omega, rfl, fun j c h => ⟨c, h, rfl⟩⟩ (by repeat (first | exact Sub.nil | exact Sub.refl | refine Sub.cons (by repeat (first | exact Pick.here | apply Pick.there)) ?_ | refine Sub.drop ?_)) (by repeat (first | exact Keep.nil | refine Keep.cons rfl ?_)) ?_
        intro k ys ⟨hk, hyl, hy⟩
        refine J_seq ?_
        refine J_seq ?_
        refine J_region ?_
        refine L_pur rfl (p_move rfl) ?_
        refine L_pur rfl (p_move rfl) ?_
        refine L_pur rfl (p_len rfl Try.underlying62) ?_
        refine L_pur rfl (p_lss rfl rfl) ?_
        refine L_nil ?_
        refine Q_then ?_
        refine C_dec rfl (fun h66 => ?_) (fun h66 => ?_)
        ·
          have hltk : k < ys.length := by omega
          obtain ⟨bo, oo, rfl⟩ := hzF (by intro h; rw [h] at hyl; simp at hyl; rw [hyl] at hltk; simp at hltk)
          obtain ⟨c, hcc⟩ : ∃ c, ys[k]? = some c := ⟨_, List.getElem?_eq_getElem hltk⟩
          obtain ⟨d, hdd, hcd⟩ := hy k c hcc
          have hring : d.1.1 = (r : Int) := by rw [hF] at hdd; exact of_ring hdd
          refine J_skip ?_
          refine Q_then ?_
          refine J_seq ?_
          refine J_block ?_
          refine J_seq ?_
          refine J_seq ?_
          refine J_drawS mixed (by kernel_rfl) ?_
          refine S_val rfl (Pur.vl (p_move rfl)) ?_
          refine S_val rfl (Pur.vl (p_move rfl)) ?_
          refine S_val rfl (Pur.vl (p_indexAddr rfl rfl Try.underlying62 ty68 (by omega) (by first | omega | (simp <;> omega)))) ?_
          refine S_val rfl (Pur.vl (p_fieldAddr rfl fa68_0)) ?_
          refine S_val rfl (Pur.vl (p_fieldAddr rfl fa36_0)) ?_
          refine S_val rfl (v_loadF rfl ty3 (by repeat (first | with_reducible exact Has.here | with_reducible assumption | with_reducible apply Has.there)) (by simp only [Int.toNat_natCast, List.getElem?_map, hcc]; rfl) (by exact rfl)) ?_
          refine S_val rfl (Pur.vl (p_move rfl)) ?_
          refine S_val rfl (Pur.vl (p_neq rfl rfl)) ?_
          refine S_val rfl (Pur.vl (p_move rfl)) ?_
          refine J_bool (t := 77) (c := false) rfl (by simp [hcd, hring]) ?_
          refine S_on rfl rfl rfl rfl (Pur.vl (p_move rfl)) ?_
          refine S_on rfl rfl rfl rfl (Pur.vl (p_gtr rfl rfl)) ?_
          refine S_on rfl rfl rfl rfl (Pur.vl (p_move rfl)) ?_
          refine J_gsplit (t := 80) rfl (fun h80 => ?_) (fun h80 => ?_)
          ·
            simp at h80
            obtain ⟨k', hk'⟩ : ∃ k', k = k' + 1 := ⟨k - 1, by omega⟩
            obtain ⟨c', hcc'⟩ : ∃ c, ys[k']? = some c := ⟨_, List.getElem?_eq_getElem (by omega)⟩
            obtain ⟨d', hdd', hcd'⟩ := hy k' c' hcc'
            have hrise : d'.1.2 < d.1.2 := by rw [hF] at hdd hdd'; rw [hk'] at hdd; exact dps_rise hdd' hdd
            refine S_on rfl rfl rfl rfl (Pur.vl (p_move rfl)) ?_
            refine S_on rfl rfl rfl rfl (Pur.vl (p_move rfl)) ?_
            refine S_on rfl rfl rfl rfl (Pur.vl (p_indexAddr rfl rfl Try.underlying62 ty68 (by omega) (by first | omega | (simp <;> omega)))) ?_
            refine S_on rfl rfl rfl rfl (Pur.vl (p_fieldAddr rfl fa68_0)) ?_
            refine S_on rfl rfl rfl rfl (Pur.vl (p_fieldAddr rfl fa36_1)) ?_
            refine S_on rfl rfl rfl rfl (v_loadF rfl ty3 (by repeat (first | with_reducible exact Has.here | with_reducible assumption | with_reducible apply Has.there)) (by simp only [Int.toNat_natCast, List.getElem?_map, hcc]; rfl) (by exact rfl)) ?_
            refine S_on rfl rfl rfl rfl (Pur.vl (p_move rfl)) ?_
            refine S_on rfl rfl rfl rfl (Pur.vl (p_move rfl)) ?_
            refine S_on rfl rfl rfl rfl (Pur.vl (p_sub64 rfl rfl (by omega))) ?_
            refine S_on rfl rfl rfl rfl (Pur.vl (p_indexAddr rfl rfl Try.underlying62 ty68 (by omega) (by first | omega | (simp <;> omega)))) ?_
            refine S_on rfl rfl rfl rfl (Pur.vl (p_fieldAddr rfl fa68_0)) ?_
            refine S_on rfl rfl rfl rfl (Pur.vl (p_fieldAddr rfl fa36_1)) ?_
            refine S_on rfl rfl rfl rfl (v_loadF rfl ty3 (by repeat (first | with_reducible exact Has.here | with_reducible assumption | with_reducible apply Has.there)) (by rw [show ((k : Int) - 1).toNat = k' by omega, List.getElem?_map, hcc']; rfl) (by exact rfl)) ?_
            refine S_on rfl rfl rfl rfl (Pur.vl (p_leq rfl rfl)) ?_
            refine S_on rfl rfl rfl rfl (Pur.vl (p_pick_t rfl rfl)) ?_
            refine S_val rfl (Pur.vl (p_pick_f rfl rfl)) ?_
            refine S_nil ?_
            refine Q_then ?_
            refine J_bool (t := 96) (c := false) rfl (by first | rfl | (simp [hcd, hcd']; omega)) ?_
            refine C_false rfl ?_
            refine J_skip ?_
            refine Q_then ?_
            refine J_region ?_
            refine L_pur rfl (p_move rfl) ?_
            refine L_pur rfl (p_move rfl) ?_
            refine L_pur rfl (p_indexAddr rfl rfl Try.underlying62 ty68 (by omega) (by first | omega | (simp <;> omega))) ?_
            refine L_pur rfl (p_fieldAddr rfl fa68_4) ?_
            refine L_op (x_storeF (len := F.length) (c := encD c) rfl rfl ty37 rfl rfl (by repeat (first | with_reducible exact Pick.here | with_reducible assumption | with_reducible apply Pick.there)) (by simp only [Int.toNat_natCast, List.getElem?_map, hcc]; rfl) rfl ?_)
            refine J_rowEq (ys := (ys.set k (v99 c)).map encD) (by rw [List.map_set]; simp [v99, encD]) ?_
            refine L_nil ?_
            refine Q_blk_normal ?_
            refine Q_then ?_
            refine J_region ?_
            refine L_pur rfl (p_move rfl) ?_
            refine L_pur rfl (p_add64 rfl rfl (by omega)) ?_
            refine L_pur rfl (p_assign rfl) ?_
            refine L_nil ?_
            refine Q_then ?_
            exact J_again2 (k + 1) (ys.set k (v99 c)) (by omega) (⟨by omega, by simp [hyl], set_ids hy hcc⟩) (by repeat (first | exact Sub.nil | exact Sub.refl | refine Sub.cons (by repeat (first | exact Pick.here | apply Pick.there)) ?_ | refine Sub.drop ?_)) (by repeat (first | exact Keep.nil | refine Keep.cons rfl ?_))
          ·
            refine S_off rfl rfl rfl rfl rfl ?_
            refine S_off rfl rfl rfl rfl rfl ?_
            refine S_off rfl rfl rfl rfl rfl ?_
            refine S_off rfl rfl rfl rfl rfl ?_
            refine S_off rfl rfl rfl rfl rfl ?_
            refine S_off rfl rfl rfl rfl rfl ?_
            refine S_off rfl rfl rfl rfl rfl ?_
            refine S_off rfl rfl rfl rfl rfl ?_
            refine S_off rfl rfl rfl rfl rfl ?_
            refine S_off rfl rfl rfl rfl rfl ?_
            refine S_off rfl rfl rfl rfl rfl ?_
            refine S_off rfl rfl rfl rfl rfl ?_
            refine S_off rfl rfl rfl rfl rfl ?_
            refine S_off rfl rfl rfl rfl rfl ?_
            refine S_on rfl rfl rfl rfl (Pur.vl (p_pick_f rfl rfl)) ?_
            refine S_val rfl (Pur.vl (p_pick_f rfl rfl)) ?_
            refine S_nil ?_
            refine Q_then ?_
            refine J_bool (t := 96) (c := false) rfl (by first | rfl | (simp [hcd, hcd']; omega)) ?_
            refine C_false rfl ?_
            refine J_skip ?_
            refine Q_then ?_
            refine J_region ?_
            refine L_pur rfl (p_move rfl) ?_
            refine L_pur rfl (p_move rfl) ?_
            refine L_pur rfl (p_indexAddr rfl rfl Try.underlying62 ty68 (by omega) (by first | omega | (simp <;> omega))) ?_
            refine L_pur rfl (p_fieldAddr rfl fa68_4) ?_
            refine L_op (x_storeF (len := F.length) (c := encD c) rfl rfl ty37 rfl rfl (by repeat (first | with_reducible exact Pick.here | with_reducible assumption | with_reducible apply Pick.there)) (by simp only [Int.toNat_natCast, List.getElem?_map, hcc]; rfl) rfl ?_)
            refine J_rowEq (ys := (ys.set k (v99 c)).map encD) (by rw [List.map_set]; simp [v99, encD]) ?_
            refine L_nil ?_
            refine Q_blk_normal ?_
            refine Q_then ?_
            refine J_region ?_
            refine L_pur rfl (p_move rfl) ?_
            refine L_pur rfl (p_add64 rfl rfl (by omega)) ?_
            refine L_pur rfl (p_assign rfl) ?_
            refine L_nil ?_
            refine Q_then ?_
            exact J_again2 (k + 1) (ys.set k (v99 c)) (by omega) (⟨by omega, by simp [hyl], set_ids hy hcc⟩) (by repeat (first | exact Sub.nil | exact Sub.refl | refine Sub.cons (by repeat (first | exact Pick.here | apply Pick.there)) ?_ | refine Sub.drop ?_)) (by repeat (first | exact Keep.nil | refine Keep.cons rfl ?_))
        ·
          refine J_exit ?_
          refine Q_then_exit ?_
          refine Q_then_exit ?_
          refine Q_blk_this ?_
          refine Q_then ?_
          refine J_region ?_
          refine L_pur rfl (p_move rfl) ?_
          refine L_pur rfl (p_move rfl) ?_
          refine L_pur rfl (p_len rfl Try.underlying62) ?_
          refine L_pur rfl (p_add64 rfl rfl (by omega)) ?_
          refine L_pur rfl (p_assign rfl) ?_
          refine L_nil ?_
          refine Q_blk_normal ?_
          refine Q_then ?_
          refine J_region ?_
          refine L_pur rfl (p_move rfl) ?_
          refine L_pur rfl (p_add64 rfl rfl (by omega)) ?_
          refine L_pur rfl (p_assign rfl) ?_
          refine L_nil ?_
          refine Q_then ?_
          refine J_slot (t := 6) (v := .int .i64 ((upTo (dps zs zs.length) (r + 1) : Nat) : Int)) rfl (by rw [upTo_succ, hF]; simp) ?_
          exact J_again (r + 1) (by omega) (by omega) (by repeat (first | exact Sub.nil | exact Sub.refl | refine Sub.cons (by repeat (first | exact Pick.here | apply Pick.there)) ?_ | refine Sub.drop ?_)) (by repeat (first | exact Keep.nil | refine Keep.cons rfl ?_))
      ·
        have hr3 : r = 3 := by omega
        subst hr3
        refine J_exit ?_
        refine Q_then_exit ?_
        refine Q_then_exit ?_
        refine Q_blk_this ?_
        refine Q_then ?_
        refine J_seq ?_
        refine J_region ?_
        refine L_op (x_call Try.func42 nm42 bd42 (.cons rfl .nil) rfl (all (by repeat (first | with_reducible exact Pick.here | with_reducible assumption | with_reducible apply Pick.there)) (by rw [dps_len]; omega)) fun v105 => ?_)
        refine J_row .here fun hw105 a105 c105 hv105 hl105 hm105 hz105 => ?_
        subst hv105
        refine L_pur rfl (p_assign rfl) ?_
        refine L_nil ?_
        refine Q_then ?_
        refine J_seq ?_
        refine J_seq ?_
        refine J_region ?_
        refine L_pur rfl (p_move rfl) ?_
        refine L_pur rfl (p_len rfl Try.underlying62) ?_
        refine L_pur rfl (p_move rfl) ?_
        refine L_pur rfl (p_len rfl Try.underlying23) ?_
        refine L_pur rfl (p_neq rfl rfl) ?_
        refine L_pur rfl (p_move rfl) ?_
        refine J_bool (t := 111) (c := false) rfl (by simp [dps_len]) ?_
        refine L_op (G_on rfl rfl rfl ?_)
        refine J_pur (p_move rfl) rfl rfl rfl ?_
        refine L_op (G_on rfl rfl rfl ?_)
        refine J_pur (p_move rfl) rfl rfl rfl ?_
        refine L_op (G_on rfl rfl rfl ?_)
        refine J_pur (p_len rfl Try.underlying23) rfl rfl rfl ?_
        refine L_op (G_on rfl rfl rfl ?_)
        refine J_pur (p_neq rfl rfl) rfl rfl rfl ?_
        refine L_pur rfl (p_pick_f rfl rfl) ?_
        refine L_nil ?_
        refine Q_then ?_
        refine J_bool (t := 116) (c := false) rfl (by simp [upTo_all]) ?_
        refine C_false rfl ?_
        refine J_skip ?_
        refine Q_then ?_
        refine J_seq ?_
        refine J_seq ?_
        refine J_region ?_
        refine L_pur rfl (p_assign rfl) ?_
        refine L_nil ?_
        refine Q_then ?_
        refine J_block ?_
        refine J_loop (α := Nat) (fun i => i ≤ zs.length) (fun i => [row 68 7 (.slice a105 ((dps zs zs.length).map encD).length c105) ((dps zs zs.length).map encD), jA 64 b4 (dps zs zs.length), old W]) (fun i => [(13, .int .i64 (i : Int)), (12, .slice a105 ((dps zs zs.length).map encD).length c105), (0, .slice a (zs.map fun z => [Value.int .i64 z]).length cap), (3, .bool true), (4, .pointer (some ⟨b4, 0, none⟩))]) (fun i => zs.length - i) 0 (by omega) (by repeat (first | exact Sub.nil | exact Sub.refl | refine Sub.cons (by repeat (first | exact Pick.here | apply Pick.there)) ?_ | refine Sub.drop ?_)) (by repeat (first | exact Keep.nil | refine Keep.cons rfl ?_)) ?_
        intro i hi
        have hml5 : ((dps zs zs.length).map encD).length = zs.length := by simp [dps_len]
        refine J_seq ?_
        refine J_seq ?_
        refine J_region ?_
        refine L_pur rfl (p_move rfl) ?_
        refine L_pur rfl (p_move rfl) ?_
        refine L_pur rfl (p_len rfl Try.underlying62) ?_
        refine L_pur rfl (p_lss rfl rfl) ?_
        refine L_nil ?_
        refine Q_then ?_
        refine C_dec rfl (fun h120 => ?_) (fun h120 => ?_)
        ·
          have hlt : i < zs.length := by omega
          obtain ⟨b, o, rfl⟩ := h3 (by intro h; rw [h] at hml; simp at hml; omega)
          obtain ⟨z, hzz⟩ : ∃ z, zs[i]? = some z := ⟨_, List.getElem?_eq_getElem hlt⟩
          have hz : zs.getD i 0 = z := by simp [List.getD, hzz]
          obtain ⟨bo, oo, rfl⟩ := hz105 (by intro h; rw [h] at hml5; simp at hml5; omega)
          have hcc := dps_get (zs := zs) hlt
          have hfd := dps_find (zs := zs) hlt
          refine J_skip ?_
          refine Q_then ?_
          refine J_seq ?_
          refine J_block ?_
          refine J_seq ?_
          refine J_region ?_
          refine L_pur rfl (p_move rfl) ?_
          refine L_pur rfl (p_move rfl) ?_
          refine L_pur rfl (p_indexAddr rfl rfl Try.underlying23 ty3 (by omega) (by omega)) ?_
          refine L_val rfl (v_loadR1 rfl ty3 (fun w H => hr.old (by repeat (first | with_reducible exact Has.here | with_reducible assumption | with_reducible apply Has.there)) H) (by simp only [Int.toNat_natCast, List.getElem?_map, hzz]; rfl)) ?_
          refine L_op (x_call Try.func23 nm23 bd23 (.cons rfl (.cons rfl .nil)) rfl (number (by omega) (by omega)) fun _ => ?_)
          refine L_pur rfl (p_move rfl) ?_
          refine L_pur rfl (bld36 (.cons rfl (.cons rfl .nil)) (by repeat constructor)) ?_
          refine J_slot (t := 130) (v := .agg (encI (dp zs i).1).toArray) rfl (by simp only [dp, encI, hz]) ?_
          refine L_op (x_call Try.func37 nm37 bd37 (.cons rfl (.cons rfl .nil)) rfl (find (i := (dp zs i).1) (by repeat (first | with_reducible exact Pick.here | with_reducible assumption | with_reducible apply Pick.there)) (by rw [dps_len]; omega)) fun _ => ?_)
          refine L_pur rfl (p_move rfl) ?_
          refine L_pur rfl (p_extract rfl rfl) ?_
          refine L_pur rfl (p_extract rfl rfl) ?_
          refine L_pur rfl (p_assign rfl) ?_
          refine L_pur rfl (p_assign rfl) ?_
          refine L_nil ?_
          refine Q_then ?_
          refine J_seq ?_
          refine J_region ?_
          refine L_pur rfl (p_move rfl) ?_
          refine L_pur rfl (p_not rfl) ?_
          refine L_pur rfl (p_move rfl) ?_
          refine J_bool (t := 136) (c := false) rfl (by rw [(fAt_of hfd).2]; rfl) ?_
          refine L_op (G_on rfl rfl rfl ?_)
          refine J_pur (p_move rfl) rfl rfl rfl ?_
          refine L_op (G_on rfl rfl rfl ?_)
          refine J_pur (p_move rfl) rfl rfl rfl ?_
          refine L_op (G_on rfl rfl rfl ?_)
          refine J_pur (p_neq rfl rfl) rfl rfl rfl ?_
          refine L_pur rfl (p_pick_f rfl rfl) ?_
          refine L_pur rfl (p_move rfl) ?_
          refine J_bool (t := 141) (c := false) rfl (by rw [(fAt_of hfd).1]; simp) ?_
          refine L_op (G_on rfl rfl rfl ?_)
          refine J_pur (p_move rfl) rfl rfl rfl ?_
          refine L_op (G_on rfl rfl rfl ?_)
          refine J_pur (p_move rfl) rfl rfl rfl ?_
          refine L_op (G_on rfl rfl rfl ?_)
          refine J_pur (p_indexAddr rfl rfl Try.underlying62 ty68 (by omega) (by omega)) rfl rfl rfl ?_
          refine L_op (G_on rfl rfl rfl ?_)
          refine J_pur (p_fieldAddr rfl fa68_4) rfl rfl rfl ?_
          refine L_op (G_on rfl rfl rfl ?_)
          refine J_val (v_loadF rfl ty37 (by repeat (first | with_reducible exact Has.here | with_reducible assumption | with_reducible apply Has.there)) (by simp only [Int.toNat_natCast, List.getElem?_map, hcc]; rfl) (by exact rfl)) rfl rfl rfl ?_
          refine L_op (G_on rfl rfl rfl ?_)
          refine J_pur (p_move rfl) rfl rfl rfl ?_
          refine L_op (G_on rfl rfl rfl ?_)
          refine J_pur (p_conv rfl Try.underlying3 Try.underlying37) rfl rfl rfl ?_
          refine J_slot (t := 148) (v := .int .u32 (i : Int)) rfl (by rw [wrap32u_of ⟨by omega, by omega⟩]) ?_
          refine L_op (G_on rfl rfl rfl ?_)
          refine J_pur (p_neq rfl rfl) rfl rfl rfl ?_
          refine L_pur rfl (p_pick_f rfl rfl) ?_
          refine L_nil ?_
          refine Q_then ?_
          refine J_bool (t := 150) (c := false) rfl (by simp [dp]) ?_
          refine C_false rfl ?_
          refine J_skip ?_
          refine Q_blk_normal ?_
          refine Q_then ?_
          refine J_region ?_
          refine L_pur rfl (p_move rfl) ?_
          refine L_pur rfl (p_add64 rfl rfl (by omega)) ?_
          refine L_pur rfl (p_assign rfl) ?_
          refine L_nil ?_
          refine Q_then ?_
          exact J_again (i + 1) (by omega) (by omega) (by repeat (first | exact Sub.nil | exact Sub.refl | refine Sub.cons (by repeat (first | exact Pick.here | apply Pick.there)) ?_ | refine Sub.drop ?_)) (by repeat (first | exact Keep.nil | refine Keep.cons rfl ?_))
        ·
          refine J_exit ?_
          refine Q_then_exit ?_
          refine Q_then_exit ?_
          refine Q_blk_this ?_
          refine Q_then ?_
          refine J_seq ?_
          refine J_region ?_
          refine L_pur rfl (p_move rfl) ?_
          refine L_pur rfl (p_assign rfl) ?_
          refine L_nil ?_
          refine Q_then ?_
          refine J_ret ?_
          exact J_return (()) Try.results7 (.tmp rfl .nil) rfl (by repeat (first | exact Sub.nil | exact Sub.refl | refine Sub.cons (by repeat (first | exact Pick.here | apply Pick.there)) ?_ | refine Sub.drop ?_))

end Go.Pse
