/-
  More of the journal: copies, comparisons, the first examples.
-/
import Derived.Test.YtjolbnicboaaeaaJn1
namespace Go.Pse
open Go.RowKit Go.Proofs

set_option maxRecDepth 100000 in
theorem deeds {E : World} {l : List As} {v : Value} {xs : List (List Value)} (hr : ∀ w, Sep E w l → Reads w 7 v xs) (hb : xs.length ≤ 1000) :
    Con Try.prog 89 #[v] E l (fun v' : Value => v') (fun v' => row 68 7 v' xs :: l) := by
  refine Con.body (vs := [v]) (n := 22) Try.func89 rfl rfl [(0, v)] (env_ok 1 rfl) ?_
  refine J_readsB hr fun hw a cap hv h1 h2 h3 => ?_
  subst hv
  have hm : cap ≤ 9223372036854775807 := h2
  refine J_seq ?_
  refine J_region ?_
  refine L_pur rfl (p_assign rfl) ?_
  refine L_nil ?_
  refine Q_then ?_
  refine J_seq ?_
  refine J_region ?_
  refine L_pur rfl (p_move rfl) ?_
  refine L_pur rfl (p_len rfl Try.underlying62) ?_
  refine L_op (x_make (len := 0) rfl rfl Try.underlying62 ty68 rfl rfl (by omega) (by omega) rfl rfl fun v7 => ?_)
  refine J_rowEq (ys := ([] : List (List Value))) (rfl) ?_
  refine J_row .here fun hw7 a7 c7 hv7 hl7 hm7 hz7 => ?_
  subst hv7
  refine L_pur rfl (p_assign rfl) ?_
  refine L_nil ?_
  refine Q_then ?_
  refine J_seq ?_
  refine J_seq ?_
  refine J_region ?_
  refine L_pur rfl (p_assign rfl) ?_
  refine L_nil ?_
  refine Q_then ?_
  refine J_block ?_
  refine J_loop2 (fun k v => k ≤ xs.length) (fun k v => row 68 7 v (xs.take k) :: l) (fun k v => [(4, .int .i64 (k : Int)), (3, v), (0, .slice a xs.length cap)]) (fun k v => xs.length - k) 0 _ (by omega) (by repeat (first | exact Sub.nil | exact Sub.refl | refine Sub.cons (by repeat (first | exact Pick.here | apply Pick.there)) ?_ | refine Sub.drop ?_)) (by repeat (first | exact Keep.nil | refine Keep.cons rfl ?_)) ?_
  intro k v hk
  refine J_seq ?_
  refine J_seq ?_
  refine J_region ?_
  refine L_pur rfl (p_move rfl) ?_
  refine L_pur rfl (p_move rfl) ?_
  refine L_pur rfl (p_len rfl Try.underlying62) ?_
  refine L_pur rfl (p_lss rfl rfl) ?_
  refine L_nil ?_
  refine Q_then ?_
  refine C_dec rfl (fun h11 => ?_) (fun h11 => ?_)
  ·
    have hlt : k < xs.length := by omega
    obtain ⟨bx, ox, rfl⟩ := h3 (by intro h; rw [h] at hlt; simp at hlt)
    obtain ⟨c, hcc⟩ : ∃ c, xs[k]? = some c := ⟨_, List.getElem?_eq_getElem hlt⟩
    obtain ⟨hcl, hc1⟩ := hw c (List.mem_of_getElem? hcc)
    refine J_skip ?_
    refine Q_then ?_
    refine J_seq ?_
    refine J_block ?_
    refine J_region ?_
    refine L_pur rfl (p_move rfl) ?_
    refine L_pur rfl (p_move rfl) ?_
    refine L_pur rfl (p_move rfl) ?_
    refine L_pur rfl (p_indexAddr rfl rfl Try.underlying62 ty68 (by omega) (by omega)) ?_
    refine L_val rfl (v_loadR rfl ty68 (fun w H => hr w (Sub.sep (by repeat (first | exact Sub.nil | exact Sub.refl | refine Sub.cons (by repeat (first | exact Pick.here | apply Pick.there)) ?_ | refine Sub.drop ?_)) H)) (by simpa using hcc)) ?_
    refine L_op (x_lit (vals := [_]) Try.underlying62 ty68 rfl (.cons rfl .nil) (.agg .nil) (Wf.cons hcl hc1 Wf.nil) rfl (by decide) rfl rfl fun v19 => ?_)
    refine J_row .here fun hw19 a19 c19 hv19 hl19 hm19 hz19 => ?_
    subst hv19
    refine L_op (x_app rfl rfl Try.underlying62 ty68 rfl rfl (by repeat (first | with_reducible exact Pick.here | with_reducible assumption | with_reducible apply Pick.there)) (fun w H => sep_reads (by repeat (first | with_reducible exact Has.here | with_reducible assumption | with_reducible apply Has.there)) H) (by first | omega | (simp <;> omega)) (by first | omega | (simp <;> omega)) rfl fun v20 => ?_)
    refine J_rowEq (ys := xs.take (k + 1)) (by rw [List.take_add_one, hcc]; rfl) ?_
    refine J_row .here fun hw20 a20 c20 hv20 hl20 hm20 hz20 => ?_
    subst hv20
    refine L_pur rfl (p_assign rfl) ?_
    refine L_nil ?_
    refine Q_blk_normal ?_
    refine Q_then ?_
    refine J_region ?_
    refine L_pur rfl (p_move rfl) ?_
    refine L_pur rfl (p_add64 rfl rfl (by omega)) ?_
    refine L_pur rfl (p_assign rfl) ?_
    refine L_nil ?_
    refine Q_then ?_
    exact J_again2 (k + 1) _ (by omega) (by omega) (by repeat (first | exact Sub.nil | exact Sub.refl | refine Sub.cons (by repeat (first | exact Pick.here | apply Pick.there)) ?_ | refine Sub.drop ?_)) (by repeat (first | exact Keep.nil | refine Keep.cons rfl ?_))
  ·
    have hkx : k = xs.length := by omega
    subst hkx
    refine J_pick (A := row 68 7 v (xs.take xs.length)) (by repeat (first | with_reducible exact Pick.here | with_reducible assumption | with_reducible apply Pick.there)) ?_
    refine J_rowEq (ys := xs) (by simp) ?_
    refine J_exit ?_
    refine Q_then_exit ?_
    refine Q_then_exit ?_
    refine Q_blk_this ?_
    refine Q_then ?_
    refine J_seq ?_
    refine J_region ?_
    refine L_pur rfl (p_move rfl) ?_
    refine L_pur rfl (p_assign rfl) ?_
    refine L_nil ?_
    refine Q_then ?_
    refine J_ret ?_
    exact J_return (_) Try.results89 (.tmp rfl .nil) rfl (by repeat (first | exact Sub.nil | exact Sub.refl | refine Sub.cons (by repeat (first | exact Pick.here | apply Pick.there)) ?_ | refine Sub.drop ?_))

set_option maxRecDepth 100000 in
theorem radd {E : World} {l m : List As}{b : Nat} {xs : List Deed} (hp : Pick (jA 66 b xs) l m) (hb : xs.length ≤ 1000) (d : Deed) :
    Con Try.prog 36 #[.pointer (some ⟨b, 0, none⟩), .agg (encD d).toArray] E l (fun _ : Unit => .tuple #[]) (fun _ => jA 66 b (xs ++ [d]) :: m) := by
  refine Con.body (vs := [.pointer (some ⟨b, 0, none⟩), .agg (encD d).toArray]) (n := 15) Try.func36 rfl rfl [(0, .pointer (some ⟨b, 0, none⟩)), (1, .agg (encD d).toArray)] (env_ok 2 rfl) ?_
  refine J_pick hp ?_
  refine J_ex fun vj => ?_
  refine J_all2 ?_
  refine J_seq ?_
  refine J_region ?_
  refine L_op (x_box rfl rfl rfl fun b3 => ?_)
  refine L_nil ?_
  refine Q_then ?_
  refine J_draw mixed ?_
  refine A_take (i := 0) rfl rfl rfl rfl (by kernel_rfl) (by kernel_rfl) (by kernel_rfl) (fun _ _ _ _ h => h) (p_move rfl) ?_
  refine A_take (i := 1) rfl rfl rfl rfl (by kernel_rfl) (by kernel_rfl) (by kernel_rfl) (fun _ _ _ _ h => h) (p_move rfl) ?_
  refine A_take (i := 2) rfl rfl rfl rfl (by kernel_rfl) (by kernel_rfl) (by kernel_rfl) (fun _ _ _ _ h => h) (p_nilCheck rfl) ?_
  refine A_take (i := 3) rfl rfl rfl rfl (by kernel_rfl) (by kernel_rfl) (by kernel_rfl) (fun _ _ _ _ h => h) (p_fieldAddr rfl fa66_0) ?_
  refine A_ready (rs := [4, 6]) (by kernel_rfl) (by simp) ?_
  refine (A_cons rfl ?_ (A_cons rfl ?_ A_nil))
  ·
    refine J_val (v_load rfl ty62 (by repeat (first | with_reducible exact Has.here | with_reducible assumption | with_reducible apply Has.there)) (by exact rfl)) rfl rfl rfl ?_
    refine A_ready (rs := [5, 6]) (by kernel_rfl) (by simp) ?_
    refine (A_cons rfl ?_ (A_cons rfl ?_ A_nil))
    ·
      refine x_call Try.func89 nm89 bd89 (.cons rfl .nil) rfl (deeds (xs := xs.map encD) (fun w H => sep_reads (xs := xs.map encD) (by repeat (first | with_reducible exact Has.here | with_reducible assumption | with_reducible apply Has.there)) H) (by simp; omega)) fun v9 => ?_
      refine J_row .here fun hw9 a9 c9 hv9 hl9 hm9 hz9 => ?_
      subst hv9
      refine A_one (i := 6) (by kernel_rfl) rfl ?_
      refine J_val (v_loadA rfl ty68 (by repeat (first | with_reducible exact Has.here | with_reducible assumption | with_reducible apply Has.there)) (by first | exact Cut.full rfl | ((repeat constructor); done) | exact Cut.full (by first | rfl | simp [*]))) rfl rfl rfl ?_
      refine A_one (i := 7) (by kernel_rfl) rfl ?_
      refine x_lit (vals := [_]) Try.underlying62 ty68 rfl (.cons rfl .nil) (.agg .nil) (Wf.cons rfl rfl Wf.nil) rfl (by decide) rfl rfl fun v11 => ?_
      refine J_row .here fun hw11 a11 c11 hv11 hl11 hm11 hz11 => ?_
      subst hv11
      refine A_one (i := 8) (by kernel_rfl) rfl ?_
      refine x_app rfl rfl Try.underlying62 ty68 rfl rfl (by repeat (first | with_reducible exact Pick.here | with_reducible assumption | with_reducible apply Pick.there)) (fun w H => sep_reads (by repeat (first | with_reducible exact Has.here | with_reducible assumption | with_reducible apply Has.there)) H) (by first | omega | (simp <;> omega)) (by first | omega | (simp <;> omega)) rfl fun v12 => ?_
      refine J_rowEq (ys := (xs ++ [d]).map encD) (by simp) ?_
      refine J_row .here fun hw12 a12 c12 hv12 hl12 hm12 hz12 => ?_
      subst hv12
      refine A_take (i := 9) rfl rfl rfl rfl (by kernel_rfl) (by kernel_rfl) (by kernel_rfl) (fun _ _ _ _ h => h) (p_nilCheck rfl) ?_
      refine A_take (i := 10) rfl rfl rfl rfl (by kernel_rfl) (by kernel_rfl) (by kernel_rfl) (fun _ _ _ _ h => h) (p_fieldAddr rfl fa66_0) ?_
      refine A_one (i := 11) (by kernel_rfl) rfl ?_
      refine x_store rfl rfl ty62 rfl (by first | rfl | (simp [*]; done)) (by first | rfl | (simp [*]; done)) (by repeat (first | with_reducible exact Rep1.here | with_reducible apply Rep1.there)) (by first | exact Put.full rfl | ((repeat constructor); done) | exact Put.full (by first | rfl | simp [*])) ?_
      refine A_done (by kernel_rfl) ?_
      refine J_endnormal ?_
      refine J_shut2 (f := jF 66 b (xs ++ [d])) _ rfl (by repeat (first | with_reducible exact Pick.here | with_reducible assumption | with_reducible apply Pick.there)) (by repeat (first | with_reducible exact Pick.here | with_reducible assumption | with_reducible apply Pick.there)) ?_
      exact J_return (()) Try.results36 .nil rfl (by repeat (first | exact Sub.nil | exact Sub.refl | refine Sub.cons (by repeat (first | exact Pick.here | apply Pick.there)) ?_ | refine Sub.drop ?_))
    ·
      refine J_val (v_loadA rfl ty68 (by repeat (first | with_reducible exact Has.here | with_reducible assumption | with_reducible apply Has.there)) (by first | exact Cut.full rfl | ((repeat constructor); done) | exact Cut.full (by first | rfl | simp [*]))) rfl rfl rfl ?_
      refine A_ready (rs := [5, 7]) (by kernel_rfl) (by simp) ?_
      refine (A_cons rfl ?_ (A_cons rfl ?_ A_nil))
      ·
        refine x_call Try.func89 nm89 bd89 (.cons rfl .nil) rfl (deeds (xs := xs.map encD) (fun w H => sep_reads (xs := xs.map encD) (by repeat (first | with_reducible exact Has.here | with_reducible assumption | with_reducible apply Has.there)) H) (by simp; omega)) fun v9 => ?_
        refine J_row .here fun hw9 a9 c9 hv9 hl9 hm9 hz9 => ?_
        subst hv9
        refine A_one (i := 7) (by kernel_rfl) rfl ?_
        refine x_lit (vals := [_]) Try.underlying62 ty68 rfl (.cons rfl .nil) (.agg .nil) (Wf.cons rfl rfl Wf.nil) rfl (by decide) rfl rfl fun v11 => ?_
        refine J_row .here fun hw11 a11 c11 hv11 hl11 hm11 hz11 => ?_
        subst hv11
        refine A_one (i := 8) (by kernel_rfl) rfl ?_
        refine x_app rfl rfl Try.underlying62 ty68 rfl rfl (by repeat (first | with_reducible exact Pick.here | with_reducible assumption | with_reducible apply Pick.there)) (fun w H => sep_reads (by repeat (first | with_reducible exact Has.here | with_reducible assumption | with_reducible apply Has.there)) H) (by first | omega | (simp <;> omega)) (by first | omega | (simp <;> omega)) rfl fun v12 => ?_
        refine J_rowEq (ys := (xs ++ [d]).map encD) (by simp) ?_
        refine J_row .here fun hw12 a12 c12 hv12 hl12 hm12 hz12 => ?_
        subst hv12
        refine A_take (i := 9) rfl rfl rfl rfl (by kernel_rfl) (by kernel_rfl) (by kernel_rfl) (fun _ _ _ _ h => h) (p_nilCheck rfl) ?_
        refine A_take (i := 10) rfl rfl rfl rfl (by kernel_rfl) (by kernel_rfl) (by kernel_rfl) (fun _ _ _ _ h => h) (p_fieldAddr rfl fa66_0) ?_
        refine A_one (i := 11) (by kernel_rfl) rfl ?_
        refine x_store rfl rfl ty62 rfl (by first | rfl | (simp [*]; done)) (by first | rfl | (simp [*]; done)) (by repeat (first | with_reducible exact Rep1.here | with_reducible apply Rep1.there)) (by first | exact Put.full rfl | ((repeat constructor); done) | exact Put.full (by first | rfl | simp [*])) ?_
        refine A_done (by kernel_rfl) ?_
        refine J_endnormal ?_
        refine J_shut2 (f := jF 66 b (xs ++ [d])) _ rfl (by repeat (first | with_reducible exact Pick.here | with_reducible assumption | with_reducible apply Pick.there)) (by repeat (first | with_reducible exact Pick.here | with_reducible assumption | with_reducible apply Pick.there)) ?_
        exact J_return (()) Try.results36 .nil rfl (by repeat (first | exact Sub.nil | exact Sub.refl | refine Sub.cons (by repeat (first | exact Pick.here | apply Pick.there)) ?_ | refine Sub.drop ?_))
      ·
        refine x_lit (vals := [_]) Try.underlying62 ty68 rfl (.cons rfl .nil) (.agg .nil) (Wf.cons rfl rfl Wf.nil) rfl (by decide) rfl rfl fun v11 => ?_
        refine J_row .here fun hw11 a11 c11 hv11 hl11 hm11 hz11 => ?_
        subst hv11
        refine A_one (i := 5) (by kernel_rfl) rfl ?_
        refine x_call Try.func89 nm89 bd89 (.cons rfl .nil) rfl (deeds (xs := xs.map encD) (fun w H => sep_reads (xs := xs.map encD) (by repeat (first | with_reducible exact Has.here | with_reducible assumption | with_reducible apply Has.there)) H) (by simp; omega)) fun v9 => ?_
        refine J_row .here fun hw9 a9 c9 hv9 hl9 hm9 hz9 => ?_
        subst hv9
        refine A_one (i := 8) (by kernel_rfl) rfl ?_
        refine x_app rfl rfl Try.underlying62 ty68 rfl rfl (by repeat (first | with_reducible exact Pick.here | with_reducible assumption | with_reducible apply Pick.there)) (fun w H => sep_reads (by repeat (first | with_reducible exact Has.here | with_reducible assumption | with_reducible apply Has.there)) H) (by first | omega | (simp <;> omega)) (by first | omega | (simp <;> omega)) rfl fun v12 => ?_
        refine J_rowEq (ys := (xs ++ [d]).map encD) (by simp) ?_
        refine J_row .here fun hw12 a12 c12 hv12 hl12 hm12 hz12 => ?_
        subst hv12
        refine A_take (i := 9) rfl rfl rfl rfl (by kernel_rfl) (by kernel_rfl) (by kernel_rfl) (fun _ _ _ _ h => h) (p_nilCheck rfl) ?_
        refine A_take (i := 10) rfl rfl rfl rfl (by kernel_rfl) (by kernel_rfl) (by kernel_rfl) (fun _ _ _ _ h => h) (p_fieldAddr rfl fa66_0) ?_
        refine A_one (i := 11) (by kernel_rfl) rfl ?_
        refine x_store rfl rfl ty62 rfl (by first | rfl | (simp [*]; done)) (by first | rfl | (simp [*]; done)) (by repeat (first | with_reducible exact Rep1.here | with_reducible apply Rep1.there)) (by first | exact Put.full rfl | ((repeat constructor); done) | exact Put.full (by first | rfl | simp [*])) ?_
        refine A_done (by kernel_rfl) ?_
        refine J_endnormal ?_
        refine J_shut2 (f := jF 66 b (xs ++ [d])) _ rfl (by repeat (first | with_reducible exact Pick.here | with_reducible assumption | with_reducible apply Pick.there)) (by repeat (first | with_reducible exact Pick.here | with_reducible assumption | with_reducible apply Pick.there)) ?_
        exact J_return (()) Try.results36 .nil rfl (by repeat (first | exact Sub.nil | exact Sub.refl | refine Sub.cons (by repeat (first | exact Pick.here | apply Pick.there)) ?_ | refine Sub.drop ?_))
  ·
    refine J_val (v_loadA rfl ty68 (by repeat (first | with_reducible exact Has.here | with_reducible assumption | with_reducible apply Has.there)) (by first | exact Cut.full rfl | ((repeat constructor); done) | exact Cut.full (by first | rfl | simp [*]))) rfl rfl rfl ?_
    refine A_ready (rs := [4, 7]) (by kernel_rfl) (by simp) ?_
    refine (A_cons rfl ?_ (A_cons rfl ?_ A_nil))
    ·
      refine J_val (v_load rfl ty62 (by repeat (first | with_reducible exact Has.here | with_reducible assumption | with_reducible apply Has.there)) (by exact rfl)) rfl rfl rfl ?_
      refine A_ready (rs := [5, 7]) (by kernel_rfl) (by simp) ?_
      refine (A_cons rfl ?_ (A_cons rfl ?_ A_nil))
      ·
        refine x_call Try.func89 nm89 bd89 (.cons rfl .nil) rfl (deeds (xs := xs.map encD) (fun w H => sep_reads (xs := xs.map encD) (by repeat (first | with_reducible exact Has.here | with_reducible assumption | with_reducible apply Has.there)) H) (by simp; omega)) fun v9 => ?_
        refine J_row .here fun hw9 a9 c9 hv9 hl9 hm9 hz9 => ?_
        subst hv9
        refine A_one (i := 7) (by kernel_rfl) rfl ?_
        refine x_lit (vals := [_]) Try.underlying62 ty68 rfl (.cons rfl .nil) (.agg .nil) (Wf.cons rfl rfl Wf.nil) rfl (by decide) rfl rfl fun v11 => ?_
        refine J_row .here fun hw11 a11 c11 hv11 hl11 hm11 hz11 => ?_
        subst hv11
        refine A_one (i := 8) (by kernel_rfl) rfl ?_
        refine x_app rfl rfl Try.underlying62 ty68 rfl rfl (by repeat (first | with_reducible exact Pick.here | with_reducible assumption | with_reducible apply Pick.there)) (fun w H => sep_reads (by repeat (first | with_reducible exact Has.here | with_reducible assumption | with_reducible apply Has.there)) H) (by first | omega | (simp <;> omega)) (by first | omega | (simp <;> omega)) rfl fun v12 => ?_
        refine J_rowEq (ys := (xs ++ [d]).map encD) (by simp) ?_
        refine J_row .here fun hw12 a12 c12 hv12 hl12 hm12 hz12 => ?_
        subst hv12
        refine A_take (i := 9) rfl rfl rfl rfl (by kernel_rfl) (by kernel_rfl) (by kernel_rfl) (fun _ _ _ _ h => h) (p_nilCheck rfl) ?_
        refine A_take (i := 10) rfl rfl rfl rfl (by kernel_rfl) (by kernel_rfl) (by kernel_rfl) (fun _ _ _ _ h => h) (p_fieldAddr rfl fa66_0) ?_
        refine A_one (i := 11) (by kernel_rfl) rfl ?_
        refine x_store rfl rfl ty62 rfl (by first | rfl | (simp [*]; done)) (by first | rfl | (simp [*]; done)) (by repeat (first | with_reducible exact Rep1.here | with_reducible apply Rep1.there)) (by first | exact Put.full rfl | ((repeat constructor); done) | exact Put.full (by first | rfl | simp [*])) ?_
        refine A_done (by kernel_rfl) ?_
        refine J_endnormal ?_
        refine J_shut2 (f := jF 66 b (xs ++ [d])) _ rfl (by repeat (first | with_reducible exact Pick.here | with_reducible assumption | with_reducible apply Pick.there)) (by repeat (first | with_reducible exact Pick.here | with_reducible assumption | with_reducible apply Pick.there)) ?_
        exact J_return (()) Try.results36 .nil rfl (by repeat (first | exact Sub.nil | exact Sub.refl | refine Sub.cons (by repeat (first | exact Pick.here | apply Pick.there)) ?_ | refine Sub.drop ?_))
      ·
        refine x_lit (vals := [_]) Try.underlying62 ty68 rfl (.cons rfl .nil) (.agg .nil) (Wf.cons rfl rfl Wf.nil) rfl (by decide) rfl rfl fun v11 => ?_
        refine J_row .here fun hw11 a11 c11 hv11 hl11 hm11 hz11 => ?_
        subst hv11
        refine A_one (i := 5) (by kernel_rfl) rfl ?_
        refine x_call Try.func89 nm89 bd89 (.cons rfl .nil) rfl (deeds (xs := xs.map encD) (fun w H => sep_reads (xs := xs.map encD) (by repeat (first | with_reducible exact Has.here | with_reducible assumption | with_reducible apply Has.there)) H) (by simp; omega)) fun v9 => ?_
        refine J_row .here fun hw9 a9 c9 hv9 hl9 hm9 hz9 => ?_
        subst hv9
        refine A_one (i := 8) (by kernel_rfl) rfl ?_
        refine x_app rfl rfl Try.underlying62 ty68 rfl rfl (by repeat (first | with_reducible exact Pick.here | with_reducible assumption | with_reducible apply Pick.there)) (fun w H => sep_reads (by repeat (first | with_reducible exact Has.here | with_reducible assumption | with_reducible apply Has.there)) H) (by first | omega | (simp <;> omega)) (by first | omega | (simp <;> omega)) rfl fun v12 => ?_
        refine J_rowEq (ys := (xs ++ [d]).map encD) (by simp) ?_
        refine J_row .here fun hw12 a12 c12 hv12 hl12 hm12 hz12 => ?_
        subst hv12
        refine A_take (i := 9) rfl rfl rfl rfl (by kernel_rfl) (by kernel_rfl) (by kernel_rfl) (fun _ _ _ _ h => h) (p_nilCheck rfl) ?_
        refine A_take (i := 10) rfl rfl rfl rfl (by kernel_rfl) (by kernel_rfl) (by kernel_rfl) (fun _ _ _ _ h => h) (p_fieldAddr rfl fa66_0) ?_
        refine A_one (i := 11) (by kernel_rfl) rfl ?_
        refine x_store rfl rfl ty62 rfl (by first | rfl | (simp [*]; done)) (by first | rfl | (simp [*]; done)) (by repeat (first | with_reducible exact Rep1.here | with_reducible apply Rep1.there)) (by first | exact Put.full rfl | ((repeat constructor); done) | exact Put.full (by first | rfl | simp [*])) ?_
        refine A_done (by kernel_rfl) ?_
        refine J_endnormal ?_
        refine J_shut2 (f := jF 66 b (xs ++ [d])) _ rfl (by repeat (first | with_reducible exact Pick.here | with_reducible assumption | with_reducible apply Pick.there)) (by repeat (first | with_reducible exact Pick.here | with_reducible assumption | with_reducible apply Pick.there)) ?_
        exact J_return (()) Try.results36 .nil rfl (by repeat (first | exact Sub.nil | exact Sub.refl | refine Sub.cons (by repeat (first | exact Pick.here | apply Pick.there)) ?_ | refine Sub.drop ?_))
    ·
      refine x_lit (vals := [_]) Try.underlying62 ty68 rfl (.cons rfl .nil) (.agg .nil) (Wf.cons rfl rfl Wf.nil) rfl (by decide) rfl rfl fun v11 => ?_
      refine J_row .here fun hw11 a11 c11 hv11 hl11 hm11 hz11 => ?_
      subst hv11
      refine A_one (i := 4) (by kernel_rfl) rfl ?_
      refine J_val (v_load rfl ty62 (by repeat (first | with_reducible exact Has.here | with_reducible assumption | with_reducible apply Has.there)) (by exact rfl)) rfl rfl rfl ?_
      refine A_one (i := 5) (by kernel_rfl) rfl ?_
      refine x_call Try.func89 nm89 bd89 (.cons rfl .nil) rfl (deeds (xs := xs.map encD) (fun w H => sep_reads (xs := xs.map encD) (by repeat (first | with_reducible exact Has.here | with_reducible assumption | with_reducible apply Has.there)) H) (by simp; omega)) fun v9 => ?_
      refine J_row .here fun hw9 a9 c9 hv9 hl9 hm9 hz9 => ?_
      subst hv9
      refine A_one (i := 8) (by kernel_rfl) rfl ?_
      refine x_app rfl rfl Try.underlying62 ty68 rfl rfl (by repeat (first | with_reducible exact Pick.here | with_reducible assumption | with_reducible apply Pick.there)) (fun w H => sep_reads (by repeat (first | with_reducible exact Has.here | with_reducible assumption | with_reducible apply Has.there)) H) (by first | omega | (simp <;> omega)) (by first | omega | (simp <;> omega)) rfl fun v12 => ?_
      refine J_rowEq (ys := (xs ++ [d]).map encD) (by simp) ?_
      refine J_row .here fun hw12 a12 c12 hv12 hl12 hm12 hz12 => ?_
      subst hv12
      refine A_take (i := 9) rfl rfl rfl rfl (by kernel_rfl) (by kernel_rfl) (by kernel_rfl) (fun _ _ _ _ h => h) (p_nilCheck rfl) ?_
      refine A_take (i := 10) rfl rfl rfl rfl (by kernel_rfl) (by kernel_rfl) (by kernel_rfl) (fun _ _ _ _ h => h) (p_fieldAddr rfl fa66_0) ?_
      refine A_one (i := 11) (by kernel_rfl) rfl ?_
      refine x_store rfl rfl ty62 rfl (by first | rfl | (simp [*]; done)) (by first | rfl | (simp [*]; done)) (by repeat (first | with_reducible exact Rep1.here | with_reducible apply Rep1.there)) (by first | exact Put.full rfl | ((repeat constructor); done) | exact Put.full (by first | rfl | simp [*])) ?_
      refine A_done (by kernel_rfl) ?_
      refine J_endnormal ?_
      refine J_shut2 (f := jF 66 b (xs ++ [d])) _ rfl (by repeat (first | with_reducible exact Pick.here | with_reducible assumption | with_reducible apply Pick.there)) (by repeat (first | with_reducible exact Pick.here | with_reducible assumption | with_reducible apply Pick.there)) ?_
      exact J_return (()) Try.results36 .nil rfl (by repeat (first | exact Sub.nil | exact Sub.refl | refine Sub.cons (by repeat (first | exact Pick.here | apply Pick.there)) ?_ | refine Sub.drop ?_))

set_option maxRecDepth 100000 in
theorem sameDeed {E : World} {l : List As} (d : Deed) :
    Con Try.prog 92 #[.agg (encD d).toArray, .agg (encD d).toArray] E l (fun _ : Unit => .bool true) (fun _ => l) := by
  refine Con.body (vs := [.agg (encD d).toArray, .agg (encD d).toArray]) (n := 45) Try.func92 rfl rfl [(0, .agg (encD d).toArray), (1, .agg (encD d).toArray)] (env_ok 2 rfl) ?_
  refine J_seq ?_
  refine J_region ?_
  refine L_op (x_box rfl rfl rfl fun b2 => ?_)
  refine L_op (x_box rfl rfl rfl fun b3 => ?_)
  refine L_pur rfl (p_assign rfl) ?_
  refine L_nil ?_
  refine Q_then ?_
  refine J_seq ?_
  refine J_region ?_
  refine L_pur rfl (p_fieldAddr rfl fa68_0) ?_
  refine L_val rfl (v_loadA rfl ty36 (by repeat (first | with_reducible exact Has.here | with_reducible assumption | with_reducible apply Has.there)) (by first | exact Cut.full rfl | ((repeat constructor); done) | exact Cut.full (by first | rfl | simp [*]))) ?_
  refine L_pur rfl (p_fieldAddr rfl fa68_0) ?_
  refine L_val rfl (v_loadA rfl ty36 (by repeat (first | with_reducible exact Has.here | with_reducible assumption | with_reducible apply Has.there)) (by first | exact Cut.full rfl | ((repeat constructor); done) | exact Cut.full (by first | rfl | simp [*]))) ?_
  refine L_pur rfl (p_eqv rfl rfl (fun w => eg36 _ _ _ _ _ w) (fun w => eqv36 _ _ _ _ w)) ?_
  refine L_pur rfl (p_move rfl) ?_
  refine J_bool (t := 10) (c := true) rfl (by simp) ?_
  refine L_op (G_on rfl rfl rfl ?_)
  refine J_pur (p_fieldAddr rfl fa68_1) rfl rfl rfl ?_
  refine L_op (G_on rfl rfl rfl ?_)
  refine J_val (v_load rfl ty37 (by repeat (first | with_reducible exact Has.here | with_reducible assumption | with_reducible apply Has.there)) (by exact rfl)) rfl rfl rfl ?_
  refine L_op (G_on rfl rfl rfl ?_)
  refine J_pur (p_fieldAddr rfl fa68_1) rfl rfl rfl ?_
  refine L_op (G_on rfl rfl rfl ?_)
  refine J_val (v_load rfl ty37 (by repeat (first | with_reducible exact Has.here | with_reducible assumption | with_reducible apply Has.there)) (by exact rfl)) rfl rfl rfl ?_
  refine L_op (G_on rfl rfl rfl ?_)
  refine J_pur (p_eql rfl rfl) rfl rfl rfl ?_
  refine L_pur rfl (p_pick_t rfl rfl) ?_
  refine L_pur rfl (p_move rfl) ?_
  refine J_bool (t := 17) (c := true) rfl (by simp) ?_
  refine L_op (G_on rfl rfl rfl ?_)
  refine J_pur (p_fieldAddr rfl fa68_2) rfl rfl rfl ?_
  refine L_op (G_on rfl rfl rfl ?_)
  refine J_val (v_load rfl ty3 (by repeat (first | with_reducible exact Has.here | with_reducible assumption | with_reducible apply Has.there)) (by exact rfl)) rfl rfl rfl ?_
  refine L_op (G_on rfl rfl rfl ?_)
  refine J_pur (p_fieldAddr rfl fa68_2) rfl rfl rfl ?_
  refine L_op (G_on rfl rfl rfl ?_)
  refine J_val (v_load rfl ty3 (by repeat (first | with_reducible exact Has.here | with_reducible assumption | with_reducible apply Has.there)) (by exact rfl)) rfl rfl rfl ?_
  refine L_op (G_on rfl rfl rfl ?_)
  refine J_pur (p_eql rfl rfl) rfl rfl rfl ?_
  refine L_pur rfl (p_pick_t rfl rfl) ?_
  refine L_pur rfl (p_move rfl) ?_
  refine J_bool (t := 24) (c := true) rfl (by simp) ?_
  refine L_op (G_on rfl rfl rfl ?_)
  refine J_pur (p_fieldAddr rfl fa68_3) rfl rfl rfl ?_
  refine L_op (G_on rfl rfl rfl ?_)
  refine J_val (v_load rfl ty3 (by repeat (first | with_reducible exact Has.here | with_reducible assumption | with_reducible apply Has.there)) (by exact rfl)) rfl rfl rfl ?_
  refine L_op (G_on rfl rfl rfl ?_)
  refine J_pur (p_fieldAddr rfl fa68_3) rfl rfl rfl ?_
  refine L_op (G_on rfl rfl rfl ?_)
  refine J_val (v_load rfl ty3 (by repeat (first | with_reducible exact Has.here | with_reducible assumption | with_reducible apply Has.there)) (by exact rfl)) rfl rfl rfl ?_
  refine L_op (G_on rfl rfl rfl ?_)
  refine J_pur (p_eql rfl rfl) rfl rfl rfl ?_
  refine L_pur rfl (p_pick_t rfl rfl) ?_
  refine L_pur rfl (p_move rfl) ?_
  refine J_bool (t := 31) (c := true) rfl (by simp) ?_
  refine L_op (G_on rfl rfl rfl ?_)
  refine J_pur (p_fieldAddr rfl fa68_4) rfl rfl rfl ?_
  refine L_op (G_on rfl rfl rfl ?_)
  refine J_val (v_load rfl ty37 (by repeat (first | with_reducible exact Has.here | with_reducible assumption | with_reducible apply Has.there)) (by exact rfl)) rfl rfl rfl ?_
  refine L_op (G_on rfl rfl rfl ?_)
  refine J_pur (p_fieldAddr rfl fa68_4) rfl rfl rfl ?_
  refine L_op (G_on rfl rfl rfl ?_)
  refine J_val (v_load rfl ty37 (by repeat (first | with_reducible exact Has.here | with_reducible assumption | with_reducible apply Has.there)) (by exact rfl)) rfl rfl rfl ?_
  refine L_op (G_on rfl rfl rfl ?_)
  refine J_pur (p_eql rfl rfl) rfl rfl rfl ?_
  refine L_pur rfl (p_pick_t rfl rfl) ?_
  refine L_pur rfl (p_move rfl) ?_
  refine J_bool (t := 38) (c := true) rfl (by simp) ?_
  refine L_op (G_on rfl rfl rfl ?_)
  refine J_pur (p_fieldAddr rfl fa68_5) rfl rfl rfl ?_
  refine L_op (G_on rfl rfl rfl ?_)
  refine J_val (v_load rfl ty4 (by repeat (first | with_reducible exact Has.here | with_reducible assumption | with_reducible apply Has.there)) (by exact rfl)) rfl rfl rfl ?_
  refine L_op (G_on rfl rfl rfl ?_)
  refine J_pur (p_fieldAddr rfl fa68_5) rfl rfl rfl ?_
  refine L_op (G_on rfl rfl rfl ?_)
  refine J_val (v_load rfl ty4 (by repeat (first | with_reducible exact Has.here | with_reducible assumption | with_reducible apply Has.there)) (by exact rfl)) rfl rfl rfl ?_
  refine L_op (G_on rfl rfl rfl ?_)
  refine J_pur (p_eqb Try.underlying4 rfl rfl) rfl rfl rfl ?_
  refine L_pur rfl (p_pick_t rfl rfl) ?_
  refine J_bool (t := 44) (c := true) rfl (by simp) ?_
  refine L_pur rfl (p_assign rfl) ?_
  refine L_nil ?_
  refine Q_then ?_
  refine J_ret ?_
  exact J_return (()) Try.results92 (.tmp rfl .nil) rfl (by repeat (first | exact Sub.nil | exact Sub.refl | refine Sub.cons (by repeat (first | exact Pick.here | apply Pick.there)) ?_ | refine Sub.drop ?_))

set_option maxRecDepth 100000 in
theorem sameDeeds {E : World} {l : List As} {v u : Value} {xs : List Deed} (hr : ∀ w, Sep E w l → Reads w 7 v (xs.map encD)) (hs : ∀ w, Sep E w l → Reads w 7 u (xs.map encD)) (hb : xs.length ≤ 1000) :
    Con Try.prog 41 #[v, u] E l (fun _ : Unit => .bool true) (fun _ => l) := by
  refine Con.body (vs := [v, u]) (n := 29) Try.func41 rfl rfl [(0, v), (1, u)] (env_ok 2 rfl) ?_
  refine J_readsB hr fun hw a cap hv h1 h2 h3 => ?_
  subst hv
  refine J_readsB hs fun hw' a' cap' hv h1' h2' h3' => ?_
  subst hv
  have hm : cap ≤ 9223372036854775807 := h2
  have hm' : cap' ≤ 9223372036854775807 := h2'
  have hml : (xs.map encD).length = xs.length := List.length_map _
  refine J_seq ?_
  refine J_region ?_
  refine L_pur rfl (p_assign rfl) ?_
  refine L_nil ?_
  refine Q_then ?_
  refine J_seq ?_
  refine J_seq ?_
  refine J_region ?_
  refine L_pur rfl (p_move rfl) ?_
  refine L_pur rfl (p_len rfl Try.underlying62) ?_
  refine L_pur rfl (p_move rfl) ?_
  refine L_pur rfl (p_len rfl Try.underlying62) ?_
  refine L_pur rfl (p_neq rfl rfl) ?_
  refine L_nil ?_
  refine Q_then ?_
  refine J_bool (t := 11) (c := false) rfl (by simp) ?_
  refine C_false rfl ?_
  refine J_skip ?_
  refine Q_then ?_
  refine J_seq ?_
  refine J_seq ?_
  refine J_region ?_
  refine L_pur rfl (p_assign rfl) ?_
  refine L_nil ?_
  refine Q_then ?_
  refine J_block ?_
  refine J_loop (α := Nat) (fun k => k ≤ xs.length) (fun _ => l) (fun k => [(5, .int .i64 (k : Int)), (0, .slice a (xs.map encD).length cap), (1, .slice a' (xs.map encD).length cap')]) (fun k => xs.length - k) 0 (by omega) (by repeat (first | exact Sub.nil | exact Sub.refl | refine Sub.cons (by repeat (first | exact Pick.here | apply Pick.there)) ?_ | refine Sub.drop ?_)) (by repeat (first | exact Keep.nil | refine Keep.cons rfl ?_)) ?_
  intro k hk
  refine J_seq ?_
  refine J_seq ?_
  refine J_region ?_
  refine L_pur rfl (p_move rfl) ?_
  refine L_pur rfl (p_move rfl) ?_
  refine L_pur rfl (p_len rfl Try.underlying62) ?_
  refine L_pur rfl (p_lss rfl rfl) ?_
  refine L_nil ?_
  refine Q_then ?_
  refine C_dec rfl (fun h15 => ?_) (fun h15 => ?_)
  ·
    have hlt : k < xs.length := by omega
    obtain ⟨bx, ox, rfl⟩ := h3 (by intro h; rw [h] at hml; simp at hml; omega)
    obtain ⟨by', oy, rfl⟩ := h3' (by intro h; rw [h] at hml; simp at hml; omega)
    obtain ⟨c, hcc⟩ : ∃ c, xs[k]? = some c := ⟨_, List.getElem?_eq_getElem hlt⟩
    refine J_skip ?_
    refine Q_then ?_
    refine J_seq ?_
    refine J_block ?_
    refine J_seq ?_
    refine J_draw mixed ?_
    refine A_take (i := 0) rfl rfl rfl rfl (by kernel_rfl) (by kernel_rfl) (by kernel_rfl) (fun _ _ _ _ h => h) (p_move rfl) ?_
    refine A_take (i := 1) rfl rfl rfl rfl (by kernel_rfl) (by kernel_rfl) (by kernel_rfl) (fun _ _ _ _ h => h) (p_move rfl) ?_
    refine A_take (i := 2) rfl rfl rfl rfl (by kernel_rfl) (by kernel_rfl) (by kernel_rfl) (fun _ _ _ _ h => h) (p_indexAddr rfl rfl Try.underlying62 ty68 (by omega) (by omega)) ?_
    refine A_take (i := 4) rfl rfl rfl rfl (by kernel_rfl) (by kernel_rfl) (by kernel_rfl) (fun _ _ _ _ h => h) (p_move rfl) ?_
    refine A_take (i := 5) rfl rfl rfl rfl (by kernel_rfl) (by kernel_rfl) (by kernel_rfl) (fun _ _ _ _ h => h) (p_move rfl) ?_
    refine A_take (i := 6) rfl rfl rfl rfl (by kernel_rfl) (by kernel_rfl) (by kernel_rfl) (fun _ _ _ _ h => h) (p_indexAddr rfl rfl Try.underlying62 ty68 (by omega) (by omega)) ?_
    refine A_ready (rs := [3, 7]) (by kernel_rfl) (by simp) ?_
    refine (A_cons rfl ?_ (A_cons rfl ?_ A_nil))
    ·
      refine J_val (v_loadR rfl ty68 (fun w H => hr w (Sub.sep (by repeat (first | exact Sub.nil | exact Sub.refl | refine Sub.cons (by repeat (first | exact Pick.here | apply Pick.there)) ?_ | refine Sub.drop ?_)) H)) (by simp only [Int.toNat_natCast, List.getElem?_map, hcc]; rfl)) rfl rfl rfl ?_
      refine A_one (i := 7) (by kernel_rfl) rfl ?_
      refine J_val (v_loadR rfl ty68 (fun w H => hs w (Sub.sep (by repeat (first | exact Sub.nil | exact Sub.refl | refine Sub.cons (by repeat (first | exact Pick.here | apply Pick.there)) ?_ | refine Sub.drop ?_)) H)) (by simp only [Int.toNat_natCast, List.getElem?_map, hcc]; rfl)) rfl rfl rfl ?_
      refine A_one (i := 8) (by kernel_rfl) rfl ?_
      refine x_call Try.func92 nm92 bd92 (.cons rfl (.cons rfl .nil)) rfl (sameDeed c) fun _ => ?_
      refine A_take (i := 9) rfl rfl rfl rfl (by kernel_rfl) (by kernel_rfl) (by kernel_rfl) (fun _ _ _ _ h => h) (p_assign rfl) ?_
      refine A_done (by kernel_rfl) ?_
      refine Q_then ?_
      refine J_seq ?_
      refine J_region ?_
      refine L_pur rfl (p_move rfl) ?_
      refine L_pur rfl (p_not rfl) ?_
      refine L_nil ?_
      refine Q_then ?_
      refine J_bool (t := 28) (c := false) rfl (rfl) ?_
      refine C_false rfl ?_
      refine J_skip ?_
      refine Q_blk_normal ?_
      refine Q_then ?_
      refine J_region ?_
      refine L_pur rfl (p_move rfl) ?_
      refine L_pur rfl (p_add64 rfl rfl (by omega)) ?_
      refine L_pur rfl (p_assign rfl) ?_
      refine L_nil ?_
      refine Q_then ?_
      exact J_again (k + 1) (by omega) (by omega) (by repeat (first | exact Sub.nil | exact Sub.refl | refine Sub.cons (by repeat (first | exact Pick.here | apply Pick.there)) ?_ | refine Sub.drop ?_)) (by repeat (first | exact Keep.nil | refine Keep.cons rfl ?_))
    ·
      refine J_val (v_loadR rfl ty68 (fun w H => hs w (Sub.sep (by repeat (first | exact Sub.nil | exact Sub.refl | refine Sub.cons (by repeat (first | exact Pick.here | apply Pick.there)) ?_ | refine Sub.drop ?_)) H)) (by simp only [Int.toNat_natCast, List.getElem?_map, hcc]; rfl)) rfl rfl rfl ?_
      refine A_one (i := 3) (by kernel_rfl) rfl ?_
      refine J_val (v_loadR rfl ty68 (fun w H => hr w (Sub.sep (by repeat (first | exact Sub.nil | exact Sub.refl | refine Sub.cons (by repeat (first | exact Pick.here | apply Pick.there)) ?_ | refine Sub.drop ?_)) H)) (by simp only [Int.toNat_natCast, List.getElem?_map, hcc]; rfl)) rfl rfl rfl ?_
      refine A_one (i := 8) (by kernel_rfl) rfl ?_
      refine x_call Try.func92 nm92 bd92 (.cons rfl (.cons rfl .nil)) rfl (sameDeed c) fun _ => ?_
      refine A_take (i := 9) rfl rfl rfl rfl (by kernel_rfl) (by kernel_rfl) (by kernel_rfl) (fun _ _ _ _ h => h) (p_assign rfl) ?_
      refine A_done (by kernel_rfl) ?_
      refine Q_then ?_
      refine J_seq ?_
      refine J_region ?_
      refine L_pur rfl (p_move rfl) ?_
      refine L_pur rfl (p_not rfl) ?_
      refine L_nil ?_
      refine Q_then ?_
      refine J_bool (t := 28) (c := false) rfl (rfl) ?_
      refine C_false rfl ?_
      refine J_skip ?_
      refine Q_blk_normal ?_
      refine Q_then ?_
      refine J_region ?_
      refine L_pur rfl (p_move rfl) ?_
      refine L_pur rfl (p_add64 rfl rfl (by omega)) ?_
      refine L_pur rfl (p_assign rfl) ?_
      refine L_nil ?_
      refine Q_then ?_
      exact J_again (k + 1) (by omega) (by omega) (by repeat (first | exact Sub.nil | exact Sub.refl | refine Sub.cons (by repeat (first | exact Pick.here | apply Pick.there)) ?_ | refine Sub.drop ?_)) (by repeat (first | exact Keep.nil | refine Keep.cons rfl ?_))
  ·
    refine J_exit ?_
    refine Q_then_exit ?_
    refine Q_then_exit ?_
    refine Q_blk_this ?_
    refine Q_then ?_
    refine J_seq ?_
    refine J_region ?_
    refine L_pur rfl (p_assign rfl) ?_
    refine L_nil ?_
    refine Q_then ?_
    refine J_ret ?_
    exact J_return (()) Try.results41 (.tmp rfl .nil) rfl (by repeat (first | exact Sub.nil | exact Sub.refl | refine Sub.cons (by repeat (first | exact Pick.here | apply Pick.there)) ?_ | refine Sub.drop ?_))

set_option maxRecDepth 100000 in
theorem first22 {E : World} {l : List As} :
    Con Try.prog 34 #[] E l (fun _ : Unit => .bool true) (fun _ => l) := by
  refine Con.body (vs := []) (n := 33) Try.func34 rfl rfl [] (env_ok 0 rfl) ?_
  refine J_seq ?_
  refine J_region ?_
  refine L_pur rfl (p_assign rfl) ?_
  refine L_nil ?_
  refine Q_then ?_
  refine J_seq ?_
  refine J_region ?_
  refine L_op (x_alloc ty64 rfl fun b1 => ?_)
  refine J_j ?_
  refine L_nil ?_
  refine Q_then ?_
  refine J_seq ?_
  refine J_region ?_
  refine L_pur rfl (bld36 (.cons rfl (.cons rfl .nil)) (by repeat constructor)) ?_
  refine L_op (x_call Try.func37 nm37 bd37 (.cons rfl (.cons rfl .nil)) rfl (find (xs := []) (i := (1, 1)) (by repeat (first | with_reducible exact Pick.here | with_reducible assumption | with_reducible apply Pick.there)) (by simp)) fun _ => ?_)
  refine L_pur rfl (p_move rfl) ?_
  refine L_pur rfl (p_extract rfl rfl) ?_
  refine L_pur rfl (p_extract rfl rfl) ?_
  refine L_pur rfl (p_assign rfl) ?_
  refine L_pur rfl (p_assign rfl) ?_
  refine L_nil ?_
  refine Q_then ?_
  refine J_seq ?_
  refine J_region ?_
  refine L_pur rfl (bld36 (.cons rfl (.cons rfl .nil)) (by repeat constructor)) ?_
  refine L_pur rfl (bld68 (.cons rfl (.cons rfl .nil)) (by repeat constructor)) ?_
  refine L_op (x_call Try.func35 nm35 bd35 (.cons rfl (.cons rfl .nil)) rfl (add (xs := []) (d := ((1, 1), 0, 0, 0, 0, true)) (by repeat (first | with_reducible exact Pick.here | with_reducible assumption | with_reducible apply Pick.there)) (by simp)) fun _ => ?_)
  refine L_nil ?_
  refine Q_then ?_
  refine J_seq ?_
  refine J_region ?_
  refine L_op (x_call Try.func39 nm39 bd39 (.cons rfl (.cons rfl .nil)) rfl (counts (xs := [] ++ [((1, 1), 0, 0, 0, 0, true)]) (by repeat (first | with_reducible exact Pick.here | with_reducible assumption | with_reducible apply Pick.there)) (by simp) 1) fun _ => ?_)
  refine L_pur rfl (p_move rfl) ?_
  refine L_pur rfl (p_extract rfl rfl) ?_
  refine L_pur rfl (p_extract rfl rfl) ?_
  refine L_pur rfl (p_assign rfl) ?_
  refine L_pur rfl (p_assign rfl) ?_
  refine L_nil ?_
  refine Q_then ?_
  refine J_seq ?_
  refine J_region ?_
  refine L_pur rfl (p_move rfl) ?_
  refine L_pur rfl (p_not rfl) ?_
  refine L_pur rfl (p_move rfl) ?_
  refine J_bool (t := 20) (c := true) rfl (by rfl) ?_
  refine L_op (G_on rfl rfl rfl ?_)
  refine x_call Try.func42 nm42 bd42 (.cons rfl .nil) rfl (all (xs := [] ++ [((1, 1), 0, 0, 0, 0, true)]) (by repeat (first | with_reducible exact Pick.here | with_reducible assumption | with_reducible apply Pick.there)) (by simp)) fun v21 => ?_
  refine J_row .here fun hw21 a21 c21 hv21 hl21 hm21 hz21 => ?_
  subst hv21
  refine L_op (G_on rfl rfl rfl ?_)
  refine J_pur (p_len rfl Try.underlying62) rfl rfl rfl ?_
  refine L_op (G_on rfl rfl rfl ?_)
  refine J_pur (p_eql rfl rfl) rfl rfl rfl ?_
  refine L_pur rfl (p_pick_t rfl rfl) ?_
  refine L_pur rfl (p_move rfl) ?_
  refine J_bool (t := 25) (c := true) rfl (by simp) ?_
  refine L_op (G_on rfl rfl rfl ?_)
  refine J_pur (p_move rfl) rfl rfl rfl ?_
  refine L_op (G_on rfl rfl rfl ?_)
  refine J_pur (p_eql rfl rfl) rfl rfl rfl ?_
  refine L_pur rfl (p_pick_t rfl rfl) ?_
  refine L_pur rfl (p_move rfl) ?_
  refine J_bool (t := 29) (c := true) rfl (by simp [ofR, gone]) ?_
  refine L_op (G_on rfl rfl rfl ?_)
  refine J_pur (p_move rfl) rfl rfl rfl ?_
  refine L_op (G_on rfl rfl rfl ?_)
  refine J_pur (p_eql rfl rfl) rfl rfl rfl ?_
  refine L_pur rfl (p_pick_t rfl rfl) ?_
  refine J_bool (t := 32) (c := true) rfl (by simp [ofR, gone]) ?_
  refine L_pur rfl (p_assign rfl) ?_
  refine L_nil ?_
  refine Q_then ?_
  refine J_ret ?_
  exact J_return (()) Try.results34 (.tmp rfl .nil) rfl (by repeat (first | exact Sub.nil | exact Sub.refl | refine Sub.cons (by repeat (first | exact Pick.here | apply Pick.there)) ?_ | refine Sub.drop ?_))

end Go.Pse
