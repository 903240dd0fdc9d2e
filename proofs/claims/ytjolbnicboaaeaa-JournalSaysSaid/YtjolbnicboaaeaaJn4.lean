/-
  The law on what the journal says.
-/
import Derived.Test.YtjolbnicboaaeaaJn2
import Derived.Test.YtjolbnicboaaeaaArg
namespace Go.Pse
open Go.RowKit Go.Proofs

theorem dec_id {x : List Value} (h0 : Shape [.int .i64, .int .i64] x) : ∃ d : ID, x = encI d ∧ True := by
  obtain ⟨_, _, rfl, ⟨a0, rfl, _⟩, h1⟩ := h0.cons_inv
  obtain ⟨_, _, rfl, ⟨a1, rfl, _⟩, h2⟩ := h1.cons_inv
  rw [h2.nil_inv]; exact ⟨(a0, a1), rfl, trivial⟩

theorem dec_deed {x : List Value} (h0 : Shape [.int .i64, .int .i64, .int .u32, .int .i64, .int .i64, .int .u32, .bool] x) : ∃ d : Deed, x = encD d ∧ True := by
  obtain ⟨_, _, rfl, ⟨a0, rfl, _⟩, h1⟩ := h0.cons_inv
  obtain ⟨_, _, rfl, ⟨a1, rfl, _⟩, h2⟩ := h1.cons_inv
  obtain ⟨_, _, rfl, ⟨a2, rfl, _⟩, h3⟩ := h2.cons_inv
  obtain ⟨_, _, rfl, ⟨a3, rfl, _⟩, h4⟩ := h3.cons_inv
  obtain ⟨_, _, rfl, ⟨a4, rfl, _⟩, h5⟩ := h4.cons_inv
  obtain ⟨_, _, rfl, ⟨a5, rfl, _⟩, h6⟩ := h5.cons_inv
  obtain ⟨_, _, rfl, ⟨a6, rfl⟩, h7⟩ := h6.cons_inv
  rw [h7.nil_inv]; exact ⟨((a0, a1), a2, a3, a4, a5, a6), rfl, trivial⟩

/-- A deed, its ring told below three. -/
def ringed (d : Deed) : Deed := ((num d.1.1 3, d.1.2), d.2)

set_option maxRecDepth 100000 in
theorem journalSays {E W : World} {v : Value} {ds : List Deed} (hr : Reads W 7 v (ds.map encD)) (r : Int) (id : ID) :
    Con Try.prog 6 #[v, .int .i64 r, .agg (encI id).toArray] E [old W] (fun _ : Unit => .bool true) (fun _ => [old W]) := by
  refine Con.body (vs := [v, .int .i64 r, .agg (encI id).toArray]) (n := 134) Try.func6 rfl rfl [(0, v), (1, .int .i64 r), (2, .agg (encI id).toArray)] (env_ok 3 rfl) ?_
  refine J_readsB (fun w H => hr.old .here H) fun hw a cap hv h1 h2 h3 => ?_
  subst hv
  have hm : cap ≤ 9223372036854775807 := h2
  have hml : (ds.map encD).length = ds.length := List.length_map _
  refine J_seq ?_
  refine J_region ?_
  refine L_op (x_box rfl rfl rfl fun b5 => ?_)
  refine L_pur rfl (p_assign rfl) ?_
  refine L_nil ?_
  refine Q_then ?_
  refine J_seq ?_
  refine J_region ?_
  refine L_op (x_call Try.func34 nm34 bd34 .nil rfl (first22) fun _ => ?_)
  refine L_pur rfl (p_assign rfl) ?_
  refine L_nil ?_
  refine Q_then ?_
  refine J_seq ?_
  refine J_seq ?_
  refine J_region ?_
  refine L_pur rfl (p_move rfl) ?_
  refine L_pur rfl (p_not rfl) ?_
  refine L_nil ?_
  refine Q_then ?_
  refine J_bool (t := 26) (c := false) rfl (rfl) ?_
  refine C_false rfl ?_
  refine J_skip ?_
  refine Q_then ?_
  refine J_seq ?_
  refine J_seq ?_
  refine J_region ?_
  refine L_pur rfl (p_move rfl) ?_
  refine L_pur rfl (p_len rfl Try.underlying62) ?_
  refine L_pur rfl (p_gtr rfl rfl) ?_
  refine L_nil ?_
  refine Q_then ?_
  refine C_dec rfl (fun h29 => ?_) (fun h29 => ?_)
  ·
    refine J_seq ?_
    refine J_region ?_
    refine L_pur rfl (p_move rfl) ?_
    refine L_pur rfl (p_assign rfl) ?_
    refine L_nil ?_
    refine Q_then ?_
    refine J_ret ?_
    refine Q_then_ret ?_
    exact J_return (()) Try.results6 (.tmp rfl .nil) rfl (by repeat (first | exact Sub.nil | exact Sub.refl | refine Sub.cons (by repeat (first | exact Pick.here | apply Pick.there)) ?_ | refine Sub.drop ?_))
  ·
    refine J_skip ?_
    refine Q_then ?_
    refine J_seq ?_
    refine J_region ?_
    refine L_op (x_alloc ty64 rfl fun b8 => ?_)
    refine J_j ?_
    refine L_nil ?_
    refine Q_then ?_
    refine J_seq ?_
    refine J_region ?_
    refine L_op (x_alloc ty66 rfl fun b9 => ?_)
    refine J_j ?_
    refine L_nil ?_
    refine Q_then ?_
    refine J_seq ?_
    refine J_seq ?_
    refine J_region ?_
    refine L_pur rfl (p_assign rfl) ?_
    refine L_nil ?_
    refine Q_then ?_
    refine J_block ?_
    refine J_loop2 (fun i xs => i ≤ ds.length ∧ xs.length = i) (fun i xs => [jA 64 b8 xs, jA 66 b9 xs, blk b5 36 (encI id), old W]) (fun i xs => [(0, .slice a (ds.map encD).length cap), (1, .int .i64 r), (5, .pointer (some ⟨b5, 0, none⟩)), (7, .bool true), (8, .pointer (some ⟨b8, 0, none⟩)), (9, .pointer (some ⟨b9, 0, none⟩)), (10, .int .i64 (i : Int))]) (fun i xs => ds.length - i) 0 ([] : List Deed) ⟨by omega, rfl⟩ (by repeat (first | exact Sub.nil | exact Sub.refl | refine Sub.cons (by repeat (first | exact Pick.here | apply Pick.there)) ?_ | refine Sub.drop ?_)) (by repeat (first | exact Keep.nil | refine Keep.cons rfl ?_)) ?_
    intro i xs ⟨hi, hxl⟩
    refine J_seq ?_
    refine J_seq ?_
    refine J_region ?_
    refine L_pur rfl (p_move rfl) ?_
    refine L_pur rfl (p_move rfl) ?_
    refine L_pur rfl (p_len rfl Try.underlying62) ?_
    refine L_pur rfl (p_lss rfl rfl) ?_
    refine L_nil ?_
    refine Q_then ?_
    refine C_dec rfl (fun h34 => ?_) (fun h34 => ?_)
    ·
      have hlt : i < ds.length := by omega
      obtain ⟨b, o, rfl⟩ := h3 (by intro h; rw [h] at hml; simp at hml; omega)
      obtain ⟨c, hcc⟩ : ∃ c, ds[i]? = some c := ⟨_, List.getElem?_eq_getElem hlt⟩
      refine J_skip ?_
      refine Q_then ?_
      refine J_seq ?_
      refine J_block ?_
      refine J_seq ?_
      refine J_region ?_
      refine L_pur rfl (p_move rfl) ?_
      refine L_pur rfl (p_move rfl) ?_
      refine L_pur rfl (p_indexAddr rfl rfl Try.underlying62 ty68 (by omega) (by omega)) ?_
      refine L_val rfl (v_loadR rfl ty68 (fun w H => hr.old (by repeat (first | with_reducible exact Has.here | with_reducible assumption | with_reducible apply Has.there)) H) (by simp only [Int.toNat_natCast, List.getElem?_map, hcc]; rfl)) ?_
      refine L_op (x_alloc ty68 rfl fun b11 => ?_)
      refine L_op (x_store rfl rfl ty68 rfl (by first | rfl | (simp [*]; done)) (by first | rfl | (simp [*]; done)) (by repeat (first | with_reducible exact Rep1.here | with_reducible apply Rep1.there)) (by first | exact Put.full rfl | ((repeat constructor); done) | exact Put.full (by first | rfl | simp [*])) ?_)
      refine L_nil ?_
      refine Q_then ?_
      refine J_seq ?_
      refine J_region ?_
      refine L_pur rfl (p_fieldAddr rfl fa68_0) ?_
      refine L_pur rfl (p_fieldAddr rfl fa36_0) ?_
      refine L_val rfl (v_load rfl ty3 (by repeat (first | with_reducible exact Has.here | with_reducible assumption | with_reducible apply Has.there)) (by exact rfl)) ?_
      refine L_op (x_call Try.func23 nm23 bd23 (.cons rfl (.cons rfl .nil)) rfl (number (by omega) (by omega)) fun _ => ?_)
      refine L_pur rfl (p_fieldAddr rfl fa68_0) ?_
      refine L_pur rfl (p_fieldAddr rfl fa36_0) ?_
      refine L_op (x_store rfl rfl ty3 rfl (by first | rfl | (simp [*]; done)) (by first | rfl | (simp [*]; done)) (by repeat (first | with_reducible exact Rep1.here | with_reducible apply Rep1.there)) (by first | exact Put.full rfl | ((repeat constructor); done) | exact Put.full (by first | rfl | simp [*])) ?_)
      refine L_nil ?_
      refine Q_then ?_
      refine J_seq ?_
      refine J_region ?_
      refine L_val rfl (v_loadA rfl ty68 (by repeat (first | with_reducible exact Has.here | with_reducible assumption | with_reducible apply Has.there)) (by first | exact Cut.full rfl | ((repeat constructor); done) | exact Cut.full (by first | rfl | simp [*]))) ?_
      refine L_op (x_call Try.func35 nm35 bd35 (.cons rfl (.cons rfl .nil)) rfl (add (d := ringed c) (by repeat (first | with_reducible exact Pick.here | with_reducible assumption | with_reducible apply Pick.there)) (by omega)) fun _ => ?_)
      refine L_nil ?_
      refine Q_then ?_
      refine J_seq ?_
      refine J_region ?_
      refine L_val rfl (v_loadA rfl ty68 (by repeat (first | with_reducible exact Has.here | with_reducible assumption | with_reducible apply Has.there)) (by first | exact Cut.full rfl | ((repeat constructor); done) | exact Cut.full (by first | rfl | simp [*]))) ?_
      refine L_op (x_call Try.func36 nm36 bd36 (.cons rfl (.cons rfl .nil)) rfl (radd (d := ringed c) (by repeat (first | with_reducible exact Pick.here | with_reducible assumption | with_reducible apply Pick.there)) (by omega)) fun _ => ?_)
      refine L_nil ?_
      refine Q_then ?_
      refine J_seq ?_
      refine J_region ?_
      refine L_pur rfl (p_fieldAddr rfl fa68_0) ?_
      refine L_val rfl (v_loadA rfl ty36 (by repeat (first | with_reducible exact Has.here | with_reducible assumption | with_reducible apply Has.there)) (by first | exact Cut.full rfl | ((repeat constructor); done) | exact Cut.full (by first | rfl | simp [*]))) ?_
      refine L_op (x_call Try.func37 nm37 bd37 (.cons rfl (.cons rfl .nil)) rfl (find (i := (ringed c).1) (by repeat (first | with_reducible exact Pick.here | with_reducible assumption | with_reducible apply Pick.there)) (by simp; omega)) fun _ => ?_)
      refine L_pur rfl (p_move rfl) ?_
      refine L_pur rfl (p_extract rfl rfl) ?_
      refine L_pur rfl (p_extract rfl rfl) ?_
      refine L_pur rfl (p_assign rfl) ?_
      refine L_pur rfl (p_assign rfl) ?_
      refine L_nil ?_
      refine Q_then ?_
      refine J_seq ?_
      refine J_region ?_
      refine L_pur rfl (p_fieldAddr rfl fa68_0) ?_
      refine L_val rfl (v_loadA rfl ty36 (by repeat (first | with_reducible exact Has.here | with_reducible assumption | with_reducible apply Has.there)) (by first | exact Cut.full rfl | ((repeat constructor); done) | exact Cut.full (by first | rfl | simp [*]))) ?_
      refine L_op (x_call Try.func38 nm38 bd38 (.cons rfl (.cons rfl .nil)) rfl (rfind (i := (ringed c).1) (by repeat (first | with_reducible exact Pick.here | with_reducible assumption | with_reducible apply Pick.there)) (by simp; omega)) fun _ => ?_)
      refine L_pur rfl (p_move rfl) ?_
      refine L_pur rfl (p_extract rfl rfl) ?_
      refine L_pur rfl (p_extract rfl rfl) ?_
      refine L_pur rfl (p_assign rfl) ?_
      refine L_pur rfl (p_assign rfl) ?_
      refine L_nil ?_
      refine Q_then ?_
      refine J_seq ?_
      refine J_region ?_
      refine L_pur rfl (p_fieldAddr rfl fa68_0) ?_
      refine L_pur rfl (p_fieldAddr rfl fa36_0) ?_
      refine L_val rfl (v_load rfl ty3 (by repeat (first | with_reducible exact Has.here | with_reducible assumption | with_reducible apply Has.there)) (by exact rfl)) ?_
      refine L_op (x_call Try.func39 nm39 bd39 (.cons rfl (.cons rfl .nil)) rfl (counts (by repeat (first | with_reducible exact Pick.here | with_reducible assumption | with_reducible apply Pick.there)) (by simp; omega) (ringed c).1.1) fun _ => ?_)
      refine L_pur rfl (p_move rfl) ?_
      refine L_pur rfl (p_extract rfl rfl) ?_
      refine L_pur rfl (p_extract rfl rfl) ?_
      refine L_pur rfl (p_assign rfl) ?_
      refine L_pur rfl (p_assign rfl) ?_
      refine L_nil ?_
      refine Q_then ?_
      refine J_seq ?_
      refine J_region ?_
      refine L_pur rfl (p_fieldAddr rfl fa68_0) ?_
      refine L_pur rfl (p_fieldAddr rfl fa36_0) ?_
      refine L_val rfl (v_load rfl ty3 (by repeat (first | with_reducible exact Has.here | with_reducible assumption | with_reducible apply Has.there)) (by exact rfl)) ?_
      refine L_op (x_call Try.func40 nm40 bd40 (.cons rfl (.cons rfl .nil)) rfl (rcounts (by repeat (first | with_reducible exact Pick.here | with_reducible assumption | with_reducible apply Pick.there)) (by simp; omega) (ringed c).1.1) fun _ => ?_)
      refine L_pur rfl (p_move rfl) ?_
      refine L_pur rfl (p_extract rfl rfl) ?_
      refine L_pur rfl (p_extract rfl rfl) ?_
      refine L_pur rfl (p_assign rfl) ?_
      refine L_pur rfl (p_assign rfl) ?_
      refine L_nil ?_
      refine Q_then ?_
      refine J_seq ?_
      refine J_region ?_
      refine L_pur rfl (p_move rfl) ?_
      refine L_pur rfl (p_move rfl) ?_
      refine L_pur rfl (p_neq rfl rfl) ?_
      refine L_pur rfl (p_move rfl) ?_
      refine J_bool (t := 80) (c := false) rfl (by simp) ?_
      refine L_op (G_on rfl rfl rfl ?_)
      refine J_pur (p_move rfl) rfl rfl rfl ?_
      refine L_op (G_on rfl rfl rfl ?_)
      refine J_pur (p_move rfl) rfl rfl rfl ?_
      refine L_op (G_on rfl rfl rfl ?_)
      refine J_pur (p_neb Try.underlying4 rfl rfl) rfl rfl rfl ?_
      refine L_pur rfl (p_pick_f rfl rfl) ?_
      refine L_pur rfl (p_move rfl) ?_
      refine J_bool (t := 85) (c := false) rfl (by simp) ?_
      refine L_op (G_on rfl rfl rfl ?_)
      refine J_pur (p_move rfl) rfl rfl rfl ?_
      refine L_op (G_on rfl rfl rfl ?_)
      refine J_pur (p_move rfl) rfl rfl rfl ?_
      refine L_op (G_on rfl rfl rfl ?_)
      refine J_pur (p_neq rfl rfl) rfl rfl rfl ?_
      refine L_pur rfl (p_pick_f rfl rfl) ?_
      refine L_pur rfl (p_move rfl) ?_
      refine J_bool (t := 90) (c := false) rfl (by simp) ?_
      refine L_op (G_on rfl rfl rfl ?_)
      refine J_pur (p_move rfl) rfl rfl rfl ?_
      refine L_op (G_on rfl rfl rfl ?_)
      refine J_pur (p_move rfl) rfl rfl rfl ?_
      refine L_op (G_on rfl rfl rfl ?_)
      refine J_pur (p_neq rfl rfl) rfl rfl rfl ?_
      refine L_pur rfl (p_pick_f rfl rfl) ?_
      refine L_nil ?_
      refine Q_then ?_
      refine J_bool (t := 94) (c := false) rfl (by simp) ?_
      refine C_false rfl ?_
      refine J_skip ?_
      refine Q_blk_normal ?_
      refine Q_then ?_
      refine J_region ?_
      refine L_pur rfl (p_move rfl) ?_
      refine L_pur rfl (p_add64 rfl rfl (by omega)) ?_
      refine L_pur rfl (p_assign rfl) ?_
      refine L_nil ?_
      refine Q_then ?_
      exact J_again2 (i + 1) (xs ++ [ringed c]) (by omega) (⟨by omega, by simp; omega⟩) (by repeat (first | exact Sub.nil | exact Sub.refl | refine Sub.cons (by repeat (first | exact Pick.here | apply Pick.there)) ?_ | refine Sub.drop ?_)) (by repeat (first | exact Keep.nil | refine Keep.cons rfl ?_))
    ·
      refine J_exit ?_
      refine Q_then_exit ?_
      refine Q_then_exit ?_
      refine Q_blk_this ?_
      refine Q_then ?_
      refine J_seq ?_
      refine J_region ?_
      refine L_val rfl (v_loadA rfl ty36 (by repeat (first | with_reducible exact Has.here | with_reducible assumption | with_reducible apply Has.there)) (by first | exact Cut.full rfl | ((repeat constructor); done) | exact Cut.full (by first | rfl | simp [*]))) ?_
      refine L_op (x_call Try.func37 nm37 bd37 (.cons rfl (.cons rfl .nil)) rfl (find (i := id) (by repeat (first | with_reducible exact Pick.here | with_reducible assumption | with_reducible apply Pick.there)) (by omega)) fun _ => ?_)
      refine L_pur rfl (p_move rfl) ?_
      refine L_pur rfl (p_extract rfl rfl) ?_
      refine L_pur rfl (p_extract rfl rfl) ?_
      refine L_pur rfl (p_assign rfl) ?_
      refine L_pur rfl (p_assign rfl) ?_
      refine L_nil ?_
      refine Q_then ?_
      refine J_seq ?_
      refine J_region ?_
      refine L_val rfl (v_loadA rfl ty36 (by repeat (first | with_reducible exact Has.here | with_reducible assumption | with_reducible apply Has.there)) (by first | exact Cut.full rfl | ((repeat constructor); done) | exact Cut.full (by first | rfl | simp [*]))) ?_
      refine L_op (x_call Try.func38 nm38 bd38 (.cons rfl (.cons rfl .nil)) rfl (rfind (i := id) (by repeat (first | with_reducible exact Pick.here | with_reducible assumption | with_reducible apply Pick.there)) (by omega)) fun _ => ?_)
      refine L_pur rfl (p_move rfl) ?_
      refine L_pur rfl (p_extract rfl rfl) ?_
      refine L_pur rfl (p_extract rfl rfl) ?_
      refine L_pur rfl (p_assign rfl) ?_
      refine L_pur rfl (p_assign rfl) ?_
      refine L_nil ?_
      refine Q_then ?_
      refine J_seq ?_
      refine J_pick (A := jA 66 b9 xs) (by repeat (first | with_reducible exact Pick.here | with_reducible assumption | with_reducible apply Pick.there)) ?_
      refine J_ex fun vx => ?_
      refine J_all2 ?_
      refine J_draw mixed ?_
      refine A_take (i := 0) rfl rfl rfl rfl (by kernel_rfl) (by kernel_rfl) (by kernel_rfl) (fun _ _ _ _ h => h) (p_move rfl) ?_
      refine A_take (i := 1) rfl rfl rfl rfl (by kernel_rfl) (by kernel_rfl) (by kernel_rfl) (fun _ _ _ _ h => h) (p_move rfl) ?_
      refine J_bool (t := 106) (c := true) rfl (rfl) ?_
      refine A_takeOn (i := 2) rfl rfl rfl rfl rfl rfl rfl (by kernel_rfl) (by kernel_rfl) (by kernel_rfl) (fun _ _ _ _ h => h) (p_move rfl) ?_
      refine A_takeOn (i := 3) rfl rfl rfl rfl rfl rfl rfl (by kernel_rfl) (by kernel_rfl) (by kernel_rfl) (fun _ _ _ _ h => h) (p_move rfl) ?_
      refine A_takeOn (i := 4) rfl rfl rfl rfl rfl rfl rfl (by kernel_rfl) (by kernel_rfl) (by kernel_rfl) (fun _ _ _ _ h => h) (p_eql rfl rfl) ?_
      refine A_take (i := 5) rfl rfl rfl rfl (by kernel_rfl) (by kernel_rfl) (by kernel_rfl) (fun _ _ _ _ h => h) (p_pick_t rfl rfl) ?_
      refine A_take (i := 6) rfl rfl rfl rfl (by kernel_rfl) (by kernel_rfl) (by kernel_rfl) (fun _ _ _ _ h => h) (p_move rfl) ?_
      refine J_bool (t := 111) (c := true) rfl (by simp) ?_
      refine A_takeOn (i := 7) rfl rfl rfl rfl rfl rfl rfl (by kernel_rfl) (by kernel_rfl) (by kernel_rfl) (fun _ _ _ _ h => h) (p_move rfl) ?_
      refine A_takeOn (i := 8) rfl rfl rfl rfl rfl rfl rfl (by kernel_rfl) (by kernel_rfl) (by kernel_rfl) (fun _ _ _ _ h => h) (p_move rfl) ?_
      refine A_takeOn (i := 9) rfl rfl rfl rfl rfl rfl rfl (by kernel_rfl) (by kernel_rfl) (by kernel_rfl) (fun _ _ _ _ h => h) (p_eqb Try.underlying4 rfl rfl) ?_
      refine A_take (i := 10) rfl rfl rfl rfl (by kernel_rfl) (by kernel_rfl) (by kernel_rfl) (fun _ _ _ _ h => h) (p_pick_t rfl rfl) ?_
      refine A_take (i := 11) rfl rfl rfl rfl (by kernel_rfl) (by kernel_rfl) (by kernel_rfl) (fun _ _ _ _ h => h) (p_move rfl) ?_
      refine J_bool (t := 116) (c := true) rfl (by simp) ?_
      refine A_takeOn (i := 13) rfl rfl rfl rfl rfl rfl rfl (by kernel_rfl) (by kernel_rfl) (by kernel_rfl) (fun _ _ _ _ h => h) (p_fieldAddr rfl fa66_0) ?_
      refine A_ready (rs := [12, 14]) (by kernel_rfl) (by simp) ?_
      refine (A_cons rfl ?_ (A_cons rfl ?_ A_nil))
      ·
        refine G_on rfl rfl rfl ?_
        refine x_call Try.func42 nm42 bd42 (.cons rfl .nil) rfl (all (xs := xs) (by repeat (first | with_reducible exact Pick.here | with_reducible assumption | with_reducible apply Pick.there)) (by omega)) fun v117 => ?_
        refine J_row .here fun hw117 a117 c117 hv117 hl117 hm117 hz117 => ?_
        subst hv117
        refine A_one (i := 14) (by kernel_rfl) rfl ?_
        refine G_on rfl rfl rfl ?_
        refine J_val (v_load rfl ty62 (by repeat (first | with_reducible exact Has.here | with_reducible assumption | with_reducible apply Has.there)) (by exact rfl)) rfl rfl rfl ?_
        refine A_one (i := 15) (by kernel_rfl) rfl ?_
        refine G_on rfl rfl rfl ?_
        refine x_call Try.func41 nm41 bd41 (.cons rfl (.cons rfl .nil)) rfl (sameDeeds (xs := xs) (fun w H => sep_reads (xs := (xs).map encD) (by repeat (first | with_reducible exact Has.here | with_reducible assumption | with_reducible apply Has.there)) H) (fun w H => sep_reads (xs := (xs).map encD) (by repeat (first | with_reducible exact Has.here | with_reducible assumption | with_reducible apply Has.there)) H) (by omega)) fun _ => ?_
        refine A_take (i := 16) rfl rfl rfl rfl (by kernel_rfl) (by kernel_rfl) (by kernel_rfl) (fun _ _ _ _ h => h) (p_pick_t rfl rfl) ?_
        refine A_take (i := 17) rfl rfl rfl rfl (by kernel_rfl) (by kernel_rfl) (by kernel_rfl) (fun _ _ _ _ h => h) (p_move rfl) ?_
        refine J_bool (t := 122) (c := true) rfl (rfl) ?_
        refine A_takeOn (i := 18) rfl rfl rfl rfl rfl rfl rfl (by kernel_rfl) (by kernel_rfl) (by kernel_rfl) (fun _ _ _ _ h => h) (p_move rfl) ?_
        refine A_takeOn (i := 20) rfl rfl rfl rfl rfl rfl rfl (by kernel_rfl) (by kernel_rfl) (by kernel_rfl) (fun _ _ _ _ h => h) (p_move rfl) ?_
        refine A_one (i := 19) (by kernel_rfl) rfl ?_
        refine G_on rfl rfl rfl ?_
        refine x_call Try.func43 nm43 bd43 (.cons rfl (.cons rfl .nil)) rfl (of (by repeat (first | with_reducible exact Pick.here | with_reducible assumption | with_reducible apply Pick.there)) (by omega) r) fun v124 => ?_
        refine J_row .here fun hw124 a124 c124 hv124 hl124 hm124 hz124 => ?_
        subst hv124
        refine A_one (i := 21) (by kernel_rfl) rfl ?_
        refine G_on rfl rfl rfl ?_
        refine Jop_out ?_
        refine J_shut2 (f := jF 66 b9 xs) _ rfl (by repeat (first | with_reducible exact Pick.here | with_reducible assumption | with_reducible apply Pick.there)) (by repeat (first | with_reducible exact Pick.here | with_reducible assumption | with_reducible apply Pick.there)) ?_
        refine J_pick (A := jA 66 b9 xs) .here ?_
        refine Jop_in ?_
        refine x_call Try.func44 nm44 bd44 (.cons rfl (.cons rfl .nil)) rfl (rof (by repeat (first | with_reducible exact Pick.here | with_reducible assumption | with_reducible apply Pick.there)) (by omega) r) fun v126 => ?_
        refine J_row .here fun hw126 a126 c126 hv126 hl126 hm126 hz126 => ?_
        subst hv126
        refine A_one (i := 22) (by kernel_rfl) rfl ?_
        refine G_on rfl rfl rfl ?_
        refine x_call Try.func41 nm41 bd41 (.cons rfl (.cons rfl .nil)) rfl (sameDeeds (xs := (xs.filter (ofR r))) (fun w H => sep_reads (xs := ((xs.filter (ofR r))).map encD) (by repeat (first | with_reducible exact Has.here | with_reducible assumption | with_reducible apply Has.there)) H) (fun w H => sep_reads (xs := ((xs.filter (ofR r))).map encD) (by repeat (first | with_reducible exact Has.here | with_reducible assumption | with_reducible apply Has.there)) H) (by exact Nat.le_trans (List.length_filter_le _ _) (by omega))) fun _ => ?_
        refine A_take (i := 23) rfl rfl rfl rfl (by kernel_rfl) (by kernel_rfl) (by kernel_rfl) (fun _ _ _ _ h => h) (p_pick_t rfl rfl) ?_
        refine A_take (i := 24) rfl rfl rfl rfl (by kernel_rfl) (by kernel_rfl) (by kernel_rfl) (fun _ _ _ _ h => h) (p_move rfl) ?_
        refine J_bool (t := 129) (c := true) rfl (rfl) ?_
        refine A_one (i := 25) (by kernel_rfl) rfl ?_
        refine G_on rfl rfl rfl ?_
        refine x_call Try.func43 nm43 bd43 (.cons rfl (.cons rfl .nil)) rfl (of (by repeat (first | with_reducible exact Pick.here | with_reducible assumption | with_reducible apply Pick.there)) (by omega) 1) fun v130 => ?_
        refine J_row .here fun hw130 a130 c130 hv130 hl130 hm130 hz130 => ?_
        subst hv130
        refine A_one (i := 26) (by kernel_rfl) rfl ?_
        refine G_on rfl rfl rfl ?_
        refine x_call Try.func44 nm44 bd44 (.cons rfl (.cons rfl .nil)) rfl (rof (by repeat (first | with_reducible exact Pick.here | with_reducible assumption | with_reducible apply Pick.there)) (by omega) 1) fun v131 => ?_
        refine J_row .here fun hw131 a131 c131 hv131 hl131 hm131 hz131 => ?_
        subst hv131
        refine A_one (i := 27) (by kernel_rfl) rfl ?_
        refine G_on rfl rfl rfl ?_
        refine x_call Try.func41 nm41 bd41 (.cons rfl (.cons rfl .nil)) rfl (sameDeeds (xs := (xs.filter (ofR 1))) (fun w H => sep_reads (xs := ((xs.filter (ofR 1))).map encD) (by repeat (first | with_reducible exact Has.here | with_reducible assumption | with_reducible apply Has.there)) H) (fun w H => sep_reads (xs := ((xs.filter (ofR 1))).map encD) (by repeat (first | with_reducible exact Has.here | with_reducible assumption | with_reducible apply Has.there)) H) (by exact Nat.le_trans (List.length_filter_le _ _) (by omega))) fun _ => ?_
        refine A_take (i := 28) rfl rfl rfl rfl (by kernel_rfl) (by kernel_rfl) (by kernel_rfl) (fun _ _ _ _ h => h) (p_pick_t rfl rfl) ?_
        refine A_take (i := 29) rfl rfl rfl rfl (by kernel_rfl) (by kernel_rfl) (by kernel_rfl) (fun _ _ _ _ h => h) (p_assign rfl) ?_
        refine A_done (by kernel_rfl) ?_
        refine Q_then ?_
        refine J_ret ?_
        exact J_return (()) Try.results6 (.tmp rfl .nil) rfl (by repeat (first | exact Sub.nil | exact Sub.refl | refine Sub.cons (by repeat (first | exact Pick.here | apply Pick.there)) ?_ | refine Sub.drop ?_))
      ·
        refine G_on rfl rfl rfl ?_
        refine J_val (v_load rfl ty62 (by repeat (first | with_reducible exact Has.here | with_reducible assumption | with_reducible apply Has.there)) (by exact rfl)) rfl rfl rfl ?_
        refine A_one (i := 12) (by kernel_rfl) rfl ?_
        refine G_on rfl rfl rfl ?_
        refine x_call Try.func42 nm42 bd42 (.cons rfl .nil) rfl (all (xs := xs) (by repeat (first | with_reducible exact Pick.here | with_reducible assumption | with_reducible apply Pick.there)) (by omega)) fun v117 => ?_
        refine J_row .here fun hw117 a117 c117 hv117 hl117 hm117 hz117 => ?_
        subst hv117
        refine A_one (i := 15) (by kernel_rfl) rfl ?_
        refine G_on rfl rfl rfl ?_
        refine x_call Try.func41 nm41 bd41 (.cons rfl (.cons rfl .nil)) rfl (sameDeeds (xs := xs) (fun w H => sep_reads (xs := (xs).map encD) (by repeat (first | with_reducible exact Has.here | with_reducible assumption | with_reducible apply Has.there)) H) (fun w H => sep_reads (xs := (xs).map encD) (by repeat (first | with_reducible exact Has.here | with_reducible assumption | with_reducible apply Has.there)) H) (by omega)) fun _ => ?_
        refine A_take (i := 16) rfl rfl rfl rfl (by kernel_rfl) (by kernel_rfl) (by kernel_rfl) (fun _ _ _ _ h => h) (p_pick_t rfl rfl) ?_
        refine A_take (i := 17) rfl rfl rfl rfl (by kernel_rfl) (by kernel_rfl) (by kernel_rfl) (fun _ _ _ _ h => h) (p_move rfl) ?_
        refine J_bool (t := 122) (c := true) rfl (rfl) ?_
        refine A_takeOn (i := 18) rfl rfl rfl rfl rfl rfl rfl (by kernel_rfl) (by kernel_rfl) (by kernel_rfl) (fun _ _ _ _ h => h) (p_move rfl) ?_
        refine A_takeOn (i := 20) rfl rfl rfl rfl rfl rfl rfl (by kernel_rfl) (by kernel_rfl) (by kernel_rfl) (fun _ _ _ _ h => h) (p_move rfl) ?_
        refine A_one (i := 19) (by kernel_rfl) rfl ?_
        refine G_on rfl rfl rfl ?_
        refine x_call Try.func43 nm43 bd43 (.cons rfl (.cons rfl .nil)) rfl (of (by repeat (first | with_reducible exact Pick.here | with_reducible assumption | with_reducible apply Pick.there)) (by omega) r) fun v124 => ?_
        refine J_row .here fun hw124 a124 c124 hv124 hl124 hm124 hz124 => ?_
        subst hv124
        refine A_one (i := 21) (by kernel_rfl) rfl ?_
        refine G_on rfl rfl rfl ?_
        refine Jop_out ?_
        refine J_shut2 (f := jF 66 b9 xs) _ rfl (by repeat (first | with_reducible exact Pick.here | with_reducible assumption | with_reducible apply Pick.there)) (by repeat (first | with_reducible exact Pick.here | with_reducible assumption | with_reducible apply Pick.there)) ?_
        refine J_pick (A := jA 66 b9 xs) .here ?_
        refine Jop_in ?_
        refine x_call Try.func44 nm44 bd44 (.cons rfl (.cons rfl .nil)) rfl (rof (by repeat (first | with_reducible exact Pick.here | with_reducible assumption | with_reducible apply Pick.there)) (by omega) r) fun v126 => ?_
        refine J_row .here fun hw126 a126 c126 hv126 hl126 hm126 hz126 => ?_
        subst hv126
        refine A_one (i := 22) (by kernel_rfl) rfl ?_
        refine G_on rfl rfl rfl ?_
        refine x_call Try.func41 nm41 bd41 (.cons rfl (.cons rfl .nil)) rfl (sameDeeds (xs := (xs.filter (ofR r))) (fun w H => sep_reads (xs := ((xs.filter (ofR r))).map encD) (by repeat (first | with_reducible exact Has.here | with_reducible assumption | with_reducible apply Has.there)) H) (fun w H => sep_reads (xs := ((xs.filter (ofR r))).map encD) (by repeat (first | with_reducible exact Has.here | with_reducible assumption | with_reducible apply Has.there)) H) (by exact Nat.le_trans (List.length_filter_le _ _) (by omega))) fun _ => ?_
        refine A_take (i := 23) rfl rfl rfl rfl (by kernel_rfl) (by kernel_rfl) (by kernel_rfl) (fun _ _ _ _ h => h) (p_pick_t rfl rfl) ?_
        refine A_take (i := 24) rfl rfl rfl rfl (by kernel_rfl) (by kernel_rfl) (by kernel_rfl) (fun _ _ _ _ h => h) (p_move rfl) ?_
        refine J_bool (t := 129) (c := true) rfl (rfl) ?_
        refine A_one (i := 25) (by kernel_rfl) rfl ?_
        refine G_on rfl rfl rfl ?_
        refine x_call Try.func43 nm43 bd43 (.cons rfl (.cons rfl .nil)) rfl (of (by repeat (first | with_reducible exact Pick.here | with_reducible assumption | with_reducible apply Pick.there)) (by omega) 1) fun v130 => ?_
        refine J_row .here fun hw130 a130 c130 hv130 hl130 hm130 hz130 => ?_
        subst hv130
        refine A_one (i := 26) (by kernel_rfl) rfl ?_
        refine G_on rfl rfl rfl ?_
        refine x_call Try.func44 nm44 bd44 (.cons rfl (.cons rfl .nil)) rfl (rof (by repeat (first | with_reducible exact Pick.here | with_reducible assumption | with_reducible apply Pick.there)) (by omega) 1) fun v131 => ?_
        refine J_row .here fun hw131 a131 c131 hv131 hl131 hm131 hz131 => ?_
        subst hv131
        refine A_one (i := 27) (by kernel_rfl) rfl ?_
        refine G_on rfl rfl rfl ?_
        refine x_call Try.func41 nm41 bd41 (.cons rfl (.cons rfl .nil)) rfl (sameDeeds (xs := (xs.filter (ofR 1))) (fun w H => sep_reads (xs := ((xs.filter (ofR 1))).map encD) (by repeat (first | with_reducible exact Has.here | with_reducible assumption | with_reducible apply Has.there)) H) (fun w H => sep_reads (xs := ((xs.filter (ofR 1))).map encD) (by repeat (first | with_reducible exact Has.here | with_reducible assumption | with_reducible apply Has.there)) H) (by exact Nat.le_trans (List.length_filter_le _ _) (by omega))) fun _ => ?_
        refine A_take (i := 28) rfl rfl rfl rfl (by kernel_rfl) (by kernel_rfl) (by kernel_rfl) (fun _ _ _ _ h => h) (p_pick_t rfl rfl) ?_
        refine A_take (i := 29) rfl rfl rfl rfl (by kernel_rfl) (by kernel_rfl) (by kernel_rfl) (fun _ _ _ _ h => h) (p_assign rfl) ?_
        refine A_done (by kernel_rfl) ?_
        refine Q_then ?_
        refine J_ret ?_
        exact J_return (()) Try.results6 (.tmp rfl .nil) rfl (by repeat (first | exact Sub.nil | exact Sub.refl | refine Sub.cons (by repeat (first | exact Pick.here | apply Pick.there)) ?_ | refine Sub.drop ?_))

end Go.Pse
