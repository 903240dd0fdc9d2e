/-
  What hangs on what: the plan.
-/
import Derived.Test.YtjolbnicboaaeaaCh2
namespace Go.Pse
open Go.RowKit Go.Proofs

/-! ### plain: what hangs on what -/
abbrev Req := ID × Sqe × Int × Bool × Bool
def encQ (r : Req) : List Value := [.int .i64 r.1.1, .int .i64 r.1.2, .int .i64 r.2.1.1, .int .i64 r.2.1.2.1, .int .u32 r.2.1.2.2.1, .int .u32 r.2.1.2.2.2.1, .int .u32 r.2.1.2.2.2.2.1, .int .u32 r.2.1.2.2.2.2.2.1, .int .u32 r.2.1.2.2.2.2.2.2.1, .int .u32 r.2.1.2.2.2.2.2.2.2, .int .i64 r.2.2.1, .bool r.2.2.2.1, .bool r.2.2.2.2]
theorem encQ_one (c : Req) : ones (encQ c) = true := rfl
theorem encQ_len (c : Req) : (encQ c).length = 13 := rfl
def rightAt (gs : List Bool) (k : Int) : Bool := decide (0 ≤ k) && gs.getD k.toNat true
def flagAt (es : List Sqe) (k : Int) : Int := match es[k.toNat]? with | some e => e.2.1 | none => 0
def prevOf (seq : Int) (gs : List Bool) (es : List Sqe) (k : Int) : Int := if rightAt gs (k - 1) && decide (bits .and .i64 (flagAt es (k - 1)) 3 ≠ 0) then seq + k - 1 else 0
def softOf (gs : List Bool) (es : List Sqe) (k : Int) : Bool := rightAt gs (k - 1) && decide (bits .and .i64 (flagAt es (k - 1)) 1 ≠ 0)
def reqAt (ring seq : Int) (gs : List Bool) (es : List Sqe) (k : Nat) (e : Sqe) : Req := ((ring, seq + k), e, prevOf seq gs es k, softOf gs es k, false)
def plan (ring seq : Int) (gs : List Bool) (es : List Sqe) (i : Nat) : List Req := (List.range i).flatMap fun k : Nat => match es[k]? with
  | some e => if rightAt gs k then [reqAt ring seq gs es k e] else []
  | none => []
theorem plan_succ {ring seq : Int} {gs : List Bool} {es : List Sqe} {i : Nat} {e : Sqe} (h : es[i]? = some e) : plan ring seq gs es (i + 1) = plan ring seq gs es i ++ if rightAt gs i then [reqAt ring seq gs es i e] else [] := by
  unfold plan
  rw [List.range_succ, List.flatMap_append]
  simp [h]
theorem plan_len {ring seq : Int} {gs : List Bool} {es : List Sqe} : ∀ (i : Nat), i ≤ es.length → (plan ring seq gs es i).length ≤ i
  | 0, _ => by simp [plan]
  | i + 1, h => by
    have := plan_len (ring := ring) (seq := seq) (gs := gs) (es := es) i (by omega)
    rw [plan_succ (List.getElem?_eq_getElem (by omega)), List.length_append]
    split <;> simp <;> omega
theorem flag_at {es : List Sqe} {k : Int} {c : Sqe} (h : es[k.toNat]? = some c) : flagAt es k = c.2.1 := by simp [flagAt, h]

set_option maxRecDepth 100000 in
set_option maxHeartbeats 4000000 in
theorem right {E : World} {l : List As} {b : Nat} {v : Value} {gs : List Bool} {k : Int} (hc : Has (blk b 22 [v]) l) (hr : ∀ w, Sep E w l → Reads w 1 v (gs.map fun b => [Value.bool b])) :
    Con Try.prog 83 #[.int .i64 k, .pointer (some ⟨b, 0, none⟩)] E l (fun _ : Unit => .bool (rightAt gs k)) (fun _ => l) := by
  refine Con.body (vs := [.int .i64 k, .pointer (some ⟨b, 0, none⟩)]) (n := 18) Try.func83 rfl rfl [(0, .int .i64 k), (1, .pointer (some ⟨b, 0, none⟩))] (env_ok 2 rfl) ?_
  refine J_readsB hr fun hw a cap hv h1 h2 h3 => ?_
  subst hv
  have hm : cap ≤ 9223372036854775807 := h2
  have hml : (gs.map fun b => [Value.bool b]).length = gs.length := List.length_map _
  refine J_seq ?_
  refine J_region ?_
  refine L_pur rfl (p_assign rfl) ?_
  refine L_nil ?_
  refine Q_then ?_
  refine J_seq ?_
  refine J_region ?_
  refine L_pur rfl (p_move rfl) ?_
  refine L_pur rfl (p_geq rfl rfl) ?_
  refine L_pur rfl (p_move rfl) ?_
  refine J_gsplit (t := 6) rfl (fun h6 => ?_) (fun h6 => ?_)
  ·
    refine L_op (G_on rfl rfl rfl ?_)
    refine J_pur (p_move rfl) rfl rfl rfl ?_
    refine L_op (G_on rfl rfl rfl ?_)
    refine J_val (v_load rfl ty22 (by repeat (first | with_reducible exact Has.here | with_reducible assumption | with_reducible apply Has.there)) (by exact rfl)) rfl rfl rfl ?_
    refine L_op (G_on rfl rfl rfl ?_)
    refine J_pur (p_len rfl Try.underlying22) rfl rfl rfl ?_
    refine L_op (G_on rfl rfl rfl ?_)
    refine J_pur (p_geq rfl rfl) rfl rfl rfl ?_
    refine L_op (G_on rfl rfl rfl ?_)
    refine J_pur (p_move rfl) rfl rfl rfl ?_
    refine J_gsplit (t := 11) rfl (fun h11 => ?_) (fun h11 => ?_)
    ·
      refine L_op (G_off rfl rfl rfl rfl rfl rfl ?_)
      refine L_op (G_off rfl rfl rfl rfl rfl rfl ?_)
      refine L_op (G_off rfl rfl rfl rfl rfl rfl ?_)
      refine L_op (G_off rfl rfl rfl rfl rfl rfl ?_)
      refine L_op (G_on rfl rfl rfl ?_)
      refine J_pur (p_pick_t rfl rfl) rfl rfl rfl ?_
      refine L_pur rfl (p_pick_t rfl rfl) ?_
      refine L_pur rfl (p_assign rfl) ?_
      refine L_nil ?_
      refine Q_then ?_
      refine J_ret ?_
      refine J_return (()) Try.results83 (.tmp rfl .nil) ?_ ?_
      · show one _ = Value.bool (rightAt gs k)
        simp at h6 h11
        have e : gs[k.toNat]? = none := List.getElem?_eq_none (by omega)
        simp [one, rightAt, h6, List.getD, e]
      · exact (by repeat (first | exact Sub.nil | exact Sub.refl | refine Sub.cons (by repeat (first | exact Pick.here | apply Pick.there)) ?_ | refine Sub.drop ?_))
    ·
      simp at h6 h11
      have hlt : k.toNat < gs.length := by omega
      obtain ⟨bx, ox, rfl⟩ := h3 (by intro h; rw [h] at hml; simp at hml; omega)
      obtain ⟨c, hcc⟩ : ∃ c, gs[k.toNat]? = some c := ⟨_, List.getElem?_eq_getElem hlt⟩
      refine L_op (G_on rfl rfl rfl ?_)
      refine J_val (v_load rfl ty22 (by repeat (first | with_reducible exact Has.here | with_reducible assumption | with_reducible apply Has.there)) (by exact rfl)) rfl rfl rfl ?_
      refine L_op (G_on rfl rfl rfl ?_)
      refine J_pur (p_move rfl) rfl rfl rfl ?_
      refine L_op (G_on rfl rfl rfl ?_)
      refine J_pur (p_indexAddr rfl rfl Try.underlying22 ty4 (by omega) (by omega)) rfl rfl rfl ?_
      refine L_op (G_on rfl rfl rfl ?_)
      refine J_val (v_loadR1 rfl ty4 (fun w H => hr w (Sub.sep (by repeat (first | exact Sub.nil | exact Sub.refl | refine Sub.cons (by repeat (first | exact Pick.here | apply Pick.there)) ?_ | refine Sub.drop ?_)) H)) (by rw [List.getElem?_map, hcc]; rfl)) rfl rfl rfl ?_
      refine L_op (G_on rfl rfl rfl ?_)
      refine J_pur (p_pick_f rfl rfl) rfl rfl rfl ?_
      refine L_pur rfl (p_pick_t rfl rfl) ?_
      refine L_pur rfl (p_assign rfl) ?_
      refine L_nil ?_
      refine Q_then ?_
      refine J_ret ?_
      refine J_return (()) Try.results83 (.tmp rfl .nil) ?_ ?_
      · show one _ = Value.bool (rightAt gs k)
        simp [one, rightAt, h6, List.getD, hcc]
      · exact (by repeat (first | exact Sub.nil | exact Sub.refl | refine Sub.cons (by repeat (first | exact Pick.here | apply Pick.there)) ?_ | refine Sub.drop ?_))
  ·
    refine L_op (G_off rfl rfl rfl rfl rfl rfl ?_)
    refine L_op (G_off rfl rfl rfl rfl rfl rfl ?_)
    refine L_op (G_off rfl rfl rfl rfl rfl rfl ?_)
    refine L_op (G_off rfl rfl rfl rfl rfl rfl ?_)
    refine L_op (G_off rfl rfl rfl rfl rfl rfl ?_)
    refine L_op (G_offU rfl rfl rfl rfl rfl ?_)
    refine L_op (G_offU rfl rfl rfl rfl rfl ?_)
    refine L_op (G_offU rfl rfl rfl rfl rfl ?_)
    refine L_op (G_offU rfl rfl rfl rfl rfl ?_)
    refine L_op (G_off rfl rfl rfl rfl rfl rfl ?_)
    refine L_pur rfl (p_pick_f rfl rfl) ?_
    refine L_pur rfl (p_assign rfl) ?_
    refine L_nil ?_
    refine Q_then ?_
    refine J_ret ?_
    refine J_return (()) Try.results83 (.tmp rfl .nil) ?_ ?_
    · show one _ = Value.bool (rightAt gs k)
      simp at h6
      unfold rightAt
      rw [decide_eq_false (by omega)]; rfl
    · exact (by repeat (first | exact Sub.nil | exact Sub.refl | refine Sub.cons (by repeat (first | exact Pick.here | apply Pick.there)) ?_ | refine Sub.drop ?_))

set_option maxRecDepth 100000 in
set_option maxHeartbeats 4000000 in
theorem rright {E : World} {l : List As} {v : Value} {gs : List Bool} {k : Int} (hk : 0 ≤ k) (hr : ∀ w, Sep E w l → Reads w 1 v (gs.map fun b => [Value.bool b])) :
    Con Try.prog 84 #[v, .int .i64 k] E l (fun _ : Unit => .bool (rightAt gs k)) (fun _ => l) := by
  refine Con.body (vs := [v, .int .i64 k]) (n := 15) Try.func84 rfl rfl [(0, v), (1, .int .i64 k)] (env_ok 2 rfl) ?_
  refine J_readsB hr fun hw a cap hv h1 h2 h3 => ?_
  subst hv
  have hm : cap ≤ 9223372036854775807 := h2
  have hml : (gs.map fun b => [Value.bool b]).length = gs.length := List.length_map _
  refine J_seq ?_
  refine J_region ?_
  refine L_pur rfl (p_assign rfl) ?_
  refine L_nil ?_
  refine Q_then ?_
  refine J_seq ?_
  refine J_region ?_
  refine L_pur rfl (p_move rfl) ?_
  refine L_pur rfl (p_move rfl) ?_
  refine L_pur rfl (p_len rfl Try.underlying22) ?_
  refine L_pur rfl (p_geq rfl rfl) ?_
  refine L_pur rfl (p_move rfl) ?_
  refine J_gsplit (t := 9) rfl (fun h9 => ?_) (fun h9 => ?_)
  ·
    refine L_op (G_off rfl rfl rfl rfl rfl rfl ?_)
    refine L_op (G_off rfl rfl rfl rfl rfl rfl ?_)
    refine L_op (G_off rfl rfl rfl rfl rfl rfl ?_)
    refine L_op (G_off rfl rfl rfl rfl rfl rfl ?_)
    refine L_pur rfl (p_pick_t rfl rfl) ?_
    refine L_pur rfl (p_assign rfl) ?_
    refine L_nil ?_
    refine Q_then ?_
    refine J_ret ?_
    refine J_return (()) Try.results84 (.tmp rfl .nil) ?_ ?_
    · show one _ = Value.bool (rightAt gs k)
      simp at h9
      have e : gs[k.toNat]? = none := List.getElem?_eq_none (by omega)
      simp [one, rightAt, hk, List.getD, e]
    · exact (by repeat (first | exact Sub.nil | exact Sub.refl | refine Sub.cons (by repeat (first | exact Pick.here | apply Pick.there)) ?_ | refine Sub.drop ?_))
  ·
    simp at h9
    have hlt : k.toNat < gs.length := by omega
    obtain ⟨bx, ox, rfl⟩ := h3 (by intro h; rw [h] at hml; simp at hml; omega)
    obtain ⟨c, hcc⟩ : ∃ c, gs[k.toNat]? = some c := ⟨_, List.getElem?_eq_getElem hlt⟩
    refine L_op (G_on rfl rfl rfl ?_)
    refine J_pur (p_move rfl) rfl rfl rfl ?_
    refine L_op (G_on rfl rfl rfl ?_)
    refine J_pur (p_move rfl) rfl rfl rfl ?_
    refine L_op (G_on rfl rfl rfl ?_)
    refine J_pur (p_indexAddr rfl rfl Try.underlying22 ty4 (by omega) (by omega)) rfl rfl rfl ?_
    refine L_op (G_on rfl rfl rfl ?_)
    refine J_val (v_loadR1 rfl ty4 (fun w H => hr w (Sub.sep (by repeat (first | exact Sub.nil | exact Sub.refl | refine Sub.cons (by repeat (first | exact Pick.here | apply Pick.there)) ?_ | refine Sub.drop ?_)) H)) (by rw [List.getElem?_map, hcc]; rfl)) rfl rfl rfl ?_
    refine L_pur rfl (p_pick_f rfl rfl) ?_
    refine L_pur rfl (p_assign rfl) ?_
    refine L_nil ?_
    refine Q_then ?_
    refine J_ret ?_
    refine J_return (()) Try.results84 (.tmp rfl .nil) ?_ ?_
    · show one _ = Value.bool (rightAt gs k)
      simp [one, rightAt, hk, List.getD, hcc]
    · exact (by repeat (first | exact Sub.nil | exact Sub.refl | refine Sub.cons (by repeat (first | exact Pick.here | apply Pick.there)) ?_ | refine Sub.drop ?_))

set_option maxRecDepth 100000 in
set_option maxHeartbeats 4000000 in
theorem planC {E : World} {l : List As} {v u : Value} {gs : List Bool} {es : List Sqe} {ring seq : Int} (hr : ∀ w, Sep E w l → Reads w 1 v (gs.map fun b => [Value.bool b])) (hs : ∀ w, Sep E w l → Reads w 8 u (es.map encS)) (he : es.length ≤ 1000) (hq : 0 ≤ seq) (hq2 : seq ≤ 10000000000) :
    Con Try.prog 25 #[.int .i64 ring, .int .i64 seq, v, u] E l (fun v' : Value => v') (fun v' => row 41 13 v' ((plan ring seq gs es es.length).map encQ) :: l) := by
  refine Con.body (vs := [.int .i64 ring, .int .i64 seq, v, u]) (n := 62) Try.func25 rfl rfl [(0, .int .i64 ring), (1, .int .i64 seq), (2, v), (3, u)] (env_ok 4 rfl) ?_
  refine J_readsB hr fun hwg ag cg hv hg1 hg2 hg3 => ?_
  subst hv
  refine J_readsB hs fun hw a cap hv h1 h2 h3 => ?_
  subst hv
  have hm : cap ≤ 9223372036854775807 := h2
  have hml : (es.map encS).length = es.length := List.length_map _
  refine J_seq ?_
  refine J_region ?_
  refine L_op (x_box rfl rfl rfl fun b6 => ?_)
  refine L_pur rfl (p_assign rfl) ?_
  refine L_nil ?_
  refine Q_then ?_
  refine J_seq ?_
  refine J_region ?_
  refine L_pur rfl (p_makeFunc (.cons rfl .nil)) ?_
  refine L_pur rfl (p_assign rfl) ?_
  refine L_nil ?_
  refine Q_then ?_
  refine J_seq ?_
  refine J_region ?_
  refine L_pur rfl (p_assign rfl) ?_
  refine L_nil ?_
  refine Q_then ?_
  refine J_seq ?_
  refine J_seq ?_
  refine J_region ?_
  refine L_pur rfl (p_move rfl) ?_
  refine L_pur rfl (p_len rfl Try.underlying29) ?_
  refine L_pur rfl (p_move rfl) ?_
  refine L_nil ?_
  refine Q_then ?_
  refine J_block ?_
  refine J_nil (el := 41) (sz := 13) ?_
  refine J_loop2 (fun k v' => k ≤ es.length) (fun k v' => row 41 13 v' ((plan ring seq gs es k).map encQ) :: blk b6 22 [.slice ag (gs.map fun b => [Value.bool b]).length cg] :: l) (fun k v' => [(18, .int .i64 (k : Int)), (10, v'), (9, .func (.func 83) #[] #[.pointer (some ⟨b6, 0, none⟩)]), (17, .int .i64 (es.map encS).length), (16, .slice a (es.map encS).length cap), (3, .slice a (es.map encS).length cap), (0, .int .i64 ring), (1, .int .i64 seq)]) (fun k v' => es.length - k) 0 (.slice none 0 0) (by omega) (by repeat (first | exact Sub.nil | exact Sub.refl | refine Sub.cons (by repeat (first | exact Pick.here | apply Pick.there)) ?_ | refine Sub.drop ?_)) (by repeat (first | exact Keep.nil | refine Keep.cons rfl ?_)) ?_
  intro k v' hk
  refine J_seq ?_
  refine J_region ?_
  refine L_pur rfl (p_lss rfl rfl) ?_
  refine L_nil ?_
  refine Q_then ?_
  refine J_seq ?_
  refine C_dec rfl (fun h19 => ?_) (fun h19 => ?_)
  ·
    have hlt : k < es.length := by omega
    obtain ⟨bx, ox, rfl⟩ := h3 (by intro h; rw [h] at hml; simp at hml; omega)
    obtain ⟨c, hcc⟩ : ∃ c, es[k]? = some c := ⟨_, List.getElem?_eq_getElem hlt⟩
    have hpl := plan_len (ring := ring) (seq := seq) (gs := gs) (es := es) k (by omega)
    refine J_skip ?_
    refine Q_then ?_
    refine J_seq ?_
    refine J_block ?_
    refine J_seq ?_
    refine J_region ?_
    refine L_pur rfl (p_move rfl) ?_
    refine L_pur rfl (p_indexAddr rfl rfl Try.underlying29 ty39 (by omega) (by omega)) ?_
    refine L_val rfl (v_loadR rfl ty39 (fun w H => hs w (Sub.sep (by repeat (first | exact Sub.nil | exact Sub.refl | refine Sub.cons (by repeat (first | exact Pick.here | apply Pick.there)) ?_ | refine Sub.drop ?_)) H)) (by simp only [Int.toNat_natCast, List.getElem?_map, hcc]; rfl)) ?_
    refine L_op (x_alloc ty39 rfl fun b12 => ?_)
    refine L_pur rfl (p_assign rfl) ?_
    refine L_op (x_store rfl rfl ty39 rfl (by first | rfl | (simp [*]; done)) (by first | rfl | (simp [*]; done)) (by repeat (first | with_reducible exact Rep1.here | with_reducible apply Rep1.there)) (by first | exact Put.full rfl | ((repeat constructor); done) | exact Put.full (by first | rfl | simp [*])) ?_)
    refine L_nil ?_
    refine Q_then ?_
    refine J_seq ?_
    refine J_seq ?_
    refine J_region ?_
    refine L_pur rfl (p_move rfl) ?_
    refine L_pur rfl (p_move rfl) ?_
    refine L_op (x_callc rfl Try.func83 nm83 bd83 (.cons rfl .nil) rfl (right (gs := gs) (k := (k : Int)) (by repeat (first | with_reducible exact Has.here | with_reducible assumption | with_reducible apply Has.there)) (fun w H => hr w (Sub.sep (by repeat (first | exact Sub.nil | exact Sub.refl | refine Sub.cons (by repeat (first | exact Pick.here | apply Pick.there)) ?_ | refine Sub.drop ?_)) H))) fun _ => ?_)
    refine L_pur rfl (p_not rfl) ?_
    refine L_nil ?_
    refine Q_then ?_
    refine C_split rfl (fun h26 => ?_) (fun h26 => ?_)
    ·
      refine J_exit ?_
      refine Q_then_exit ?_
      refine Q_blk_this ?_
      refine Q_then ?_
      refine J_region ?_
      refine L_pur rfl (p_add64 rfl rfl (by omega)) ?_
      refine L_pur rfl (p_move rfl) ?_
      refine L_nil ?_
      refine Q_then ?_
      refine J_pick (A := row 41 13 v' ((plan ring seq gs es k).map encQ)) (by repeat (first | with_reducible exact Pick.here | with_reducible assumption | with_reducible apply Pick.there)) ?_
      refine J_rowEq (ys := ((plan ring seq gs es (k + 1)).map encQ)) (by rw [plan_succ hcc, if_neg (by simpa using h26)]; simp) ?_
      exact J_again2 (k + 1) _ (by omega) (by omega) (by repeat (first | exact Sub.nil | exact Sub.refl | refine Sub.cons (by repeat (first | exact Pick.here | apply Pick.there)) ?_ | refine Sub.drop ?_)) (by repeat (first | exact Keep.nil | refine Keep.cons rfl ?_))
    ·
      have hri : rightAt gs k = true := by simpa using h26
      refine J_skip ?_
      refine Q_then ?_
      refine J_seq ?_
      refine J_region ?_
      refine L_pur rfl (p_move rfl) ?_
      refine L_pur rfl (p_move rfl) ?_
      refine L_pur rfl (p_move rfl) ?_
      refine L_pur rfl (p_add64 rfl rfl (by omega)) ?_
      refine L_pur rfl (bld36 (.cons rfl (.cons rfl .nil)) (by repeat constructor)) ?_
      refine L_val rfl (v_loadA rfl ty39 (by repeat (first | with_reducible exact Has.here | with_reducible assumption | with_reducible apply Has.there)) (by first | exact Cut.full rfl | ((repeat constructor); done) | exact Cut.full (by first | rfl | simp [*]))) ?_
      refine L_pur rfl (bld41 (.cons rfl (.cons rfl .nil)) (by repeat constructor)) ?_
      refine L_op (x_alloc ty41 rfl fun b13 => ?_)
      refine L_op (x_store rfl rfl ty41 rfl (by first | rfl | (simp [*]; done)) (by first | rfl | (simp [*]; done)) (by repeat (first | with_reducible exact Rep1.here | with_reducible apply Rep1.there)) (by first | exact Put.full rfl | ((repeat constructor); done) | exact Put.full (by first | rfl | simp [*])) ?_)
      refine L_nil ?_
      refine Q_then ?_
      refine J_seq ?_
      refine J_seq ?_
      refine J_region ?_
      refine L_pur rfl (p_move rfl) ?_
      refine L_pur rfl (p_move rfl) ?_
      refine L_pur rfl (p_sub64 rfl rfl (by omega)) ?_
      refine L_op (x_callc rfl Try.func83 nm83 bd83 (.cons rfl .nil) rfl (right (gs := gs) (k := (k : Int) - 1) (by repeat (first | with_reducible exact Has.here | with_reducible assumption | with_reducible apply Has.there)) (fun w H => hr w (Sub.sep (by repeat (first | exact Sub.nil | exact Sub.refl | refine Sub.cons (by repeat (first | exact Pick.here | apply Pick.there)) ?_ | refine Sub.drop ?_)) H))) fun _ => ?_)
      refine L_nil ?_
      refine Q_then ?_
      refine C_split rfl (fun h37 => ?_) (fun h37 => ?_)
      ·
        have hk1 : 1 ≤ k := by have := h37; simp [rightAt] at this; omega
        obtain ⟨d, hdd⟩ : ∃ d, es[((k : Int) - 1).toNat]? = some d := ⟨_, List.getElem?_eq_getElem (by omega)⟩
        have hfl := flag_at hdd
        have hsf : softOf gs es k = decide (bits .and .i64 d.2.1 1 ≠ 0) := by simp [softOf, h37, hfl]
        refine J_seq ?_
        refine J_region ?_
        refine L_pur rfl (p_move rfl) ?_
        refine L_pur rfl (p_move rfl) ?_
        refine L_pur rfl (p_sub64 rfl rfl (by omega)) ?_
        refine L_pur rfl (p_indexAddr rfl rfl Try.underlying29 ty39 (by omega) (by omega)) ?_
        refine L_pur rfl (p_fieldAddr rfl fa39_1) ?_
        refine L_val rfl (v_loadRF rfl ty3 (fun w H => hs w (Sub.sep (by repeat (first | exact Sub.nil | exact Sub.refl | refine Sub.cons (by repeat (first | exact Pick.here | apply Pick.there)) ?_ | refine Sub.drop ?_)) H)) (by rw [List.getElem?_map, hdd]; rfl) (by exact rfl)) ?_
        refine L_pur rfl (p_assign rfl) ?_
        refine L_nil ?_
        refine Q_then ?_
        refine J_seq ?_
        refine J_region ?_
        refine L_pur rfl (p_move rfl) ?_
        refine L_pur rfl (p_and rfl rfl) ?_
        refine L_pur rfl (p_neq rfl rfl) ?_
        refine L_pur rfl (p_fieldAddr rfl fa41_3) ?_
        refine L_op (x_store rfl rfl ty4 rfl (by first | rfl | (simp [*]; done)) (by first | rfl | (simp [*]; done)) (by repeat (first | with_reducible exact Rep1.here | with_reducible apply Rep1.there)) (by first | exact Put.full rfl | ((repeat constructor); done) | exact Put.full (by first | rfl | simp [*])) ?_)
        refine L_nil ?_
        refine Q_then ?_
        refine J_seq ?_
        refine J_region ?_
        refine L_pur rfl (p_move rfl) ?_
        refine L_pur rfl (p_and rfl rfl) ?_
        refine L_pur rfl (p_neq rfl rfl) ?_
        refine L_nil ?_
        refine Q_then ?_
        refine C_dec rfl (fun h50 => ?_) (fun h50 => ?_)
        ·
          have hpv : prevOf seq gs es k = seq + k - 1 := by simp only [prevOf, h37, hfl, Bool.true_and]; rw [if_pos (by simpa using h50)]
          refine J_region ?_
          refine L_pur rfl (p_move rfl) ?_
          refine L_pur rfl (p_move rfl) ?_
          refine L_pur rfl (p_add64 rfl rfl (by omega)) ?_
          refine L_pur rfl (p_sub64 rfl rfl (by omega)) ?_
          refine L_pur rfl (p_fieldAddr rfl fa41_2) ?_
          refine L_op (x_store rfl rfl ty3 rfl (by first | rfl | (simp [*]; done)) (by first | rfl | (simp [*]; done)) (by repeat (first | with_reducible exact Rep1.here | with_reducible apply Rep1.there)) (by first | exact Put.full rfl | ((repeat constructor); done) | exact Put.full (by first | rfl | simp [*])) ?_)
          refine L_nil ?_
          refine Q_then ?_
          refine J_region ?_
          refine L_pur rfl (p_move rfl) ?_
          refine L_val rfl (v_loadA rfl ty41 (by repeat (first | with_reducible exact Has.here | with_reducible assumption | with_reducible apply Has.there)) (by first | exact Cut.full rfl | ((repeat constructor); done) | exact Cut.full (by first | rfl | simp [*]))) ?_
          refine L_op (x_lit (vals := [_]) Try.underlying31 ty41 rfl (.cons rfl .nil) (.agg .nil) (Wf.cons rfl rfl Wf.nil) rfl (by decide) rfl rfl fun v58 => ?_)
          refine J_row .here fun hw58 a58 c58 hv58 hl58 hm58 hz58 => ?_
          subst hv58
          refine L_op (x_app rfl rfl Try.underlying31 ty41 rfl rfl (by repeat (first | with_reducible exact Pick.here | with_reducible assumption | with_reducible apply Pick.there)) (fun w H => sep_reads (by repeat (first | with_reducible exact Has.here | with_reducible assumption | with_reducible apply Has.there)) H) (by first | omega | (simp <;> omega)) (by first | omega | (simp <;> omega)) rfl fun v59 => ?_)
          refine J_rowEq (ys := ((plan ring seq gs es (k + 1)).map encQ)) (by rw [plan_succ hcc, if_pos hri, List.map_append]; simp [reqAt, encQ, hpv, hsf]) ?_
          refine J_row .here fun hw59 a59 c59 hv59 hl59 hm59 hz59 => ?_
          subst hv59
          refine L_pur rfl (p_assign rfl) ?_
          refine L_nil ?_
          refine Q_blk_normal ?_
          refine Q_then ?_
          refine J_region ?_
          refine L_pur rfl (p_add64 rfl rfl (by omega)) ?_
          refine L_pur rfl (p_move rfl) ?_
          refine L_nil ?_
          refine Q_then ?_
          
          exact J_again2 (k + 1) _ (by omega) (by omega) (by repeat (first | exact Sub.nil | exact Sub.refl | refine Sub.cons (by repeat (first | exact Pick.here | apply Pick.there)) ?_ | refine Sub.drop ?_)) (by repeat (first | exact Keep.nil | refine Keep.cons rfl ?_))
        ·
          have hpv : prevOf seq gs es k = 0 := by simp only [prevOf, h37, hfl, Bool.true_and]; rw [if_neg (by simpa using h50)]
          refine J_skip ?_
          refine Q_then ?_
          refine J_region ?_
          refine L_pur rfl (p_move rfl) ?_
          refine L_val rfl (v_loadA rfl ty41 (by repeat (first | with_reducible exact Has.here | with_reducible assumption | with_reducible apply Has.there)) (by first | exact Cut.full rfl | ((repeat constructor); done) | exact Cut.full (by first | rfl | simp [*]))) ?_
          refine L_op (x_lit (vals := [_]) Try.underlying31 ty41 rfl (.cons rfl .nil) (.agg .nil) (Wf.cons rfl rfl Wf.nil) rfl (by decide) rfl rfl fun v58 => ?_)
          refine J_row .here fun hw58 a58 c58 hv58 hl58 hm58 hz58 => ?_
          subst hv58
          refine L_op (x_app rfl rfl Try.underlying31 ty41 rfl rfl (by repeat (first | with_reducible exact Pick.here | with_reducible assumption | with_reducible apply Pick.there)) (fun w H => sep_reads (by repeat (first | with_reducible exact Has.here | with_reducible assumption | with_reducible apply Has.there)) H) (by first | omega | (simp <;> omega)) (by first | omega | (simp <;> omega)) rfl fun v59 => ?_)
          refine J_rowEq (ys := ((plan ring seq gs es (k + 1)).map encQ)) (by rw [plan_succ hcc, if_pos hri, List.map_append]; simp [reqAt, encQ, hpv, hsf]) ?_
          refine J_row .here fun hw59 a59 c59 hv59 hl59 hm59 hz59 => ?_
          subst hv59
          refine L_pur rfl (p_assign rfl) ?_
          refine L_nil ?_
          refine Q_blk_normal ?_
          refine Q_then ?_
          refine J_region ?_
          refine L_pur rfl (p_add64 rfl rfl (by omega)) ?_
          refine L_pur rfl (p_move rfl) ?_
          refine L_nil ?_
          refine Q_then ?_
          
          exact J_again2 (k + 1) _ (by omega) (by omega) (by repeat (first | exact Sub.nil | exact Sub.refl | refine Sub.cons (by repeat (first | exact Pick.here | apply Pick.there)) ?_ | refine Sub.drop ?_)) (by repeat (first | exact Keep.nil | refine Keep.cons rfl ?_))
      ·
        have hsf : softOf gs es k = false := by simp [softOf, h37]
        have hpv : prevOf seq gs es k = 0 := by simp [prevOf, h37]
        refine J_skip ?_
        refine Q_then ?_
        refine J_region ?_
        refine L_pur rfl (p_move rfl) ?_
        refine L_val rfl (v_loadA rfl ty41 (by repeat (first | with_reducible exact Has.here | with_reducible assumption | with_reducible apply Has.there)) (by first | exact Cut.full rfl | ((repeat constructor); done) | exact Cut.full (by first | rfl | simp [*]))) ?_
        refine L_op (x_lit (vals := [_]) Try.underlying31 ty41 rfl (.cons rfl .nil) (.agg .nil) (Wf.cons rfl rfl Wf.nil) rfl (by decide) rfl rfl fun v58 => ?_)
        refine J_row .here fun hw58 a58 c58 hv58 hl58 hm58 hz58 => ?_
        subst hv58
        refine L_op (x_app rfl rfl Try.underlying31 ty41 rfl rfl (by repeat (first | with_reducible exact Pick.here | with_reducible assumption | with_reducible apply Pick.there)) (fun w H => sep_reads (by repeat (first | with_reducible exact Has.here | with_reducible assumption | with_reducible apply Has.there)) H) (by first | omega | (simp <;> omega)) (by first | omega | (simp <;> omega)) rfl fun v59 => ?_)
        refine J_rowEq (ys := ((plan ring seq gs es (k + 1)).map encQ)) (by rw [plan_succ hcc, if_pos hri, List.map_append]; simp [reqAt, encQ, hpv, hsf]) ?_
        refine J_row .here fun hw59 a59 c59 hv59 hl59 hm59 hz59 => ?_
        subst hv59
        refine L_pur rfl (p_assign rfl) ?_
        refine L_nil ?_
        refine Q_blk_normal ?_
        refine Q_then ?_
        refine J_region ?_
        refine L_pur rfl (p_add64 rfl rfl (by omega)) ?_
        refine L_pur rfl (p_move rfl) ?_
        refine L_nil ?_
        refine Q_then ?_
        
        exact J_again2 (k + 1) _ (by omega) (by omega) (by repeat (first | exact Sub.nil | exact Sub.refl | refine Sub.cons (by repeat (first | exact Pick.here | apply Pick.there)) ?_ | refine Sub.drop ?_)) (by repeat (first | exact Keep.nil | refine Keep.cons rfl ?_))
  ·
    have hke : k = es.length := by omega
    subst hke
    refine J_exit ?_
    refine Q_then_exit ?_
    refine Q_then_exit ?_
    refine Q_blk_this ?_
    refine Q_then ?_
    refine J_seq ?_
    refine J_region ?_
    refine L_pur rfl (p_move rfl) ?_
    refine L_pur rfl (p_assign rfl) ?_
    refine L_nil ?_
    refine Q_then ?_
    refine J_ret ?_
    exact J_return (_) Try.results25 (.tmp rfl .nil) rfl (by repeat (first | exact Sub.nil | exact Sub.refl | refine Sub.cons (by repeat (first | exact Pick.here | apply Pick.there)) ?_ | refine Sub.drop ?_))

theorem and31 {x : Int} (h : bits .and .i64 x 3 = 0) : bits .and .i64 x 1 = 0 := by
  have h3 : (BitVec.ofInt 64 x &&& 3#64).toNat ≤ 3 := by rw [BitVec.toNat_and]; exact Nat.and_le_right
  have e3 : bits .and .i64 x 3 = ((BitVec.ofInt 64 x &&& 3#64).toNat : Int) := by
    show IntKind.i64.wrap ((BitVec.ofInt 64 x &&& 3#64).toNat : Int) = _
    exact wrap64_of (by omega)
  rw [e3] at h
  have h0 : BitVec.ofInt 64 x &&& 3#64 = 0#64 := BitVec.eq_of_toNat_eq (by simpa using h)
  have h1 : BitVec.ofInt 64 x &&& 1#64 = 0#64 := by
    have : BitVec.ofInt 64 x &&& 1#64 = (BitVec.ofInt 64 x &&& 3#64) &&& 1#64 := by rw [BitVec.and_assoc]; rfl
    rw [this, h0]; simp
  show IntKind.i64.wrap ((BitVec.ofInt 64 x &&& 1#64).toNat : Int) = 0
  rw [h1]; rfl

set_option maxRecDepth 100000 in
set_option maxHeartbeats 4000000 in
theorem rplanC {E : World} {l : List As} {v u : Value} {gs : List Bool} {es : List Sqe} {ring seq : Int} (hr : ∀ w, Sep E w l → Reads w 1 v (gs.map fun b => [Value.bool b])) (hs : ∀ w, Sep E w l → Reads w 8 u (es.map encS)) (he : es.length ≤ 1000) (hq : 0 ≤ seq) (hq2 : seq ≤ 10000000000) :
    Con Try.prog 26 #[.int .i64 ring, .int .i64 seq, v, u] E l (fun v' : Value => v') (fun v' => row 42 13 v' ((plan ring seq gs es es.length).map encQ) :: l) := by
  refine Con.body (vs := [.int .i64 ring, .int .i64 seq, v, u]) (n := 69) Try.func26 rfl rfl [(0, .int .i64 ring), (1, .int .i64 seq), (2, v), (3, u)] (env_ok 4 rfl) ?_
  refine J_readsB hr fun hwg ag cg hv hg1 hg2 hg3 => ?_
  subst hv
  refine J_readsB hs fun hw a cap hv h1 h2 h3 => ?_
  subst hv
  have hm : cap ≤ 9223372036854775807 := h2
  have hml : (es.map encS).length = es.length := List.length_map _
  refine J_seq ?_
  refine J_region ?_
  refine L_pur rfl (p_assign rfl) ?_
  refine L_nil ?_
  refine Q_then ?_
  refine J_seq ?_
  refine J_region ?_
  refine L_pur rfl (p_assign rfl) ?_
  refine L_nil ?_
  refine Q_then ?_
  refine J_seq ?_
  refine J_seq ?_
  refine J_region ?_
  refine L_pur rfl (p_assign rfl) ?_
  refine L_nil ?_
  refine Q_then ?_
  refine J_block ?_
  refine J_nil (el := 42) (sz := 13) ?_
  refine J_loop2 (fun k v' => k ≤ es.length) (fun k v' => row 42 13 v' ((plan ring seq gs es k).map encQ) :: l) (fun k v' => [(10, .int .i64 (k : Int)), (9, v'), (3, .slice a (es.map encS).length cap), (2, .slice ag (gs.map fun b => [Value.bool b]).length cg), (0, .int .i64 ring), (1, .int .i64 seq)]) (fun k v' => es.length - k) 0 (.slice none 0 0) (by omega) (by repeat (first | exact Sub.nil | exact Sub.refl | refine Sub.cons (by repeat (first | exact Pick.here | apply Pick.there)) ?_ | refine Sub.drop ?_)) (by repeat (first | exact Keep.nil | refine Keep.cons rfl ?_)) ?_
  intro k v' hk
  refine J_seq ?_
  refine J_seq ?_
  refine J_region ?_
  refine L_pur rfl (p_move rfl) ?_
  refine L_pur rfl (p_move rfl) ?_
  refine L_pur rfl (p_len rfl Try.underlying29) ?_
  refine L_pur rfl (p_lss rfl rfl) ?_
  refine L_nil ?_
  refine Q_then ?_
  refine C_dec rfl (fun h15 => ?_) (fun h15 => ?_)
  ·
    have hlt : k < es.length := by omega
    obtain ⟨bx, ox, rfl⟩ := h3 (by intro h; rw [h] at hml; simp at hml; omega)
    obtain ⟨c, hcc⟩ : ∃ c, es[k]? = some c := ⟨_, List.getElem?_eq_getElem hlt⟩
    have hpl := plan_len (ring := ring) (seq := seq) (gs := gs) (es := es) k (by omega)
    refine J_skip ?_
    refine Q_then ?_
    refine J_seq ?_
    refine J_block ?_
    refine J_seq ?_
    refine J_seq ?_
    refine J_region ?_
    refine L_pur rfl (p_move rfl) ?_
    refine L_pur rfl (p_move rfl) ?_
    refine L_op (x_call Try.func84 nm84 bd84 (.cons rfl (.cons rfl .nil)) rfl (rright (gs := gs) (k := (k : Int)) (by omega) (fun w H => hr w (Sub.sep (by repeat (first | exact Sub.nil | exact Sub.refl | refine Sub.cons (by repeat (first | exact Pick.here | apply Pick.there)) ?_ | refine Sub.drop ?_)) H))) fun _ => ?_)
    refine L_pur rfl (p_not rfl) ?_
    refine L_nil ?_
    refine Q_then ?_
    refine C_split rfl (fun h21 => ?_) (fun h21 => ?_)
    ·
      refine J_exit ?_
      refine Q_then_exit ?_
      refine Q_blk_this ?_
      refine Q_then ?_
      refine J_region ?_
      refine L_pur rfl (p_move rfl) ?_
      refine L_pur rfl (p_add64 rfl rfl (by omega)) ?_
      refine L_pur rfl (p_assign rfl) ?_
      refine L_nil ?_
      refine Q_then ?_
      refine J_pick (A := row 42 13 v' ((plan ring seq gs es k).map encQ)) (by repeat (first | with_reducible exact Pick.here | with_reducible assumption | with_reducible apply Pick.there)) ?_
      refine J_rowEq (ys := ((plan ring seq gs es (k + 1)).map encQ)) (by rw [plan_succ hcc, if_neg (by simpa using h21)]; simp) ?_
      exact J_again2 (k + 1) _ (by omega) (by omega) (by repeat (first | exact Sub.nil | exact Sub.refl | refine Sub.cons (by repeat (first | exact Pick.here | apply Pick.there)) ?_ | refine Sub.drop ?_)) (by repeat (first | exact Keep.nil | refine Keep.cons rfl ?_))
    ·
      have hri : rightAt gs k = true := by simpa using h21
      refine J_skip ?_
      refine Q_then ?_
      refine J_seq ?_
      refine J_region ?_
      refine L_pur rfl (p_move rfl) ?_
      refine L_pur rfl (p_move rfl) ?_
      refine L_pur rfl (p_move rfl) ?_
      refine L_pur rfl (p_add64 rfl rfl (by omega)) ?_
      refine L_pur rfl (bld36 (.cons rfl (.cons rfl .nil)) (by repeat constructor)) ?_
      refine L_pur rfl (p_move rfl) ?_
      refine L_pur rfl (p_move rfl) ?_
      refine L_pur rfl (p_indexAddr rfl rfl Try.underlying29 ty39 (by omega) (by omega)) ?_
      refine L_val rfl (v_loadR rfl ty39 (fun w H => hs w (Sub.sep (by repeat (first | exact Sub.nil | exact Sub.refl | refine Sub.cons (by repeat (first | exact Pick.here | apply Pick.there)) ?_ | refine Sub.drop ?_)) H)) (by simp only [Int.toNat_natCast, List.getElem?_map, hcc]; rfl)) ?_
      refine L_pur rfl (bld42 (.cons rfl (.cons rfl .nil)) (by repeat constructor)) ?_
      refine L_op (x_alloc ty42 rfl fun b11 => ?_)
      refine L_op (x_store rfl rfl ty42 rfl (by first | rfl | (simp [*]; done)) (by first | rfl | (simp [*]; done)) (by repeat (first | with_reducible exact Rep1.here | with_reducible apply Rep1.there)) (by first | exact Put.full rfl | ((repeat constructor); done) | exact Put.full (by first | rfl | simp [*])) ?_)
      refine L_nil ?_
      refine Q_then ?_
      refine J_seq ?_
      refine J_seq ?_
      refine J_region ?_
      refine L_pur rfl (p_move rfl) ?_
      refine L_pur rfl (p_gtr rfl rfl) ?_
      refine L_pur rfl (p_move rfl) ?_
      refine J_gsplit (t := 34) rfl (fun h34 => ?_) (fun h34 => ?_)
      ·
        simp at h34
        refine L_op (G_on rfl rfl rfl ?_)
        refine J_pur (p_move rfl) rfl rfl rfl ?_
        refine L_op (G_on rfl rfl rfl ?_)
        refine J_pur (p_move rfl) rfl rfl rfl ?_
        refine L_op (G_on rfl rfl rfl ?_)
        refine J_pur (p_sub64 rfl rfl (by omega)) rfl rfl rfl ?_
        refine L_op (G_on rfl rfl rfl ?_)
        refine x_call Try.func84 nm84 bd84 (.cons rfl (.cons rfl .nil)) rfl (rright (gs := gs) (k := (k : Int) - 1) (by omega) (fun w H => hr w (Sub.sep (by repeat (first | exact Sub.nil | exact Sub.refl | refine Sub.cons (by repeat (first | exact Pick.here | apply Pick.there)) ?_ | refine Sub.drop ?_)) H))) fun _ => ?_
        refine L_pur rfl (p_pick_t rfl rfl) ?_
        refine L_pur rfl (p_move rfl) ?_
        refine J_gsplit (t := 40) rfl (fun h40 => ?_) (fun h40 => ?_)
        ·
          obtain ⟨d, hdd⟩ : ∃ d, es[((k : Int) - 1).toNat]? = some d := ⟨_, List.getElem?_eq_getElem (by omega)⟩
          have hfl := flag_at hdd
          refine L_op (G_on rfl rfl rfl ?_)
          refine J_pur (p_move rfl) rfl rfl rfl ?_
          refine L_op (G_on rfl rfl rfl ?_)
          refine J_pur (p_move rfl) rfl rfl rfl ?_
          refine L_op (G_on rfl rfl rfl ?_)
          refine J_pur (p_sub64 rfl rfl (by omega)) rfl rfl rfl ?_
          refine L_op (G_on rfl rfl rfl ?_)
          refine J_pur (p_indexAddr rfl rfl Try.underlying29 ty39 (by omega) (by omega)) rfl rfl rfl ?_
          refine L_op (G_on rfl rfl rfl ?_)
          refine J_pur (p_fieldAddr rfl fa39_1) rfl rfl rfl ?_
          refine L_op (G_on rfl rfl rfl ?_)
          refine J_val (v_loadRF rfl ty3 (fun w H => hs w (Sub.sep (by repeat (first | exact Sub.nil | exact Sub.refl | refine Sub.cons (by repeat (first | exact Pick.here | apply Pick.there)) ?_ | refine Sub.drop ?_)) H)) (by rw [List.getElem?_map, hdd]; rfl) (by exact rfl)) rfl rfl rfl ?_
          refine L_op (G_on rfl rfl rfl ?_)
          refine J_pur (p_and rfl rfl) rfl rfl rfl ?_
          refine L_op (G_on rfl rfl rfl ?_)
          refine J_pur (p_neq rfl rfl) rfl rfl rfl ?_
          refine L_pur rfl (p_pick_t rfl rfl) ?_
          refine L_nil ?_
          refine Q_then ?_
          refine C_split rfl (fun h49 => ?_) (fun h49 => ?_)
          ·
            have hsf : softOf gs es k = decide (bits .and .i64 d.2.1 1 ≠ 0) := by simp [softOf, h40, hfl]
            have hpv : prevOf seq gs es k = seq + k - 1 := by simp only [prevOf, h40, hfl, Bool.true_and]; rw [if_pos (by simpa using h49)]
            refine J_seq ?_
            refine J_region ?_
            refine L_pur rfl (p_move rfl) ?_
            refine L_pur rfl (p_move rfl) ?_
            refine L_pur rfl (p_add64 rfl rfl (by omega)) ?_
            refine L_pur rfl (p_sub64 rfl rfl (by omega)) ?_
            refine L_pur rfl (p_fieldAddr rfl fa42_2) ?_
            refine L_op (x_store rfl rfl ty3 rfl (by first | rfl | (simp [*]; done)) (by first | rfl | (simp [*]; done)) (by repeat (first | with_reducible exact Rep1.here | with_reducible apply Rep1.there)) (by first | exact Put.full rfl | ((repeat constructor); done) | exact Put.full (by first | rfl | simp [*])) ?_)
            refine L_nil ?_
            refine Q_then ?_
            refine J_region ?_
            refine L_pur rfl (p_move rfl) ?_
            refine L_pur rfl (p_move rfl) ?_
            refine L_pur rfl (p_sub64 rfl rfl (by omega)) ?_
            refine L_pur rfl (p_indexAddr rfl rfl Try.underlying29 ty39 (by omega) (by omega)) ?_
            refine L_pur rfl (p_fieldAddr rfl fa39_1) ?_
            refine L_val rfl (v_loadRF rfl ty3 (fun w H => hs w (Sub.sep (by repeat (first | exact Sub.nil | exact Sub.refl | refine Sub.cons (by repeat (first | exact Pick.here | apply Pick.there)) ?_ | refine Sub.drop ?_)) H)) (by rw [List.getElem?_map, hdd]; rfl) (by exact rfl)) ?_
            refine L_pur rfl (p_and rfl rfl) ?_
            refine L_pur rfl (p_neq rfl rfl) ?_
            refine L_pur rfl (p_fieldAddr rfl fa42_3) ?_
            refine L_op (x_store rfl rfl ty4 rfl (by first | rfl | (simp [*]; done)) (by first | rfl | (simp [*]; done)) (by repeat (first | with_reducible exact Rep1.here | with_reducible apply Rep1.there)) (by first | exact Put.full rfl | ((repeat constructor); done) | exact Put.full (by first | rfl | simp [*])) ?_)
            refine L_nil ?_
            refine Q_then ?_
            refine J_region ?_
            refine L_pur rfl (p_move rfl) ?_
            refine L_val rfl (v_loadA rfl ty42 (by repeat (first | with_reducible exact Has.here | with_reducible assumption | with_reducible apply Has.there)) (by first | exact Cut.full rfl | ((repeat constructor); done) | exact Cut.full (by first | rfl | simp [*]))) ?_
            refine L_op (x_lit (vals := [_]) Try.underlying33 ty42 rfl (.cons rfl .nil) (.agg .nil) (Wf.cons rfl rfl Wf.nil) rfl (by decide) rfl rfl fun v66 => ?_)
            refine J_row .here fun hw66 a66 c66 hv66 hl66 hm66 hz66 => ?_
            subst hv66
            refine L_op (x_app rfl rfl Try.underlying33 ty42 rfl rfl (by repeat (first | with_reducible exact Pick.here | with_reducible assumption | with_reducible apply Pick.there)) (fun w H => sep_reads (by repeat (first | with_reducible exact Has.here | with_reducible assumption | with_reducible apply Has.there)) H) (by first | omega | (simp <;> omega)) (by first | omega | (simp <;> omega)) rfl fun v67 => ?_)
            refine J_rowEq (ys := ((plan ring seq gs es (k + 1)).map encQ)) (by rw [plan_succ hcc, if_pos hri, List.map_append]; simp [reqAt, encQ, hpv, hsf]) ?_
            refine J_row .here fun hw67 a67 c67 hv67 hl67 hm67 hz67 => ?_
            subst hv67
            refine L_pur rfl (p_assign rfl) ?_
            refine L_nil ?_
            refine Q_blk_normal ?_
            refine Q_then ?_
            refine J_region ?_
            refine L_pur rfl (p_move rfl) ?_
            refine L_pur rfl (p_add64 rfl rfl (by omega)) ?_
            refine L_pur rfl (p_assign rfl) ?_
            refine L_nil ?_
            refine Q_then ?_
            
            exact J_again2 (k + 1) _ (by omega) (by omega) (by repeat (first | exact Sub.nil | exact Sub.refl | refine Sub.cons (by repeat (first | exact Pick.here | apply Pick.there)) ?_ | refine Sub.drop ?_)) (by repeat (first | exact Keep.nil | refine Keep.cons rfl ?_))
          ·
            have h3z : bits .and .i64 d.2.1 3 = 0 := by simpa using h49
            have hsf : softOf gs es k = false := by simp [softOf, hfl, and31 h3z]
            have hpv : prevOf seq gs es k = 0 := by simp [prevOf, hfl, h3z]
            refine J_skip ?_
            refine Q_then ?_
            refine J_region ?_
            refine L_pur rfl (p_move rfl) ?_
            refine L_val rfl (v_loadA rfl ty42 (by repeat (first | with_reducible exact Has.here | with_reducible assumption | with_reducible apply Has.there)) (by first | exact Cut.full rfl | ((repeat constructor); done) | exact Cut.full (by first | rfl | simp [*]))) ?_
            refine L_op (x_lit (vals := [_]) Try.underlying33 ty42 rfl (.cons rfl .nil) (.agg .nil) (Wf.cons rfl rfl Wf.nil) rfl (by decide) rfl rfl fun v66 => ?_)
            refine J_row .here fun hw66 a66 c66 hv66 hl66 hm66 hz66 => ?_
            subst hv66
            refine L_op (x_app rfl rfl Try.underlying33 ty42 rfl rfl (by repeat (first | with_reducible exact Pick.here | with_reducible assumption | with_reducible apply Pick.there)) (fun w H => sep_reads (by repeat (first | with_reducible exact Has.here | with_reducible assumption | with_reducible apply Has.there)) H) (by first | omega | (simp <;> omega)) (by first | omega | (simp <;> omega)) rfl fun v67 => ?_)
            refine J_rowEq (ys := ((plan ring seq gs es (k + 1)).map encQ)) (by rw [plan_succ hcc, if_pos hri, List.map_append]; simp [reqAt, encQ, hpv, hsf]) ?_
            refine J_row .here fun hw67 a67 c67 hv67 hl67 hm67 hz67 => ?_
            subst hv67
            refine L_pur rfl (p_assign rfl) ?_
            refine L_nil ?_
            refine Q_blk_normal ?_
            refine Q_then ?_
            refine J_region ?_
            refine L_pur rfl (p_move rfl) ?_
            refine L_pur rfl (p_add64 rfl rfl (by omega)) ?_
            refine L_pur rfl (p_assign rfl) ?_
            refine L_nil ?_
            refine Q_then ?_
            
            exact J_again2 (k + 1) _ (by omega) (by omega) (by repeat (first | exact Sub.nil | exact Sub.refl | refine Sub.cons (by repeat (first | exact Pick.here | apply Pick.there)) ?_ | refine Sub.drop ?_)) (by repeat (first | exact Keep.nil | refine Keep.cons rfl ?_))
        ·
          have hsf : softOf gs es k = false := by simp [softOf, h40]
          have hpv : prevOf seq gs es k = 0 := by simp [prevOf, h40]
          refine L_op (G_off rfl rfl rfl rfl rfl rfl ?_)
          refine L_op (G_off rfl rfl rfl rfl rfl rfl ?_)
          refine L_op (G_off rfl rfl rfl rfl rfl rfl ?_)
          refine L_op (G_off rfl rfl rfl rfl rfl rfl ?_)
          refine L_op (G_off rfl rfl rfl rfl rfl rfl ?_)
          refine L_op (G_off rfl rfl rfl rfl rfl rfl ?_)
          refine L_op (G_off rfl rfl rfl rfl rfl rfl ?_)
          refine L_op (G_off rfl rfl rfl rfl rfl rfl ?_)
          refine L_pur rfl (p_pick_f rfl rfl) ?_
          refine L_nil ?_
          refine Q_then ?_
          refine C_false rfl ?_
          refine J_skip ?_
          refine Q_then ?_
          refine J_region ?_
          refine L_pur rfl (p_move rfl) ?_
          refine L_val rfl (v_loadA rfl ty42 (by repeat (first | with_reducible exact Has.here | with_reducible assumption | with_reducible apply Has.there)) (by first | exact Cut.full rfl | ((repeat constructor); done) | exact Cut.full (by first | rfl | simp [*]))) ?_
          refine L_op (x_lit (vals := [_]) Try.underlying33 ty42 rfl (.cons rfl .nil) (.agg .nil) (Wf.cons rfl rfl Wf.nil) rfl (by decide) rfl rfl fun v66 => ?_)
          refine J_row .here fun hw66 a66 c66 hv66 hl66 hm66 hz66 => ?_
          subst hv66
          refine L_op (x_app rfl rfl Try.underlying33 ty42 rfl rfl (by repeat (first | with_reducible exact Pick.here | with_reducible assumption | with_reducible apply Pick.there)) (fun w H => sep_reads (by repeat (first | with_reducible exact Has.here | with_reducible assumption | with_reducible apply Has.there)) H) (by first | omega | (simp <;> omega)) (by first | omega | (simp <;> omega)) rfl fun v67 => ?_)
          refine J_rowEq (ys := ((plan ring seq gs es (k + 1)).map encQ)) (by rw [plan_succ hcc, if_pos hri, List.map_append]; simp [reqAt, encQ, hpv, hsf]) ?_
          refine J_row .here fun hw67 a67 c67 hv67 hl67 hm67 hz67 => ?_
          subst hv67
          refine L_pur rfl (p_assign rfl) ?_
          refine L_nil ?_
          refine Q_blk_normal ?_
          refine Q_then ?_
          refine J_region ?_
          refine L_pur rfl (p_move rfl) ?_
          refine L_pur rfl (p_add64 rfl rfl (by omega)) ?_
          refine L_pur rfl (p_assign rfl) ?_
          refine L_nil ?_
          refine Q_then ?_
          
          exact J_again2 (k + 1) _ (by omega) (by omega) (by repeat (first | exact Sub.nil | exact Sub.refl | refine Sub.cons (by repeat (first | exact Pick.here | apply Pick.there)) ?_ | refine Sub.drop ?_)) (by repeat (first | exact Keep.nil | refine Keep.cons rfl ?_))
      ·
        simp at h34
        have hr0 : rightAt gs ((k : Int) - 1) = false := by unfold rightAt; rw [decide_eq_false (by omega)]; rfl
        have hsf : softOf gs es k = false := by simp [softOf, hr0]
        have hpv : prevOf seq gs es k = 0 := by simp [prevOf, hr0]
        refine L_op (G_off rfl rfl rfl rfl rfl rfl ?_)
        refine L_op (G_off rfl rfl rfl rfl rfl rfl ?_)
        refine L_op (G_off rfl rfl rfl rfl rfl rfl ?_)
        refine L_op (G_off rfl rfl rfl rfl rfl rfl ?_)
        refine L_pur rfl (p_pick_f rfl rfl) ?_
        refine L_pur rfl (p_move rfl) ?_
        refine L_op (G_off rfl rfl rfl rfl rfl rfl ?_)
        refine L_op (G_off rfl rfl rfl rfl rfl rfl ?_)
        refine L_op (G_off rfl rfl rfl rfl rfl rfl ?_)
        refine L_op (G_off rfl rfl rfl rfl rfl rfl ?_)
        refine L_op (G_off rfl rfl rfl rfl rfl rfl ?_)
        refine L_op (G_off rfl rfl rfl rfl rfl rfl ?_)
        refine L_op (G_off rfl rfl rfl rfl rfl rfl ?_)
        refine L_op (G_off rfl rfl rfl rfl rfl rfl ?_)
        refine L_pur rfl (p_pick_f rfl rfl) ?_
        refine L_nil ?_
        refine Q_then ?_
        refine C_false rfl ?_
        refine J_skip ?_
        refine Q_then ?_
        refine J_region ?_
        refine L_pur rfl (p_move rfl) ?_
        refine L_val rfl (v_loadA rfl ty42 (by repeat (first | with_reducible exact Has.here | with_reducible assumption | with_reducible apply Has.there)) (by first | exact Cut.full rfl | ((repeat constructor); done) | exact Cut.full (by first | rfl | simp [*]))) ?_
        refine L_op (x_lit (vals := [_]) Try.underlying33 ty42 rfl (.cons rfl .nil) (.agg .nil) (Wf.cons rfl rfl Wf.nil) rfl (by decide) rfl rfl fun v66 => ?_)
        refine J_row .here fun hw66 a66 c66 hv66 hl66 hm66 hz66 => ?_
        subst hv66
        refine L_op (x_app rfl rfl Try.underlying33 ty42 rfl rfl (by repeat (first | with_reducible exact Pick.here | with_reducible assumption | with_reducible apply Pick.there)) (fun w H => sep_reads (by repeat (first | with_reducible exact Has.here | with_reducible assumption | with_reducible apply Has.there)) H) (by first | omega | (simp <;> omega)) (by first | omega | (simp <;> omega)) rfl fun v67 => ?_)
        refine J_rowEq (ys := ((plan ring seq gs es (k + 1)).map encQ)) (by rw [plan_succ hcc, if_pos hri, List.map_append]; simp [reqAt, encQ, hpv, hsf]) ?_
        refine J_row .here fun hw67 a67 c67 hv67 hl67 hm67 hz67 => ?_
        subst hv67
        refine L_pur rfl (p_assign rfl) ?_
        refine L_nil ?_
        refine Q_blk_normal ?_
        refine Q_then ?_
        refine J_region ?_
        refine L_pur rfl (p_move rfl) ?_
        refine L_pur rfl (p_add64 rfl rfl (by omega)) ?_
        refine L_pur rfl (p_assign rfl) ?_
        refine L_nil ?_
        refine Q_then ?_
        
        exact J_again2 (k + 1) _ (by omega) (by omega) (by repeat (first | exact Sub.nil | exact Sub.refl | refine Sub.cons (by repeat (first | exact Pick.here | apply Pick.there)) ?_ | refine Sub.drop ?_)) (by repeat (first | exact Keep.nil | refine Keep.cons rfl ?_))
  ·
    have hke : k = es.length := by omega
    subst hke
    refine J_exit ?_
    refine Q_then_exit ?_
    refine Q_then_exit ?_
    refine Q_blk_this ?_
    refine Q_then ?_
    refine J_seq ?_
    refine J_region ?_
    refine L_pur rfl (p_move rfl) ?_
    refine L_pur rfl (p_assign rfl) ?_
    refine L_nil ?_
    refine Q_then ?_
    refine J_ret ?_
    exact J_return (_) Try.results26 (.tmp rfl .nil) rfl (by repeat (first | exact Sub.nil | exact Sub.refl | refine Sub.cons (by repeat (first | exact Pick.here | apply Pick.there)) ?_ | refine Sub.drop ?_))

end Go.Pse
