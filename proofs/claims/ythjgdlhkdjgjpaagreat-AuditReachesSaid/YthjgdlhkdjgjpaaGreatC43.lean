/-
  The law on what is counted, walked.
-/
import Derived.Test.YthjgdlhkdjgjpaaGreatC42
namespace Go.Pse
open Go.RowKit Go.Proofs

/-! ### plain: the first states -/
theorem rings_all (s : KS) : kRingsOk s = (s.rg.map Prod.fst).all (ringOk s) := by
  unfold kRingsOk
  rw [Bool.eq_iff_iff, List.all_eq_true, List.all_eq_true]
  exact ⟨fun h x hx => h x (sortZ_mem.2 hx), fun h x hx => h x (sortZ_mem.1 hx)⟩
theorem ring_eq {s : KS} {u : Int} {b : Nat} {r : Rg} (hl : look s.rg u = some (b, r)) (hrt : s.rt = []) (ht : r.tail = 0) (ho : r.over = []) : ringOk s u = (decide ((look s.tk u).getD 0 = ((jOf s.jn u).length : Int)) && decide (dOf s u = 0)) := by
  rw [ringOk_is hl, hrt, ofQ_nil, ho, ht]
  have h1 := jWent_le s.jn u
  rw [Bool.eq_iff_iff]
  unfold dOf
  simp
  omega
theorem rgNew_zero {a b c d : Int} : 0 ≤ (rgNew a b c d).tail ∧ (rgNew a b c d).tail < 4294967296 ∧ (rgNew a b c d).over.length ≤ 1000000 := ⟨by show (0 : Int) ≤ 0; omega, by show (0 : Int) < 4294967296; omega, by show 0 ≤ 1000000; omega⟩
structure Fst (K : KS) (g : NewG) : Prop where
  right : SlRight K.sl
  idle : Idle K
  nsl : K.sl.length ≤ 1000000
  rg : K.rg = [(4, (g.bs 0).1, rgNew 5 6 0 0), (13, (g.bs 1).1, rgNew 14 15 0 0)]
  tk : K.tk = [(4, 0), (13, 0)]
  jn : K.jn = []
theorem fst_sl : slRightB (coreN 2 2 true).2.2.1 = true ∧ (coreN 2 2 true).2.2.1.length ≤ 1000000 := by decide +kernel
theorem fst_core (g : NewG) : (kNew 2 2 0 0 true g).sl = (coreN 2 2 true).2.2.1 := by
  have hc : kCore (kNew ((2 : Nat) : Int) ((2 : Nat) : Int) 0 0 true g) = coreN 2 2 true := kNew_core (by omega) (by omega)
  rw [show ((2 : Nat) : Int) = 2 from rfl] at hc
  unfold kCore at hc
  rw [← hc]
set_option maxRecDepth 100000 in
theorem fst_idle (g : NewG) : Idle (kNew 2 2 0 0 true g) := by
  refine ⟨fun x hx => ?_, fun x hx => ?_, fun x hx => ?_, rfl, rfl⟩
  · obtain rfl := List.mem_singleton.1 (show x ∈ [(19, g.be, [], [])] from hx)
    rfl
  · obtain rfl := List.mem_singleton.1 (show x ∈ [(20, g.bn, 0, [])] from hx)
    rfl
  · have h : x ∈ [(7, (g.bs 0).2, (0, 0), false), (16, (g.bs 1).2, (0, 0), false)] := hx
    rcases List.mem_cons.1 h with rfl | h
    · rfl
    · obtain rfl := List.mem_singleton.1 h
      rfl
set_option maxRecDepth 100000 in
theorem fst_rg (g : NewG) : (kNew 2 2 0 0 true g).rg = [(4, (g.bs 0).1, rgNew 5 6 0 0), (13, (g.bs 1).1, rgNew 14 15 0 0)] := rfl
set_option maxRecDepth 100000 in
theorem fst_tk (g : NewG) : (kNew 2 2 0 0 true g).tk = [(4, 0), (13, 0)] ∧ (kNew 2 2 0 0 true g).jn = [] := ⟨rfl, rfl⟩
theorem fst_is (g : NewG) : Fst (kNew 2 2 0 0 true g) g := by
  have hs := fst_core g
  have h1 := fst_idle g
  have h2 := fst_rg g
  have h3 := fst_tk g
  generalize kNew 2 2 0 0 true g = K at hs h1 h2 h3
  exact ⟨by rw [hs]; exact slRight_of fst_sl.1, h1, by rw [hs]; exact fst_sl.2, h2, h3.1, h3.2⟩
def d41 : Deed := ((4, 1), 0, 0, 0, 0, false)
theorem Fst.ok {K : KS} {g : NewG} (h : Fst K g) : ∀ x ∈ K.rg, 0 ≤ x.2.2.tail ∧ x.2.2.tail < 4294967296 ∧ x.2.2.over.length ≤ 1000000 := fun x hx => by
  rw [h.rg] at hx
  rcases List.mem_cons.1 hx with rfl | hx
  · exact rgNew_zero
  · obtain rfl := List.mem_singleton.1 hx
    exact rgNew_zero
theorem Fst.rings {K : KS} {g : NewG} (h : Fst K g) : kRingsOk K = true ∧ kRingsOk { K with jn := [d41] } = false := by
  constructor
  · rw [rings_all, h.rg]
    show (ringOk K 4 && (ringOk K 13 && true)) = true
    rw [ring_eq (u := 4) (b := (g.bs 0).1) (r := rgNew 5 6 0 0) (by rw [h.rg]; rfl) h.idle.rt rfl rfl, ring_eq (u := 13) (b := (g.bs 1).1) (r := rgNew 14 15 0 0) (by rw [h.rg]; rfl) h.idle.rt rfl rfl]
    unfold dOf jWent
    rw [h.tk, h.jn]; rfl
  · rw [rings_all]
    have e : K.rg.map Prod.fst = [4, 13] := by rw [h.rg]; rfl
    show (K.rg.map Prod.fst).all (ringOk { K with jn := [d41] }) = false
    rw [e]
    show (ringOk { K with jn := [d41] } 4 && (ringOk { K with jn := [d41] } 13 && true)) = false
    rw [ring_eq (s := { K with jn := [d41] }) (u := 4) (b := (g.bs 0).1) (r := rgNew 5 6 0 0) (by show look K.rg 4 = _; rw [h.rg]; rfl) h.idle.rt rfl rfl]
    show ((decide ((look K.tk 4).getD 0 = 1) && decide (dOf { K with jn := [d41] } 4 = 0)) && _) = false
    rw [h.tk]; rfl
set_option maxRecDepth 100000 in
set_option maxHeartbeats 4000000 in
theorem first28 {E : World} {l : List As} :
  Con Tryz.prog 5 #[] E l (fun _ : Unit => .bool true) (fun _ => l) := by
 refine Con.body (vs := []) (n := 29) Tryz.func5 rfl rfl [] (env_ok 0 rfl) <| sr <| ag rfl rfl <| nx <| L_pur rfl (bld27 (.cons rfl (.cons rfl (.cons rfl .nil))) (by repeat constructor)) <| J_slot (t := 2) (v := .agg (encG 2 2 0 0 true).toArray) rfl rfl <| L_op <| x_call Tryz.func6 nm6 bd6 (.cons rfl .nil) rfl (coNew (ct := 2) (cu := 2) (cs := 0) (cc := 0) (sh := true)) fun g => ?_
 have hT := fst_is g
 obtain ⟨K, hK⟩ : ∃ K, K = kNew 2 2 0 0 true g := ⟨_, rfl⟩
 rw [← hK] at hT
 refine J_pick (A := coA g.p _) PC ?_
 refine J_asTo (B := coA g.p K) (by rw [hK]) ?_
 have hID : Idle { K with jn := [d41] } := ⟨hT.idle.ep, hT.idle.nt, hT.idle.rp, hT.idle.tm, hT.idle.rt⟩
 refine ag rfl rfl <| nxx <| mv rfl rfl <| L_pur rfl (p_eqNilPtr Tryz.underlying24 rfl) <| mv rfl rfl <| J_bool (t := 6) (c := false) rfl (rfl) <| L_op <| G_on rfl rfl rfl ?_
 refine J_pur (p_move rfl) rfl rfl rfl <| L_op <| G_on rfl rfl rfl <| x_call Tryz.func7 nm7 bd7 (.cons rfl .nil) rfl (coJournal) fun _ => L_op <| G_on rfl rfl rfl <| J_pur (p_eqNilPtr Tryz.underlying28 rfl) rfl rfl rfl <| L_pur rfl (p_pick_f rfl rfl) ?_
 refine mv rfl rfl <| J_bool (t := 11) (c := false) rfl (rfl) <| L_op <| G_on rfl rfl rfl <| J_pur (p_move rfl) rfl rfl rfl <| L_op <| G_on rfl rfl rfl <| x_call Tryz.func19 nm19 bd19 (.cons rfl .nil) rfl (coAuAll (s := K) PC hT.right hT.idle hT.nsl (by rw [hT.jn]; decide) (by rw [hT.rg]; show 2 ≤ 1000; omega) hT.ok) fun _ => ?_
 refine J_bool (t := 13) (c := true) rfl (by rw [hT.rings.1]) <| L_op <| G_on rfl rfl rfl <| J_pur (p_not rfl) rfl rfl rfl <| L_pur rfl (p_pick_f rfl rfl) <| nq <| J_bool (t := 15) (c := false) rfl (rfl) <| C_false rfl ?_
 refine J_skip <| qx <| mv rfl rfl <| L_op <| x_call Tryz.func7 nm7 bd7 (.cons rfl .nil) rfl (coJournal) fun _ => L_pur rfl (bld35 (.cons rfl (.cons rfl .nil)) (by repeat constructor)) <| L_pur rfl (bld38 (.cons rfl .nil) (by repeat constructor)) <| J_slot (t := 19) (v := .agg (encD d41).toArray) rfl rfl ?_
 refine L_op <| x_call Tryz.func11 nm11 bd11 (.cons rfl (.cons rfl .nil)) rfl (coJAdd (s := K) (d := d41) PC (by rw [hT.jn]; decide)) fun _ => ?_
 refine J_pick (A := coA g.p _) PC ?_
 refine J_asTo (B := coA g.p { K with jn := [d41] }) (by rw [hT.jn]; rfl) <| nx <| mv rfl rfl <| L_op <| x_call Tryz.func13 nm13 bd13 (.cons rfl .nil) rfl (coRingsOk (s := { K with jn := [d41] }) PC (by show 1 ≤ 200000; omega) (by show Ids K.rt; rw [hT.idle.rt]; exact Ids.nil) (by show K.rt.length ≤ 100000; rw [hT.idle.rt]; decide) (by show K.rg.length ≤ 1000; rw [hT.rg]; show 2 ≤ 1000; omega) hT.ok) fun _ => ?_
 refine J_bool (t := 22) (c := false) rfl (by rw [hT.rings.2]) <| L_pur rfl (p_not rfl) <| mv rfl rfl <| J_bool (t := 24) (c := true) rfl (rfl) <| L_op <| G_on rfl rfl rfl <| J_pur (p_move rfl) rfl rfl rfl <| L_op <| G_on rfl rfl rfl ?_
 refine x_call Tryz.func19 nm19 bd19 (.cons rfl .nil) rfl (coAuAll (s := { K with jn := [d41] }) PC hT.right hID hT.nsl (by show 1 ≤ 200000; omega) (by show K.rg.length ≤ 1000; rw [hT.rg]; show 2 ≤ 1000; omega) hT.ok) fun _ => ?_
 refine J_bool (t := 26) (c := false) rfl (by rw [hT.rings.2]) <| L_op <| G_on rfl rfl rfl <| J_pur (p_not rfl) rfl rfl rfl <| L_pur rfl (p_pick_t rfl rfl) <| ag rfl rfl <| nq <| J_ret ?_
 exact J_return (()) Tryz.results5 (.tmp rfl .nil) rfl SU

/-! ### plain: what is counted -/
structure Cn (K : KS) (g : NewG) : Prop where
  rt : K.rt = []
  rg : K.rg = [(4, (g.bs 0).1, rgNew 5 6 0 0)]
  tk : K.tk = [(4, 0)]
  jn : K.jn = []
set_option maxRecDepth 100000 in
theorem cn_is (g : NewG) : Cn (kNew 1 3 0 0 false g) g := ⟨rfl, rfl, rfl, rfl⟩
def AC (K : KS) (T : Nat) (J : List Deed) : KS := { K with tk := [(4, (T : Int))], jn := J }
def nG (J : List Deed) : Nat := J.countP isGone
def nD (J : List Deed) : Nat := J.countP fun d => !isGone d
structure OkC (i T : Nat) (J : List Deed) : Prop where
  t : T ≤ i
  j : J.length ≤ i
  r : ∀ d ∈ J, d.1.1 = 4
theorem nGD (J : List Deed) : nD J + nG J = J.length := by
  unfold nD nG
  have := List.length_eq_countP_add_countP isGone (l := J)
  have e : (J.countP fun d => !isGone d) = J.countP (fun a => decide ¬isGone a = true) := by
    congr 1; funext d; cases isGone d <;> rfl
  rw [e]; omega
theorem jOf_4 {J : List Deed} (h : ∀ d ∈ J, d.1.1 = 4) : jOf J 4 = J := List.filter_eq_self.2 fun d hd => by unfold ofR; simpa using h d hd
theorem jOf_9 {J : List Deed} (h : ∀ d ∈ J, d.1.1 = 4) : jOf J 9 = [] := List.filter_eq_nil_iff.2 fun d hd => by unfold ofR; rw [h d hd]; decide
theorem cnt_4 {K : KS} {i T : Nat} {J : List Deed} (h : OkC i T J) : dOf (AC K T J) 4 = (nD J : Int) ∧ jWent (AC K T J).jn 4 = nG J := by
  have e : jOf (AC K T J).jn 4 = J := jOf_4 h.r
  have h2 := nGD J
  unfold dOf jWent
  rw [e]
  exact ⟨by show (J.length : Int) - (nG J : Nat) = _; omega, rfl⟩
theorem cnt_9 {K : KS} {i T : Nat} {J : List Deed} (h : OkC i T J) : dOf (AC K T J) 9 = 0 ∧ jWent (AC K T J).jn 9 = 0 := by
  have e : jOf (AC K T J).jn 9 = [] := jOf_9 h.r
  unfold dOf jWent
  rw [e]; exact ⟨rfl, rfl⟩
theorem rings_c {K : KS} {g : NewG} (hT : Cn K g) {i T : Nat} {J : List Deed} (h : OkC i T J) : kRingsOk (AC K T J) = (decide ((T : Int) = (nD J : Int) + (nG J : Int)) && decide ((nD J : Int) = 0)) := by
  rw [rings_all]
  have e : K.rg.map Prod.fst = [4] := by rw [hT.rg]; rfl
  show (K.rg.map Prod.fst).all (ringOk (AC K T J)) = _
  rw [e]
  show (ringOk (AC K T J) 4 && true) = _
  rw [ring_eq (s := AC K T J) (u := 4) (b := (g.bs 0).1) (r := rgNew 5 6 0 0) (by show look K.rg 4 = _; rw [hT.rg]; rfl) hT.rt rfl rfl, (cnt_4 h).1, show jOf (AC K T J).jn 4 = J from jOf_4 h.r, show (look (AC K T J).tk 4).getD 0 = (T : Int) from rfl, Bool.and_true]
  have h2 := nGD J
  rw [Bool.eq_iff_iff]
  simp
  omega
def dCn (i : Nat) (b : Bool) : Deed := ((4, (i : Int)), 0, 0, 0, 0, b)
theorem OkC.take {i T : Nat} {J : List Deed} (h : OkC i T J) : OkC (i + 1) (T + 1) J := ⟨by have := h.t; omega, by have := h.j; omega, h.r⟩
theorem OkC.put {i T : Nat} {J : List Deed} (h : OkC i T J) (k : Nat) (b : Bool) : OkC (i + 1) T (J ++ [dCn k b]) := ⟨by have := h.t; omega, by have := h.j; simp; omega, fun d hd => by
  rcases List.mem_append.1 hd with h1 | h1
  · exact h.r d h1
  · rw [List.mem_singleton.1 h1]; rfl⟩
theorem nD_put {J : List Deed} {k : Nat} {b : Bool} : nD (J ++ [dCn k b]) = nD J + (if b then 0 else 1) ∧ nG (J ++ [dCn k b]) = nG J + (if b then 1 else 0) := by
  unfold nD nG
  rw [List.countP_append, List.countP_append]
  cases b <;> exact ⟨rfl, rfl⟩
set_option maxRecDepth 100000 in
set_option maxHeartbeats 4000000 in
theorem auditCounts {E W : World} {v : Value} {ds : List Int} (hr : Reads W 1 v (ds.map encN)) :
  Con Tryz.prog 3 #[v] E [old W] (fun _ : Unit => .bool true) (fun _ => [old W]) := by
 refine Con.body (vs := [v]) (n := 133) Tryz.func3 rfl rfl [(0, v)] (env_ok 1 rfl) <| J_readsB (fun w H => hr.old HS H) fun hw a cap hv h1 h2 h3 => ?_
 subst hv
 have hm : cap ≤ 9223372036854775807 := h2
 have hml : (ds.map encN).length = ds.length := List.length_map _
 refine sr <| ag rfl rfl <| nx <| L_op <| x_call Tryz.func5 nm5 bd5 .nil rfl (first28) fun _ => ag rfl rfl <| nxx <| mv rfl rfl ?_
 refine L_pur rfl (p_not rfl) <| nq <| J_bool (t := 19) (c := false) rfl (rfl) <| C_false rfl <| J_skip <| Q_then <| J_seq <| sr ?_
 refine mv rfl rfl <| L_pur rfl (p_len rfl Tryz.underlying22) <| J_slot (t := 21) (v := .int .i64 (ds.length : Int)) rfl (by rw [hml]) <| L_pur rfl (p_gtr rfl rfl) <| nq ?_
 refine C_dec rfl (fun h22 => ?_) (fun h22 => ?_)
 ·
  refine sr <| mv rfl rfl <| ag rfl rfl <| nq <| J_ret <| Q_then_ret ?_
  exact J_return (()) Tryz.results3 (.tmp rfl .nil) rfl SU
 ·
  have hd1 : ds.length ≤ 20 := by omega
  refine J_skip <| qx <| L_pur rfl (bld27 (.cons rfl (.cons rfl .nil)) (by repeat constructor)) <| J_slot (t := 24) (v := .agg (encG 1 3 0 0 false).toArray) rfl rfl <| L_op <| x_call Tryz.func6 nm6 bd6 (.cons rfl .nil) rfl (coNew (ct := 1) (cu := 3) (cs := 0) (cc := 0) (sh := false)) fun g => ?_
  have hT := cn_is g
  obtain ⟨K, hK⟩ : ∃ K, K = kNew 1 3 0 0 false g := ⟨_, rfl⟩
  rw [← hK] at hT
  refine J_pick (A := coA g.p _) PC ?_
  refine J_asTo (B := coA g.p (AC K 0 [])) (by unfold AC; rw [show (((0 : Nat) : Int)) = 0 from rfl, ← hT.tk, ← hT.jn, hK]) <| ag rfl rfl <| nxx <| mv rfl rfl <| L_pur rfl (p_eqNilPtr Tryz.underlying24 rfl) <| mv rfl rfl <| J_bool (t := 28) (c := false) rfl (rfl) <| L_op <| G_on rfl rfl rfl ?_
  refine J_pur (p_move rfl) rfl rfl rfl <| L_op <| G_on rfl rfl rfl <| x_call Tryz.func7 nm7 bd7 (.cons rfl .nil) rfl (coJournal) fun _ => L_op <| G_on rfl rfl rfl <| J_pur (p_eqNilPtr Tryz.underlying28 rfl) rfl rfl rfl <| L_pur rfl (p_pick_f rfl rfl) ?_
  refine mv rfl rfl <| J_bool (t := 33) (c := false) rfl (rfl) <| L_op <| G_on rfl rfl rfl <| J_pur (p_move rfl) rfl rfl rfl <| L_op <| G_on rfl rfl rfl <| x_call Tryz.func8 nm8 bd8 (.cons rfl .nil) rfl (coReqs) fun _ => ?_
  refine L_op <| G_on rfl rfl rfl <| J_pur (p_eqNilPtr Tryz.underlying30 rfl) rfl rfl rfl <| L_pur rfl (p_pick_f rfl rfl) <| nq <| J_bool (t := 37) (c := false) rfl (rfl) <| C_false rfl <| J_skip ?_
  refine qx <| ag rfl rfl <| nx <| ag rfl rfl <| nx <| ag rfl rfl <| nxx <| ag rfl rfl ?_
  refine nq <| J_block <| J_loop3 (fun i T J => i ≤ ds.length ∧ OkC i T J) (fun i T J => [coA g.p (AC K T J), old W]) (fun i T J => [(8, .int .i64 (i : Int)), (5, .int .i64 ((T : Nat) : Int)), (6, .int .i64 ((nD J : Nat) : Int)), (7, .int .i64 ((nG J : Nat) : Int)), (0, .slice a (ds.map encN).length cap), (3, .bool true), (4, .pointer (some ⟨g.p, 0, none⟩))]) (fun i T J => ds.length - i) 0 0 [] ⟨by omega, ⟨by omega, by simp, fun _ h => by cases h⟩⟩ SU KE ?_
  intro i T J hiT
  obtain ⟨hi, hO⟩ := hiT
  have hTi := hO.t
  have hJi := hO.j
  refine J_seq <| sr <| mv rfl rfl <| mv rfl rfl <| L_pur rfl (p_len rfl Tryz.underlying22) <| J_slot (t := 40) (v := .int .i64 (ds.length : Int)) rfl (by rw [hml]) <| L_pur rfl (p_lss rfl rfl) <| nq ?_
  refine C_dec rfl (fun h41 => ?_) (fun h41 => ?_)
  ·
   have hlt : i < ds.length := by omega
   obtain ⟨bx, ox, rfl⟩ := h3 (by intro h; rw [h] at hml; simp at hml; omega)
   obtain ⟨c, hcc⟩ : ∃ c, ds[i]? = some c := ⟨_, List.getElem?_eq_getElem hlt⟩
   refine J_skip <| Q_then <| J_seq <| J_block ?_
   refine J_cut (α := Nat × List Deed) (fun x : Nat × List Deed => [As.pure (OkC (i + 1) x.1 x.2), coA g.p (AC K x.1 x.2), old W]) (fun x : Nat × List Deed => [(8, .int .i64 (i : Int)), (5, .int .i64 ((x.1 : Nat) : Int)), (6, .int .i64 ((nD x.2 : Nat) : Int)), (7, .int .i64 ((nG x.2 : Nat) : Int)), (0, .slice (some ⟨bx, ox, none⟩) (ds.map encN).length cap), (3, .bool true), (4, .pointer (some ⟨g.p, 0, none⟩))]) ?_ ?_
   ·
    refine sr <| mv rfl rfl <| mv rfl rfl <| L_pur rfl (p_indexAddr rfl rfl Tryz.underlying22 ty3 (by omega) (by omega)) ?_
    refine L_val rfl (by first | exact v_loadE1 rfl ty3 HS (by first | (simp only [Int.toNat_natCast, List.getElem?_map, hcc]; rfl) | (simp only [Int.toNat_natCast, List.getElem?_map, hcd]; rfl) | simp | rfl) | exact v_loadR1 rfl ty3 (fun w H => hr.old HS H) (by first | (simp only [Int.toNat_natCast, List.getElem?_map, hcc]; rfl) | (simp only [Int.toNat_natCast, List.getElem?_map, hcd]; rfl) | simp | rfl)) ?_
    refine L_op <| x_call Tryz.func9 nm9 bd9 (.cons rfl (.cons rfl .nil)) rfl (number (by omega) (by omega)) fun _ => nq <| J_block <| sr <| L_pur rfl (p_eql rfl rfl) <| ag rfl rfl <| nq ?_
    refine C_dec rfl (fun h57 => ?_) (fun h57 => ?_)
    ·
     refine J_region <| mv rfl rfl <| L_op <| x_call Tryz.func10 nm10 bd10 (.cons rfl (.cons rfl (.cons rfl .nil))) rfl (coTake (s := (AC K T J)) (r := 4) (n := 1) PC (by show _ ≤ (T : Int) ∧ (T : Int) ≤ _; omega) (by omega)) fun _ => ?_
     refine J_slot (t := 60) (v := .int .i64 ((T + 1 : Nat) : Int)) rfl (by rfl) <| J_pick (A := coA g.p _) PC ?_
     refine J_asTo (B := coA g.p (AC K (T + 1) J)) (by rfl) <| ag rfl rfl <| L_nil <| Q_blk_normal <| Q_then <| J_pure_in (p := OkC (i + 1) (T + 1) J) hO.take ?_
     exact J_at (L := (fun x : Nat × List Deed => [As.pure (OkC (i + 1) x.1 x.2), coA g.p (AC K x.1 x.2), old W])) (G := (fun x : Nat × List Deed => [(8, .int .i64 (i : Int)), (5, .int .i64 ((x.1 : Nat) : Int)), (6, .int .i64 ((nD x.2 : Nat) : Int)), (7, .int .i64 ((nG x.2 : Nat) : Int)), (0, .slice (some ⟨bx, ox, none⟩) (ds.map encN).length cap), (3, .bool true), (4, .pointer (some ⟨g.p, 0, none⟩))])) (T + 1, J) SU KE
    ·
     refine sr <| L_pur rfl (p_eql rfl rfl) <| ag rfl rfl <| nq ?_
     refine C_dec rfl (fun h61 => ?_) (fun h61 => ?_)
     ·
      refine sr <| mv rfl rfl <| L_op <| x_call Tryz.func7 nm7 bd7 (.cons rfl .nil) rfl (coJournal) fun _ => mv rfl rfl <| L_pur rfl (bld35 (.cons rfl (.cons rfl .nil)) (by repeat constructor)) <| L_pur rfl (bld38 (.cons rfl .nil) (by repeat constructor)) <| J_slot (t := 67) (v := .agg (encD (dCn i false)).toArray) rfl rfl ?_
      refine L_op <| x_call Tryz.func11 nm11 bd11 (.cons rfl (.cons rfl .nil)) rfl (coJAdd (s := (AC K T J)) (d := dCn i false) PC (by show J.length ≤ 200000; omega)) fun _ => ?_
      refine J_pick (A := coA g.p _) PC ?_
      refine J_asTo (B := coA g.p (AC K T (J ++ [dCn i false]))) (by rfl) <| ny <| mv rfl rfl <| L_pur rfl (p_add64 rfl rfl (by have := nGD J; omega)) <| J_slot (t := 70) (v := .int .i64 ((nD (J ++ [dCn i false]) : Nat) : Int)) rfl (by rw [nD_put.1]; rfl) <| J_slot (t := 7) (v := .int .i64 ((nG (J ++ [dCn i false]) : Nat) : Int)) rfl (by rw [nD_put.2]; rfl) <| ag rfl rfl <| L_nil ?_
      refine Q_blk_normal <| Q_then <| J_pure_in (p := OkC (i + 1) T (J ++ [dCn i false])) (hO.put i false) ?_
      exact J_at (L := (fun x : Nat × List Deed => [As.pure (OkC (i + 1) x.1 x.2), coA g.p (AC K x.1 x.2), old W])) (G := (fun x : Nat × List Deed => [(8, .int .i64 (i : Int)), (5, .int .i64 ((x.1 : Nat) : Int)), (6, .int .i64 ((nD x.2 : Nat) : Int)), (7, .int .i64 ((nG x.2 : Nat) : Int)), (0, .slice (some ⟨bx, ox, none⟩) (ds.map encN).length cap), (3, .bool true), (4, .pointer (some ⟨g.p, 0, none⟩))])) (T, J ++ [dCn i false]) SU KE
     ·
      refine sr <| mv rfl rfl <| L_op <| x_call Tryz.func7 nm7 bd7 (.cons rfl .nil) rfl (coJournal) fun _ => mv rfl rfl <| L_pur rfl (bld35 (.cons rfl (.cons rfl .nil)) (by repeat constructor)) <| L_pur rfl (bld38 (.cons rfl (.cons rfl .nil)) (by repeat constructor)) <| J_slot (t := 53) (v := .agg (encD (dCn i true)).toArray) rfl rfl ?_
      refine L_op <| x_call Tryz.func11 nm11 bd11 (.cons rfl (.cons rfl .nil)) rfl (coJAdd (s := (AC K T J)) (d := dCn i true) PC (by show J.length ≤ 200000; omega)) fun _ => ?_
      refine J_pick (A := coA g.p _) PC ?_
      refine J_asTo (B := coA g.p (AC K T (J ++ [dCn i true]))) (by rfl) <| ny <| mv rfl rfl <| L_pur rfl (p_add64 rfl rfl (by have := nGD J; omega)) <| J_slot (t := 56) (v := .int .i64 ((nG (J ++ [dCn i true]) : Nat) : Int)) rfl (by rw [nD_put.2]; rfl) <| J_slot (t := 6) (v := .int .i64 ((nD (J ++ [dCn i true]) : Nat) : Int)) rfl (by rw [nD_put.1]; rfl) <| ag rfl rfl <| L_nil ?_
      refine Q_blk_normal <| Q_then <| J_pure_in (p := OkC (i + 1) T (J ++ [dCn i true])) (hO.put i true) ?_
      exact J_at (L := (fun x : Nat × List Deed => [As.pure (OkC (i + 1) x.1 x.2), coA g.p (AC K x.1 x.2), old W])) (G := (fun x : Nat × List Deed => [(8, .int .i64 (i : Int)), (5, .int .i64 ((x.1 : Nat) : Int)), (6, .int .i64 ((nD x.2 : Nat) : Int)), (7, .int .i64 ((nG x.2 : Nat) : Int)), (0, .slice (some ⟨bx, ox, none⟩) (ds.map encN).length cap), (3, .bool true), (4, .pointer (some ⟨g.p, 0, none⟩))])) (T, J ++ [dCn i true]) SU KE
   ·
    intro x
    obtain ⟨T2, J2⟩ := x
    dsimp only
    refine J_pure fun hO2 => ?_
    have hTi2 := hO2.t
    have hJi2 := hO2.j
    have hcn := cnt_4 (K := K) hO2
    have hgd := nGD J2
    refine sr <| mv rfl rfl <| L_op <| x_call Tryz.func12 nm12 bd12 (.cons rfl (.cons rfl .nil)) rfl (coCount (s := AC K T2 J2) (r := 4) PC (by show J2.length ≤ 200000; omega) (by show Ids K.rt; rw [hT.rt]; exact Ids.nil) (by show K.rt.length ≤ 100000; rw [hT.rt]; decide)) fun _ => ?_
    refine J_slot (t := 73) (v := .tuple #[.int .i64 ((T2 : Nat) : Int), .int .i64 ((nD J2 : Nat) : Int), .int .i64 0, .int .i64 ((nG J2 : Nat) : Int)]) rfl (by rw [hcn.1, hcn.2, show (KS.rt (AC K T2 J2)) = [] from hT.rt, ofQ_nil]; rfl) <| mv rfl rfl <| L_pur rfl (p_extract rfl rfl) <| L_pur rfl (p_extract rfl rfl) <| L_pur rfl (p_extract rfl rfl) <| L_pur rfl (p_extract rfl rfl) <| ag rfl rfl <| ag rfl rfl ?_
    refine ag rfl rfl <| ag rfl rfl <| nx <| mv rfl rfl <| mv rfl rfl <| L_pur rfl (p_neq rfl rfl) <| J_bool (t := 80) (c := false) rfl (by simp) <| mv rfl rfl ?_
    refine J_bool (t := 81) (c := false) rfl (rfl) <| L_op <| G_on rfl rfl rfl <| J_pur (p_move rfl) rfl rfl rfl <| L_op <| G_on rfl rfl rfl <| J_pur (p_move rfl) rfl rfl rfl <| L_op <| G_on rfl rfl rfl ?_
    refine J_pur (p_neq rfl rfl) rfl rfl rfl <| J_bool (t := 84) (c := false) rfl (by simp) <| L_pur rfl (p_pick_f rfl rfl) <| mv rfl rfl <| J_bool (t := 86) (c := false) rfl (rfl) <| L_op <| G_on rfl rfl rfl <| J_pur (p_move rfl) rfl rfl rfl ?_
    refine L_op <| G_on rfl rfl rfl <| J_pur (p_neq rfl rfl) rfl rfl rfl <| L_pur rfl (p_pick_f rfl rfl) <| mv rfl rfl <| J_bool (t := 90) (c := false) rfl (rfl) <| L_op <| G_on rfl rfl rfl ?_
    refine J_pur (p_move rfl) rfl rfl rfl <| L_op <| G_on rfl rfl rfl <| J_pur (p_move rfl) rfl rfl rfl <| L_op <| G_on rfl rfl rfl <| J_pur (p_neq rfl rfl) rfl rfl rfl <| J_bool (t := 93) (c := false) rfl (by simp) ?_
    refine L_pur rfl (p_pick_f rfl rfl) <| mv rfl rfl <| J_bool (t := 95) (c := false) rfl (rfl) <| L_op <| G_on rfl rfl rfl <| J_pur (p_move rfl) rfl rfl rfl <| L_op <| G_on rfl rfl rfl ?_
    refine x_call Tryz.func13 nm13 bd13 (.cons rfl .nil) rfl (coRingsOk (s := AC K T2 J2) PC (by show J2.length ≤ 200000; omega) (by show Ids K.rt; rw [hT.rt]; exact Ids.nil) (by show K.rt.length ≤ 100000; rw [hT.rt]; decide) (by show K.rg.length ≤ 1000; rw [hT.rg]; show 1 ≤ 1000; omega) (fun x hx => by
      have hx2 : x ∈ K.rg := hx
      rw [hT.rg] at hx2
      obtain rfl := List.mem_singleton.1 hx2
      exact rgNew_zero)) fun _ => ?_
    refine J_slot (t := 97) (v := .bool (decide ((T2 : Int) = (nD J2 : Int) + (nG J2 : Int)) && decide ((nD J2 : Int) = 0))) rfl (by rw [rings_c hT hO2]) <| L_op <| G_on rfl rfl rfl <| J_pur (p_move rfl) rfl rfl rfl <| L_op <| G_on rfl rfl rfl <| J_pur (p_move rfl) rfl rfl rfl <| L_op <| G_on rfl rfl rfl ?_
    refine J_pur (p_move rfl) rfl rfl rfl <| L_op <| G_on rfl rfl rfl <| J_pur (p_add64 rfl rfl (by omega)) rfl rfl rfl <| L_op <| G_on rfl rfl rfl <| J_pur (p_eql rfl rfl) rfl rfl rfl <| L_op <| G_on rfl rfl rfl ?_
    refine J_pur (p_move rfl) rfl rfl rfl ?_
    refine J_gsplit (t := 103) rfl (fun h103 => ?_) (fun h103 => ?_)
    ·
     refine L_op <| G_on rfl rfl rfl <| J_pur (p_move rfl) rfl rfl rfl <| L_op <| G_on rfl rfl rfl <| J_pur (p_eql rfl rfl) rfl rfl rfl <| L_op <| G_on rfl rfl rfl ?_
     refine J_pur (p_pick_t rfl rfl) rfl rfl rfl <| L_op <| G_on rfl rfl rfl <| J_pur (p_neb Tryz.underlying4 rfl rfl) rfl rfl rfl <| L_pur rfl (p_pick_f rfl rfl) <| nq <| J_bool (t := 108) (c := false) rfl (by rw [h103]; simp) <| C_false rfl ?_
     refine J_skip <| Q_blk_normal <| qr <| mv rfl rfl <| L_pur rfl (p_add64 rfl rfl (by omega)) <| ag rfl rfl <| nq ?_
     exact J_again3 (i + 1) T2 J2 (by omega) (⟨by omega, hO2⟩) SU KE
    ·
     refine L_op <| G_off rfl rfl rfl rfl rfl rfl <| L_op <| G_off rfl rfl rfl rfl rfl rfl <| L_op <| G_on rfl rfl rfl <| J_pur (p_pick_f rfl rfl) rfl rfl rfl <| L_op <| G_on rfl rfl rfl ?_
     refine J_pur (p_neb Tryz.underlying4 rfl rfl) rfl rfl rfl <| L_pur rfl (p_pick_f rfl rfl) <| nq <| J_bool (t := 108) (c := false) rfl (by rw [h103]; simp) <| C_false rfl <| J_skip <| Q_blk_normal <| qr ?_
     refine mv rfl rfl <| L_pur rfl (p_add64 rfl rfl (by omega)) <| ag rfl rfl <| nq ?_
     exact J_again3 (i + 1) T2 J2 (by omega) (⟨by omega, hO2⟩) SU KE
  ·
   refine J_exit <| Q_then_exit <| Q_then_exit <| Q_blk_this <| qx <| mv rfl rfl <| L_op <| x_call Tryz.func12 nm12 bd12 (.cons rfl (.cons rfl .nil)) rfl (coCount (s := AC K T J) (r := 9) PC (by show J.length ≤ 200000; omega) (by show Ids K.rt; rw [hT.rt]; exact Ids.nil) (by show K.rt.length ≤ 100000; rw [hT.rt]; decide)) fun _ => ?_
   have hcn9 := cnt_9 (K := K) hO
   refine J_slot (t := 111) (v := .tuple #[.int .i64 0, .int .i64 0, .int .i64 0, .int .i64 0]) rfl (by rw [hcn9.1, hcn9.2, show (KS.rt (AC K T J)) = [] from hT.rt, ofQ_nil]; rfl) <| mv rfl rfl <| L_pur rfl (p_extract rfl rfl) <| L_pur rfl (p_extract rfl rfl) <| L_pur rfl (p_extract rfl rfl) <| L_pur rfl (p_extract rfl rfl) <| ag rfl rfl <| ag rfl rfl ?_
   refine ag rfl rfl <| ag rfl rfl <| nx <| mv rfl rfl <| mv rfl rfl <| J_bool (t := 117) (c := true) rfl (rfl) <| L_op <| G_on rfl rfl rfl ?_
   refine J_pur (p_move rfl) rfl rfl rfl <| L_op <| G_on rfl rfl rfl <| J_pur (p_eql rfl rfl) rfl rfl rfl <| L_pur rfl (p_pick_t rfl rfl) <| mv rfl rfl <| J_bool (t := 121) (c := true) rfl (rfl) <| L_op <| G_on rfl rfl rfl ?_
   refine J_pur (p_move rfl) rfl rfl rfl <| L_op <| G_on rfl rfl rfl <| J_pur (p_eql rfl rfl) rfl rfl rfl <| L_pur rfl (p_pick_t rfl rfl) <| mv rfl rfl <| J_bool (t := 125) (c := true) rfl (rfl) <| L_op <| G_on rfl rfl rfl ?_
   refine J_pur (p_move rfl) rfl rfl rfl <| L_op <| G_on rfl rfl rfl <| J_pur (p_eql rfl rfl) rfl rfl rfl <| L_pur rfl (p_pick_t rfl rfl) <| mv rfl rfl <| J_bool (t := 129) (c := true) rfl (rfl) <| L_op <| G_on rfl rfl rfl ?_
   refine J_pur (p_move rfl) rfl rfl rfl <| L_op <| G_on rfl rfl rfl <| J_pur (p_eql rfl rfl) rfl rfl rfl <| L_pur rfl (p_pick_t rfl rfl) <| ag rfl rfl <| nq <| J_ret ?_
   exact J_return (()) Tryz.results3 (.tmp rfl .nil) rfl SU

end Go.Pse
