/-
  The law on stops, walked.
-/
import Derived.Test.YtkdifbmjhkfgoaaC8
namespace Go.Pse
open Go.RowKit Go.Proofs

set_option maxRecDepth 100000 in
set_option maxHeartbeats 4000000 in
theorem coreStops {E W : World} {v : Value} {ns : List Int} (hr : Reads W 1 v (ns.map fun z => [Value.int .i64 z])) (z : Int) :
  Con Try.prog 3 #[.int .i64 z, v] E [old W] (fun _ : Unit => .bool true) (fun _ => [old W]) := by
 refine Con.body (vs := [.int .i64 z, v]) (n := 144) Try.func3 rfl rfl [(0, .int .i64 z), (1, v)] (env_ok 2 rfl) <| J_readsB (fun w H => hr.old HS H) fun hw a cap hv h1 h2' h3 => ?_
 subst hv
 have hm : cap ≤ 9223372036854775807 := h2'
 have hml : (ns.map fun z => [Value.int .i64 z]).length = ns.length := List.length_map _
 refine sr <| ag rfl rfl <| nx <| L_op <| x_call Try.func4 nm4 bd4 .nil rfl (first23) fun _ => ag rfl rfl <| nxx <| mv rfl rfl ?_
 refine L_pur rfl (p_not rfl) <| nq <| J_bool (t := 17) (c := false) rfl (rfl) <| C_false rfl <| J_skip <| Q_then <| J_seq <| sr ?_
 refine mv rfl rfl <| L_pur rfl (p_len rfl Try.underlying22) <| L_pur rfl (p_gtr rfl rfl) <| nq ?_
 refine C_dec rfl (fun h20 => ?_) (fun h20 => ?_)
 ·
  refine sr <| mv rfl rfl <| ag rfl rfl <| nq <| J_ret <| Q_then_ret ?_
  exact J_return (()) Try.results3 (.tmp rfl .nil) rfl SU
 ·
  have hlen : ns.length ≤ 20 := by omega
  refine J_skip <| qx <| L_pur rfl (bld27 (.cons rfl (.cons rfl .nil)) (by repeat constructor)) <| J_slot (t := 22) (v := .agg (encG 3 1 0 0 false).toArray) rfl rfl <| L_op <| x_call Try.func5 nm5 bd5 (.cons rfl .nil) rfl (coNew (ct := 3) (cu := 1) (cs := 0) (cc := 0) (sh := false)) fun g => ?_
  obtain ⟨K, hK⟩ : ∃ K, K = kNew 3 1 0 0 false g := ⟨_, rfl⟩
  have hq : K.q = q0 := by rw [hK]; rfl
  have h2 : (look K.th 2).isSome = true := by rw [hK]; rfl
  have h99 : (look K.th 99).isSome = false := by rw [hK]; rfl
  have hpr : K.pr = [] := by rw [hK]; rfl
  have htk : K.tk = [(4, 0), (12, 0), (20, 0)] := by rw [hK]; rfl
  have hnow : K.now = 0 := by rw [hK]; rfl
  refine J_pick (A := coA g.p _) PC ?_
  refine J_asTo (B := coA g.p (K)) (by rw [hK]) <| ag rfl rfl <| nxx <| mv rfl rfl <| L_pur rfl (p_eqNilPtr Try.underlying24 rfl) <| mv rfl rfl <| J_bool (t := 26) (c := false) rfl (rfl) <| L_op <| G_on rfl rfl rfl ?_
  refine J_pur (p_move rfl) rfl rfl rfl <| L_op <| G_on rfl rfl rfl <| x_call Try.func6 nm6 bd6 (.cons rfl .nil) rfl (coQueue) fun _ => L_op <| G_on rfl rfl rfl <| J_pur (p_eqNilPtr Try.underlying28 rfl) rfl rfl rfl <| L_pur rfl (p_pick_f rfl rfl) ?_
  refine nq <| J_bool (t := 30) (c := false) rfl (rfl) <| C_false rfl <| J_skip <| qx <| mv rfl rfl <| L_op <| x_call Try.func7 nm7 bd7 (.cons rfl (.cons rfl .nil)) rfl (number (by omega) (by omega)) fun _ => ?_
  obtain ⟨P, hP⟩ : ∃ P, P = num z (8 : Nat) := ⟨_, rfl⟩
  have hP8 : P < 8 := by rw [hP]; exact num_lt' (by omega)
  refine J_slot (t := 32) (v := .int .i64 (P : Int)) rfl (by rw [hP]; rfl) ?_
  obtain ⟨g0, g1, g2, g3, g4, g5⟩ := q_steps P hP8
  obtain ⟨a1, a2⟩ := st_a hP8 hq h2 hpr
  obtain ⟨b1, b2⟩ := st_b (P := P) h2
  obtain ⟨c1, c2⟩ := st_c (s := K) (P := P)
  obtain ⟨d1, d2⟩ := st_d hP8 h2
  obtain ⟨e1, e2⟩ := st_e (s := K) (P := P)
  refine ag rfl rfl <| nxx <| mv rfl rfl <| L_op <| x_call Try.func6 nm6 bd6 (.cons rfl .nil) rfl (coQueue) fun _ => J_pick (A := coA g.p _) PC ?_
  refine J_coO fun bn be br bg bt bs bp bl bk _ => mv rfl rfl <| L_op <| x_call Try.func8 nm8 bd8 (.cons rfl (.cons rfl (.cons rfl .nil))) rfl (qSetC (q := K.q) PC (by rw [hq]; decide)) fun _ => ?_
  refine J_coS (p := g.p) (s := { K with q := qSet K.q 2 P }) bn be br bg bt bs bp bl bk PX trivial ?_
  refine J_bool (t := 36) (c := true) rfl (by rw [hq, g1]) <| L_pur rfl (p_not rfl) <| mv rfl rfl <| J_bool (t := 38) (c := false) rfl (rfl) <| L_op <| G_on rfl rfl rfl <| J_pur (p_move rfl) rfl rfl rfl <| L_op <| G_on rfl rfl rfl ?_
  refine x_call Try.func9 nm9 bd9 (.cons rfl (.cons rfl .nil)) rfl (coStop (s := { K with q := qSet K.q 2 P }) PC (by dsimp only; rw [hq, g5]; decide)) fun _ => ?_
  refine J_bool (t := 40) (c := true) rfl (by rw [a1]) <| J_pick (A := coA g.p _) PC ?_
  refine J_asTo (B := coA g.p (kB K P)) (by rw [a2]) <| L_op <| G_on rfl rfl rfl <| J_pur (p_not rfl) rfl rfl rfl <| L_pur rfl (p_pick_f rfl rfl) <| mv rfl rfl <| J_bool (t := 43) (c := false) rfl (rfl) <| L_op <| G_on rfl rfl rfl ?_
  refine J_pur (p_move rfl) rfl rfl rfl <| L_op <| G_on rfl rfl rfl <| x_call Try.func9 nm9 bd9 (.cons rfl (.cons rfl .nil)) rfl (coStop (s := kB K P) PC (by show (2 : Nat) ≤ 90000; omega)) fun _ => ?_
  refine J_bool (t := 45) (c := false) rfl (by rw [b1]) <| J_pick (A := coA g.p _) PC ?_
  refine J_asTo (B := coA g.p (kB K P)) (by rw [b2]) <| L_pur rfl (p_pick_f rfl rfl) <| mv rfl rfl <| J_bool (t := 47) (c := false) rfl (rfl) <| L_op <| G_on rfl rfl rfl <| J_pur (p_move rfl) rfl rfl rfl <| L_op <| G_on rfl rfl rfl ?_
  refine x_call Try.func10 nm10 bd10 (.cons rfl (.cons rfl .nil)) rfl (coGo (s := kB K P) PC (by show (2 : Nat) ≤ 90000; omega)) fun _ => ?_
  refine J_bool (t := 49) (c := false) rfl (by rw [c1]) <| J_pick (A := coA g.p _) PC ?_
  refine J_asTo (B := coA g.p (kB K P)) (by rw [c2]) <| L_pur rfl (p_pick_f rfl rfl) <| nq <| J_bool (t := 50) (c := false) rfl (rfl) <| C_false rfl <| J_skip <| Q_then <| J_seq ?_
  refine sr <| mv rfl rfl <| L_op <| x_call Try.func6 nm6 bd6 (.cons rfl .nil) rfl (coQueue) fun _ => J_pick (A := coA g.p _) PC ?_
  refine J_coO fun bn be br bg bt bs bp bl bk _ => L_op <| x_call Try.func11 nm11 bd11 (.cons rfl (.cons rfl .nil)) rfl (qPrioC (q := (kB K P).q) PC (by show (2 : Nat) ≤ 100000; omega)) fun _ => ?_
  refine J_coS (p := g.p) (s := kB K P) bn be br bg bt bs bp bl bk PX trivial ?_
  refine mv rfl rfl <| L_pur rfl (p_extract rfl rfl) <| L_pur rfl (p_extract rfl rfl) <| ag rfl rfl <| ag rfl rfl <| nx <| mv rfl rfl <| mv rfl rfl ?_
  refine J_bool (t := 58) (c := false) rfl (rfl) <| L_op <| G_on rfl rfl rfl <| J_pur (p_move rfl) rfl rfl rfl <| L_op <| G_on rfl rfl rfl <| x_call Try.func10 nm10 bd10 (.cons rfl (.cons rfl .nil)) rfl (coGo (s := kB K P) PC (by show (2 : Nat) ≤ 90000; omega)) fun _ => ?_
  refine J_bool (t := 60) (c := true) rfl (by rw [d1]) <| J_pick (A := coA g.p _) PC ?_
  refine J_asTo (B := coA g.p ({ kB K P with q := [(10, 4), (18, 4), (2, (P : Int))] })) (by rw [d2]) <| L_op <| G_on rfl rfl rfl <| J_pur (p_not rfl) rfl rfl rfl <| L_pur rfl (p_pick_f rfl rfl) <| mv rfl rfl <| J_bool (t := 63) (c := false) rfl (rfl) <| L_op <| G_on rfl rfl rfl ?_
  refine J_pur (p_move rfl) rfl rfl rfl <| L_op <| G_on rfl rfl rfl <| x_call Try.func10 nm10 bd10 (.cons rfl (.cons rfl .nil)) rfl (coGo (s := { kB K P with q := [(10, 4), (18, 4), (2, (P : Int))] }) PC (by simp)) fun _ => ?_
  refine J_bool (t := 65) (c := false) rfl (by rw [e1]) <| J_pick (A := coA g.p _) PC ?_
  refine J_asTo (B := coA g.p ({ kB K P with q := [(10, 4), (18, 4), (2, (P : Int))] })) (by rw [e2]) <| L_pur rfl (p_pick_f rfl rfl) <| nq <| J_bool (t := 66) (c := false) rfl (rfl) <| C_false rfl <| J_skip <| Q_then <| J_seq ?_
  refine sr <| mv rfl rfl <| L_op <| x_call Try.func6 nm6 bd6 (.cons rfl .nil) rfl (coQueue) fun _ => J_pick (A := coA g.p _) PC ?_
  refine J_coO fun bn be br bg bt bs bp bl bk _ => L_op <| x_call Try.func11 nm11 bd11 (.cons rfl (.cons rfl .nil)) rfl (qPrioC (q := [(10, 4), (18, 4), (2, (P : Int))]) PC (by simp)) fun _ => ?_
  refine J_coS (p := g.p) (s := { kB K P with q := [(10, 4), (18, 4), (2, (P : Int))] }) bn be br bg bt bs bp bl bk PX trivial ?_
  refine J_pick (A := coA g.p _) PC ?_
  refine J_asTo (B := coA g.p (kAt K P 0 1)) (by unfold kAt kB; rw [hnow, htk]; rfl) <| mv rfl rfl <| L_pur rfl (p_extract rfl rfl) <| L_pur rfl (p_extract rfl rfl) <| ag rfl rfl <| ag rfl rfl <| nx <| mv rfl rfl ?_
  refine L_pur rfl (p_not rfl) <| mv rfl rfl <| J_bool (t := 75) (c := false) rfl (rfl) <| L_op <| G_on rfl rfl rfl <| J_pur (p_move rfl) rfl rfl rfl <| L_op <| G_on rfl rfl rfl ?_
  refine J_pur (p_move rfl) rfl rfl rfl <| L_op <| G_on rfl rfl rfl <| J_pur (p_neq rfl rfl) rfl rfl rfl <| L_pur rfl (p_pick_f rfl rfl) <| nq <| J_bool (t := 79) (c := false) rfl (by simp [qGet, isT]) <| C_false rfl ?_
  refine J_skip <| qx <| ag rfl rfl <| nx <| ag rfl rfl <| nxx <| ag rfl rfl <| nq ?_
  refine J_block <| J_loop3 (fun i now tx => i ≤ ns.length ∧ (1 : Int) ≤ tx ∧ tx ≤ 1 + 7 * (i : Int)) (fun i now tx => [coA g.p (kAt K P now tx), old W]) (fun i now tx => [(11, .int .u64 now), (12, .int .i64 tx), (13, .int .i64 (i : Int)), (6, .pointer (some ⟨g.p, 0, none⟩)), (5, .bool true), (1, .slice a (ns.map fun z => [Value.int .i64 z]).length cap)]) (fun i now tx => ns.length - i) 0 (0 : Int) (1 : Int) (by omega) SU KE ?_
  intro i now tx hi
  refine J_seq <| sr <| mv rfl rfl <| mv rfl rfl <| L_pur rfl (p_len rfl Try.underlying22) <| L_pur rfl (p_lss rfl rfl) <| nq ?_
  refine C_dec rfl (fun h83 => ?_) (fun h83 => ?_)
  ·
   have hlt : i < ns.length := by omega
   obtain ⟨bx, ox, rfl⟩ := h3 (by intro h; rw [h] at hml; simp at hml; omega)
   obtain ⟨c, hcc⟩ : ∃ c, ns[i]? = some c := ⟨_, List.getElem?_eq_getElem hlt⟩
   refine J_skip <| Q_then <| J_seq <| J_block <| sr <| mv rfl rfl <| mv rfl rfl <| mv rfl rfl ?_
   refine L_pur rfl (p_indexAddr rfl rfl Try.underlying22 ty3 (by omega) (by omega)) ?_
   refine L_val rfl (by first | exact v_loadE1 rfl ty3 HS (by first | (simp only [Int.toNat_natCast, List.getElem?_map, hcc]; rfl) | (simp only [Int.toNat_natCast, List.getElem?_map, hcd]; rfl) | simp | rfl) | exact v_loadR1 rfl ty3 (fun w H => hr.old HS H) (by first | (simp only [Int.toNat_natCast, List.getElem?_map, hcc]; rfl) | (simp only [Int.toNat_natCast, List.getElem?_map, hcd]; rfl) | simp | rfl)) ?_
   refine L_pur rfl (p_max rfl rfl) <| L_pur rfl (p_min rfl rfl) <| J_slot (t := 92) (v := .int .i64 (cutI c 0 1048576)) rfl rfl <| L_pur rfl (p_conv rfl Try.underlying3 Try.underlying35) <| L_pur rfl (p_add rfl rfl) <| J_slot (t := 94) (v := .int .u64 (kPass (kAt K P now tx) c).now) rfl rfl <| ag rfl rfl <| nx ?_
   refine mv rfl rfl <| mv rfl rfl <| L_pur rfl (p_indexAddr rfl rfl Try.underlying22 ty3 (by omega) (by omega)) ?_
   refine L_val rfl (by first | exact v_loadE1 rfl ty3 HS (by first | (simp only [Int.toNat_natCast, List.getElem?_map, hcc]; rfl) | (simp only [Int.toNat_natCast, List.getElem?_map, hcd]; rfl) | simp | rfl) | exact v_loadR1 rfl ty3 (fun w H => hr.old HS H) (by first | (simp only [Int.toNat_natCast, List.getElem?_map, hcc]; rfl) | (simp only [Int.toNat_natCast, List.getElem?_map, hcd]; rfl) | simp | rfl)) ?_
   refine L_op <| x_call Try.func7 nm7 bd7 (.cons rfl (.cons rfl .nil)) rfl (number (by omega) (by omega)) fun _ => ?_
   obtain ⟨k, hk⟩ : ∃ k, k = num c (7 : Nat) := ⟨_, rfl⟩
   have hk7 : k < 7 := by rw [hk]; exact num_lt' (by omega)
   refine J_slot (t := 99) (v := .int .i64 (k : Int)) rfl (by rw [hk]; rfl) <| ag rfl rfl <| nxx <| mv rfl rfl <| mv rfl rfl <| mv rfl rfl <| L_pur rfl (p_indexAddr rfl rfl Try.underlying22 ty3 (by omega) (by omega)) ?_
   refine L_val rfl (by first | exact v_loadE1 rfl ty3 HS (by first | (simp only [Int.toNat_natCast, List.getElem?_map, hcc]; rfl) | (simp only [Int.toNat_natCast, List.getElem?_map, hcd]; rfl) | simp | rfl) | exact v_loadR1 rfl ty3 (fun w H => hr.old HS H) (by first | (simp only [Int.toNat_natCast, List.getElem?_map, hcc]; rfl) | (simp only [Int.toNat_natCast, List.getElem?_map, hcd]; rfl) | simp | rfl)) ?_
   refine L_op <| x_call Try.func12 nm12 bd12 (.cons rfl (.cons rfl .nil)) rfl (coPass (s := kAt K P now tx) (n := c) PC) fun _ => ?_
   refine J_pick (A := coA g.p _) PC ?_
   refine J_asTo (B := coA g.p (kAt K P (kPass (kAt K P now tx) c).now tx)) (by rfl) <| mv rfl rfl <| L_pur rfl (p_neq rfl rfl) <| mv rfl rfl <| J_bool (t := 108) (c := false) rfl (by simp) <| L_op <| G_on rfl rfl rfl <| J_pur (p_move rfl) rfl rfl rfl ?_
   refine L_op <| G_on rfl rfl rfl <| x_call Try.func13 nm13 bd13 (.cons rfl .nil) rfl (coNow (s := kAt K P (kPass (kAt K P now tx) c).now tx) PC) fun _ => ?_
   refine L_op <| G_on rfl rfl rfl <| J_pur (p_move rfl) rfl rfl rfl <| L_op <| G_on rfl rfl rfl <| J_pur (p_neq rfl rfl) rfl rfl rfl <| L_pur rfl (p_pick_f rfl rfl) <| mv rfl rfl ?_
   refine J_bool (t := 114) (c := false) rfl (by simp [kAt]) <| L_op <| G_on rfl rfl rfl <| J_pur (p_move rfl) rfl rfl rfl <| L_op <| G_on rfl rfl rfl <| J_pur (p_move rfl) rfl rfl rfl <| L_op <| G_on rfl rfl rfl ?_
   refine x_call Try.func14 nm14 bd14 (.cons rfl (.cons rfl (.cons rfl .nil))) rfl (coTake (s := kAt K P (kPass (kAt K P now tx) c).now tx) (r := 4) (n := (k : Int)) PC (by show -1000000000000 ≤ tx - 1 ∧ tx - 1 ≤ 1000000000000; omega) (by omega)) fun _ => ?_
   refine J_slot (t := 117) (v := .int .i64 tx) rfl (by unfold kTakeV; rw [show look (kAt K P (kPass (kAt K P now tx) c).now tx).tk 4 = some (tx - 1) from rfl]; show Value.int .i64 (tx - 1 + 1) = _; rw [show tx - 1 + 1 = tx by omega]) <| J_pick (A := coA g.p _) PC ?_
   refine J_asTo (B := coA g.p (kAt K P (kPass (kAt K P now tx) c).now (tx + (k : Int)))) (by show coA g.p { kAt K P _ _ with tk := [(4, tx - 1 + (k : Int)), (12, 0), (20, 0)] } = _; unfold kAt; rw [show tx + (k : Int) - 1 = tx - 1 + k by omega]) <| L_op <| G_on rfl rfl rfl <| J_pur (p_move rfl) rfl rfl rfl <| L_op <| G_on rfl rfl rfl <| J_pur (p_neq rfl rfl) rfl rfl rfl <| L_pur rfl (p_pick_f rfl rfl) ?_
   refine mv rfl rfl <| J_bool (t := 121) (c := false) rfl (by simp) <| L_op <| G_on rfl rfl rfl <| J_pur (p_move rfl) rfl rfl rfl <| L_op <| G_on rfl rfl rfl <| x_call Try.func15 nm15 bd15 (.cons rfl (.cons rfl .nil)) rfl (coTaken (s := kAt K P (kPass (kAt K P now tx) c).now (tx + (k : Int))) PC) fun _ => ?_
   refine J_slot (t := 123) (v := .int .i64 (tx + (k : Int) - 1)) rfl rfl <| L_op <| G_on rfl rfl rfl <| J_pur (p_move rfl) rfl rfl rfl <| L_op <| G_on rfl rfl rfl <| J_pur (p_sub64 rfl rfl (by omega)) rfl rfl rfl <| L_op <| G_on rfl rfl rfl ?_
   refine J_pur (p_move rfl) rfl rfl rfl <| L_op <| G_on rfl rfl rfl <| J_pur (p_add64 rfl rfl (by omega)) rfl rfl rfl <| L_op <| G_on rfl rfl rfl <| J_pur (p_neq rfl rfl) rfl rfl rfl <| L_pur rfl (p_pick_f rfl rfl) ?_
   refine nq <| J_bool (t := 129) (c := false) rfl (by simp; omega) <| C_false rfl <| J_skip <| qr <| mv rfl rfl <| mv rfl rfl <| L_pur rfl (p_add64 rfl rfl (by omega)) ?_
   refine ag rfl rfl <| L_nil <| Q_blk_normal <| qr <| mv rfl rfl <| L_pur rfl (p_add64 rfl rfl (by omega)) <| ag rfl rfl <| nq ?_
   exact J_again3 (i + 1) (kPass (kAt K P now tx) c).now (tx + (k : Int)) (by omega) (by omega) SU KE
  ·
   have hin : i = ns.length := by omega
   refine J_exit <| Q_then_exit <| Q_then_exit <| Q_blk_this <| qx <| mv rfl rfl <| mv rfl rfl <| J_bool (t := 134) (c := true) rfl (rfl) ?_
   refine L_op <| G_on rfl rfl rfl <| J_pur (p_move rfl) rfl rfl rfl <| L_op <| G_on rfl rfl rfl <| x_call Try.func15 nm15 bd15 (.cons rfl (.cons rfl .nil)) rfl (coTaken (s := kAt K P now tx) PC) fun _ => ?_
   refine J_slot (t := 136) (v := .int .i64 0) rfl rfl <| L_op <| G_on rfl rfl rfl <| J_pur (p_eql rfl rfl) rfl rfl rfl <| L_pur rfl (p_pick_t rfl rfl) <| mv rfl rfl <| J_bool (t := 139) (c := true) rfl (rfl) <| L_op <| G_on rfl rfl rfl ?_
   refine J_pur (p_move rfl) rfl rfl rfl <| L_op <| G_on rfl rfl rfl <| x_call Try.func9 nm9 bd9 (.cons rfl (.cons rfl .nil)) rfl (coStop (s := kAt K P now tx) PC (by simp [kAt])) fun _ => ?_
   refine J_bool (t := 141) (c := false) rfl (by unfold kStopOk; rw [show (kAt K P now tx).th = K.th from rfl, h99]; rfl) <| L_op <| G_on rfl rfl rfl <| J_pur (p_not rfl) rfl rfl rfl <| L_pur rfl (p_pick_t rfl rfl) <| ag rfl rfl <| nq <| J_ret ?_
   exact J_return (()) Try.results3 (.tmp rfl .nil) rfl SU

end Go.Pse
