/-
  The first example of chapter 24; how all begins.
-/
import Derived.Test.YthjbhkaokjdhmaaGreatC27
import Derived.Test.YthjbhkaokjdhmaaGreatArg
namespace Go.Pse
open Go.RowKit Go.Proofs

set_option maxHeartbeats 4000000 in
theorem coTail {E : World} {l m : List As} {p : Nat} {s : KS} (hp : Pick (coA p s) l m) {u : Int} {b : Nat} {r : Rg} (hl : look s.rg u = some (b, r)) :
  Con Tryz.prog 17 #[.pointer (some ⟨b, 0, none⟩)] E l (fun _ : Unit => .int .u32 r.tail) (fun _ => coA p s :: m) := fun w H => by
 refine (?_ : Jk E l 0 [] fun _ w => Calls Tryz.prog 17 #[.pointer (some ⟨b, 0, none⟩)] w fun e w' => ∃ x, e = .returned ((fun _ : Unit => .int .u32 r.tail) x) ∧ Sep E w' ((fun _ : Unit => coA p s :: m) x)) w _ H fr0
 obtain ⟨j, hj⟩ := look_ix hl
 have hjl := (List.getElem?_eq_some_iff.1 hj).1
 refine J_pick hp <| J_coO fun bn be br bg bt bs bp bl bk _ => J_keyd (ps := ptrs s.rg) HS fun hK => ?_
 refine J_pick (A := each (rgF s.mb) s.rg) PC ?_
 refine J_eachOut hj ?_
 skip
 refine J_asTo (B := rgA b s.mb r) (by rfl) <| J_con (ringTail (r := r) PC) fun x => ?_
 refine J_pick (A := rgA b s.mb r) PC ?_
 refine J_asTo (B := (rgF s.mb) (u, b, r)) (by rfl) <| J_pick (A := each (rgF s.mb) _) PC ?_
 refine J_pick (A := (rgF s.mb) (u, b, _)) PC ?_
 refine J_eachIn (u, b, r) hjl ?_
 skip
 refine J_asTo (B := each (rgF s.mb) s.rg) (by rw [lset_same hj]) <| J_coS (p := p) (s := s) bn be br bg bt bs bp bl bk PX trivial ?_
 exact J_end SU
theorem zrow_ok : MemOk (List.replicate 64 zrow) := ⟨List.length_replicate, fun r hr => by
  rw [List.eq_of_mem_replicate hr]
  exact ⟨List.length_replicate, fun x hx => by rw [List.eq_of_mem_replicate hx]; omega⟩⟩
theorem getN_zero : getN zrow 0 4 = 0 := by
  have h : ∀ k, byteAt zrow k = 0 := fun k => by
    unfold byteAt zrow
    rw [List.getElem?_replicate]
    split <;> rfl
  simp [getN, h]
theorem rowAt_zero {u : Int} (hu : 1 ≤ u ∧ u ≤ 64) : rowAt (List.replicate 64 zrow) u = zrow := by
  unfold rowAt
  rw [List.getElem?_replicate, if_pos (by omega)]; rfl
/-- How all begins with one thread: what Decide asks. -/
structure One (K : KS) (cs cc : Int) (g : NewG) : Prop where
  rt : K.rt = []
  jn : K.jn = []
  nt : K.nt = []
  rg : K.rg = [(4, (g.bs 0).1, rgNew 5 6 cs cc)]
  mem : K.mem = List.replicate 64 zrow
  fit : Fits K 20 40
theorem one_is (g : NewG) : One (kNew 1 1 0 0 false g) 0 0 g ∧ One (kNew 1 1 3 4 false g) 3 4 g := by
  have hrg : ∀ cs cc : Int, 0 ≤ cc ∧ cc ≤ 4 → RgOk (rgNew 5 6 cs cc) := fun cs cc h => ⟨⟨by show (1 : Int) ≤ 5; omega, by show (5 : Int) ≤ 64; omega⟩, ⟨by show (1 : Int) ≤ 6; omega, by show (6 : Int) ≤ 64; omega⟩, ⟨by show 0 ≤ cutI cc 0 4; unfold cutI; split <;> split <;> omega, by show cutI cc 0 4 ≤ 4; unfold cutI; split <;> split <;> omega⟩, ⟨by show (0 : Int) ≤ 0; omega, by show (0 : Int) < _; omega⟩⟩
  constructor
  · exact ⟨rfl, rfl, rfl, rfl, rfl, ⟨by omega, by omega, Ids.nil, by show 0 ≤ 40; omega, by show 0 ≤ 20; omega, fun x hx => (by cases hx), fun x hx => (by cases hx), fun x hx => by
      obtain rfl := List.mem_singleton.1 (show x ∈ [(7, (g.bs 0).2, (0, 0), false)] from hx)
      exact ⟨by show (1 : Int) ≤ 7; omega, by show (7 : Int) ≤ 64; omega⟩, fun x hx => by
      obtain rfl := List.mem_singleton.1 (show x ∈ [(4, (g.bs 0).1, rgNew 5 6 0 0)] from hx)
      exact ⟨hrg 0 0 (by omega), by show 0 ≤ 40; omega⟩, zrow_ok⟩⟩
  · exact ⟨rfl, rfl, rfl, rfl, rfl, ⟨by omega, by omega, Ids.nil, by show 0 ≤ 40; omega, by show 0 ≤ 20; omega, fun x hx => (by cases hx), fun x hx => (by cases hx), fun x hx => by
      obtain rfl := List.mem_singleton.1 (show x ∈ [(7, (g.bs 0).2, (0, 0), false)] from hx)
      exact ⟨by show (1 : Int) ≤ 7; omega, by show (7 : Int) ≤ 64; omega⟩, fun x hx => by
      obtain rfl := List.mem_singleton.1 (show x ∈ [(4, (g.bs 0).1, rgNew 5 6 3 4)] from hx)
      exact ⟨hrg 3 4 (by omega), by show 0 ≤ 40; omega⟩, zrow_ok⟩⟩
theorem One.fits {K : KS} {cs cc : Int} {g : NewG} (h : One K cs cc g) {ps : List (ID × Rq)} (hI : Ids ps) (hl : ps.length ≤ 12) : Fits { K with rt := ps } 20 60 :=
  ⟨h.fit.n, by omega, hI, by show K.jn.length + ps.length ≤ 60; rw [h.jn]; simp; omega, h.fit.tm, h.fit.ep, h.fit.nt, h.fit.rp, fun x hx => by
    have := h.fit.rg x hx
    exact ⟨this.1, by have := this.2; rw [h.rt] at this; simp at this; show _ + ps.length ≤ 60; omega⟩, h.fit.mem⟩
theorem One.rdy {K : KS} {g : NewG} (h : One K 3 4 g) : Rdy K 4 6 0 := ⟨(g.bs 0).1, rgNew 5 6 3 4, by rw [h.rg]; rfl, rfl, rfl, rfl, rfl, by rw [h.mem, rowAt_zero (by omega), getN_zero]⟩
def q7 : Rq := ⟨(4, 1), ⟨1, 0, 7, 0, 0, 0, 0, 0⟩, 0, false, false⟩
theorem ofQ_nil (g : Int) : ofQ [] g = [] := List.length_eq_zero_iff.1 (Nat.le_zero.1 (ofQ_len [] g))
theorem q7_add : addOk [] q7 = true ∧ addQ [] q7 = [((4, 1), q7)] := by
  have h : addOk [] q7 = true := by
    unfold addOk; rw [ofQ_nil]; rfl
  exact ⟨h, by unfold addQ; rw [if_pos h]; rfl⟩
theorem first_jn {K : KS} {cs cc : Int} {g : NewG} (h : One K cs cc g) {r v : Int} : (kDec 1 { K with rt := [((4, 1), q7)] } (4, 1) r v).jn.length = 1 := by
  rw [kDec_some (q := q7) rfl, kTell_quiet (by show allO _ K.nt = []; rw [h.nt]; rfl)]
  unfold kNext
  rw [afterQ_no (fun e he => by rw [kSaid_rt] at he; cases he)]
  show (kSaid _ _).jn.length = 1
  rw [kSaid_jn]
  show (K.jn ++ [_]).length = 1
  rw [h.jn]; rfl
set_option maxRecDepth 100000 in
set_option maxHeartbeats 4000000 in
theorem first24 {E : World} {l : List As} :
  Con Tryz.prog 7 #[] E l (fun _ : Unit => .bool true) (fun _ => l) := by
 refine Con.body (vs := []) (n := 37) Tryz.func7 rfl rfl [] (env_ok 0 rfl) <| sr <| ag rfl rfl <| nx <| L_pur rfl (bld27 (.cons rfl (.cons rfl .nil)) (by repeat constructor)) <| J_slot (t := 2) (v := .agg (encG 1 1 0 0 false).toArray) rfl rfl <| L_op <| x_call Tryz.func8 nm8 bd8 (.cons rfl .nil) rfl (coNew (ct := 1) (cu := 1) (cs := 0) (cc := 0) (sh := false)) fun g => ?_
 have hT := (one_is g).1
 obtain ⟨K, hK⟩ : ∃ K, K = kNew 1 1 0 0 false g := ⟨_, rfl⟩
 rw [← hK] at hT
 refine J_pick (A := coA g.p _) PC ?_
 refine J_asTo (B := coA g.p K) (by rw [hK]) <| ag rfl rfl <| nxx <| mv rfl rfl <| L_pur rfl (p_eqNilPtr Tryz.underlying24 rfl) <| mv rfl rfl <| J_bool (t := 6) (c := false) rfl (rfl) <| L_op <| G_on rfl rfl rfl ?_
 refine J_pur (p_move rfl) rfl rfl rfl <| L_op <| G_on rfl rfl rfl <| x_call Tryz.func9 nm9 bd9 (.cons rfl .nil) rfl (coReqs) fun _ => L_op <| G_on rfl rfl rfl <| J_pur (p_eqNilPtr Tryz.underlying28 rfl) rfl rfl rfl <| L_pur rfl (p_pick_f rfl rfl) ?_
 refine mv rfl rfl <| J_bool (t := 11) (c := false) rfl (rfl) <| L_op <| G_on rfl rfl rfl <| J_pur (p_move rfl) rfl rfl rfl <| L_op <| G_on rfl rfl rfl <| x_call Tryz.func11 nm11 bd11 (.cons rfl .nil) rfl (coJournal) fun _ => ?_
 refine L_op <| G_on rfl rfl rfl <| J_pur (p_eqNilPtr Tryz.underlying32 rfl) rfl rfl rfl <| L_pur rfl (p_pick_f rfl rfl) <| mv rfl rfl <| J_bool (t := 16) (c := false) rfl (rfl) <| L_op <| G_on rfl rfl rfl ?_
 refine J_pur (p_move rfl) rfl rfl rfl <| L_op <| G_on rfl rfl rfl <| J_pur (bld36 (.cons rfl (.cons rfl .nil)) (by repeat constructor)) rfl rfl rfl <| J_slot (t := 18) (v := .agg (encI (4, 1)).toArray) rfl rfl <| L_op <| G_on rfl rfl rfl <| x_call Tryz.func14 nm14 bd14 (.cons rfl (.cons rfl (.cons rfl (.cons rfl .nil)))) rfl (coDecide (s := K) (i := (4, 1)) (r := 0) (v := 0) PC hT.fit) fun _ => ?_
 refine J_bool (t := 19) (c := false) rfl (by rw [hT.rt]; rfl) <| J_pick (A := coA g.p _) PC ?_
 refine J_asTo (B := coA g.p K) (by rw [kDec_none (by rw [hT.rt]; rfl)]) <| L_pur rfl (p_pick_f rfl rfl) <| nq <| J_bool (t := 20) (c := false) rfl (rfl) <| C_false rfl <| J_skip <| qx <| mv rfl rfl ?_
 refine L_op <| x_call Tryz.func9 nm9 bd9 (.cons rfl .nil) rfl (coReqs) fun _ => L_pur rfl (bld36 (.cons rfl (.cons rfl .nil)) (by repeat constructor)) <| L_pur rfl (bld39 (.cons rfl (.cons rfl .nil)) (by repeat constructor)) <| L_pur rfl (bld41 (.cons rfl (.cons rfl .nil)) (by repeat constructor)) <| J_slot (t := 25) (v := .agg (encQ q7).toArray) rfl rfl <| L_op <| x_call Tryz.func12 nm12 bd12 (.cons rfl (.cons rfl .nil)) rfl (coRqAdd (s := K) (q := q7) PC (by rw [hT.rt]; exact Ids.nil) (by rw [hT.rt]; decide)) fun _ => ?_
 refine J_pick (A := coA g.p _) PC ?_
 refine J_asTo (B := coA g.p { K with rt := [((4, 1), q7)] }) (by rw [hT.rt, q7_add.2]) <| nx <| mv rfl rfl <| L_pur rfl (bld36 (.cons rfl (.cons rfl .nil)) (by repeat constructor)) <| J_slot (t := 28) (v := .agg (encI (4, 1)).toArray) rfl rfl <| L_op <| x_call Tryz.func14 nm14 bd14 (.cons rfl (.cons rfl (.cons rfl (.cons rfl .nil)))) rfl (coDecide (s := { K with rt := [((4, 1), q7)] }) (i := (4, 1)) (r := 0) (v := 5) PC (hT.fits (ps := [((4, 1), q7)]) (fun e he => by rw [List.mem_singleton.1 he]; rfl) (by decide))) fun _ => ?_
 refine J_bool (t := 29) (c := true) rfl (rfl) ?_
 obtain ⟨S1, hS1⟩ : ∃ S1, S1 = kDec (KS.rt { K with rt := [((4, 1), q7)] }).length { K with rt := [((4, 1), q7)] } (4, 1) 0 5 := ⟨_, rfl⟩
 have hj : S1.jn.length = 1 := by rw [hS1]; exact first_jn hT
 refine J_pick (A := coA g.p _) PC ?_
 refine J_asTo (B := coA g.p S1) (by rw [hS1]) <| mv rfl rfl <| J_bool (t := 30) (c := true) rfl (rfl) <| L_op <| G_on rfl rfl rfl <| J_pur (p_move rfl) rfl rfl rfl <| L_op <| G_on rfl rfl rfl ?_
 refine x_call Tryz.func11 nm11 bd11 (.cons rfl .nil) rfl (coJournal) fun _ => L_op <| G_on rfl rfl rfl <| x_call Tryz.func15 nm15 bd15 (.cons rfl .nil) rfl (coJAll (s := S1) PC (by omega)) <| JR fun a33 c33 hw33 hl33 hm33 hz33 => L_op <| G_on rfl rfl rfl <| J_pur (p_len rfl Tryz.underlying44) rfl rfl rfl ?_
 refine L_op <| G_on rfl rfl rfl <| J_pur (p_eql rfl rfl) rfl rfl rfl <| J_bool (t := 35) (c := true) rfl (by rw [List.length_map, hj]; rfl) <| L_pur rfl (p_pick_t rfl rfl) <| ag rfl rfl <| nq <| J_ret ?_
 exact J_return (()) Tryz.results7 (.tmp rfl .nil) rfl SU

abbrev encBo (b : Bool) : List Value := [.bool b]
theorem takeWhile_at : ∀ {l : List Bool} {c : Nat}, c < (l.takeWhile fun b => b).length → l[c]? = some true
  | [], c, h => by simp at h
  | b :: l, c, h => by
    rw [List.takeWhile_cons] at h
    split at h
    · rename_i hb
      cases c with
      | zero => simp [hb]
      | succ c => rw [List.getElem?_cons_succ]; exact takeWhile_at (by simpa using h)
    · simp at h
theorem takeWhile_end : ∀ {l : List Bool}, (l[(l.takeWhile fun b => b).length]?).getD false = false
  | [] => rfl
  | b :: l => by
    rw [List.takeWhile_cons]
    split
    · simpa using takeWhile_end (l := l)
    · rename_i hb
      simpa using hb
theorem softs_at {soft : List Bool} {j c : Nat} (h : c < softs soft j) : soft[j + c]? = some true := by
  have := takeWhile_at h
  rwa [List.getElem?_drop] at this
theorem softs_end {soft : List Bool} {j : Nat} : (soft[j + softs soft j]?).getD false = false := by
  have := takeWhile_end (l := soft.drop j)
  rwa [List.getElem?_drop] at this
theorem deedsC_len {j w : Nat} {r v : Int} (h : 1 ≤ w) : (deedsC j w r v).length = w := by simp [deedsC]; omega
theorem deedsC_0 {j w : Nat} {r v : Int} : (deedsC j w r v)[0]? = some (deedC j r v) := rfl
theorem deedsC_at {j w i : Nat} {r v : Int} (h : i < w) (hi : i ≠ 0) : (deedsC j w r v)[i]? = some (deedC (j + i) (-9) 0) := by
  obtain ⟨k, rfl⟩ : ∃ k, i = k + 1 := ⟨i - 1, by omega⟩
  unfold deedsC
  rw [List.getElem?_cons_succ, List.getElem?_map, List.getElem?_range (by omega)]
  show some (deedC (j + 1 + k) (-9) 0) = _
  congr 2; omega
set_option maxRecDepth 100000 in
set_option maxHeartbeats 4000000 in
theorem decideChain {E W : World} {v : Value} {ds : List Bool} {at_ : Int} {good : Bool} (hr : Reads W 1 v (ds.map encBo)) :
    Con Tryz.prog 3 #[v, .int .i64 at_, .bool good] E [old W] (fun _ : Unit => .bool true) (fun _ => [old W]) := by
  refine Con.body (vs := [v, .int .i64 at_, .bool good]) (n := 192) Tryz.func3 rfl rfl [(0, v), (1, .int .i64 at_), (2, .bool good)] (env_ok 3 rfl) <| J_readsB (fun w H => hr.old HS H) fun hw a cap hv h1 h2 h3 => ?_
  subst hv
  have hm : cap ≤ 9223372036854775807 := h2
  have hml : (ds.map encBo).length = ds.length := List.length_map _
  refine sr <| ag rfl rfl <| nx <| L_op <| x_call Tryz.func7 nm7 bd7 .nil rfl (first24) fun _ => ag rfl rfl <| nxx <| mv rfl rfl ?_
  refine L_pur rfl (p_not rfl) <| nq <| J_bool (t := 20) (c := false) rfl (rfl) <| C_false rfl <| J_skip <| Q_then <| J_seq <| sr ?_
  refine mv rfl rfl <| L_pur rfl (p_len rfl Tryz.underlying22) <| L_pur rfl (p_lss rfl rfl) <| mv rfl rfl ?_
  refine J_gsplit (t := 24) rfl (fun h24 => ?_) (fun h24 => ?_)
  ·
    refine L_op <| G_off rfl rfl rfl rfl rfl rfl <| L_op <| G_off rfl rfl rfl rfl rfl rfl <| L_op <| G_off rfl rfl rfl rfl rfl rfl <| L_pur rfl (p_pick_t rfl rfl) <| nq ?_
    refine C_true rfl <| sr <| mv rfl rfl <| ag rfl rfl <| nq <| J_ret <| Q_then_ret ?_
    exact J_return (()) Tryz.results3 (.tmp rfl .nil) rfl SU
  ·
    refine L_op <| G_on rfl rfl rfl <| J_pur (p_move rfl) rfl rfl rfl <| L_op <| G_on rfl rfl rfl <| J_pur (p_len rfl Tryz.underlying22) rfl rfl rfl <| L_op <| G_on rfl rfl rfl ?_
    refine J_pur (p_gtr rfl rfl) rfl rfl rfl <| L_pur rfl (p_pick_f rfl rfl) <| nq ?_
    refine C_dec rfl (fun h28 => ?_) (fun h28 => ?_)
    ·
      refine sr <| mv rfl rfl <| ag rfl rfl <| nq <| J_ret <| Q_then_ret ?_
      exact J_return (()) Tryz.results3 (.tmp rfl .nil) rfl SU
    ·
      have h24a := of_decide_eq_false h24
      have hd1 : 1 ≤ ds.length := by omega
      have hd2 : ds.length ≤ 12 := by omega
      refine J_skip <| qx <| L_pur rfl (bld27 (.cons rfl (.cons rfl (.cons rfl (.cons rfl .nil)))) (by repeat constructor)) <| J_slot (t := 30) (v := .agg (encG 1 1 3 4 false).toArray) rfl rfl <| L_op <| x_call Tryz.func8 nm8 bd8 (.cons rfl .nil) rfl (coNew (ct := 1) (cu := 1) (cs := 3) (cc := 4) (sh := false)) fun g => ?_
      have hT := (one_is g).2
      obtain ⟨K, hK⟩ : ∃ K, K = kNew 1 1 3 4 false g := ⟨_, rfl⟩
      rw [← hK] at hT
      refine J_pick (A := coA g.p _) PC ?_
      refine J_asTo (B := coA g.p K) (by rw [hK]) <| ag rfl rfl <| nxx <| mv rfl rfl <| L_pur rfl (p_eqNilPtr Tryz.underlying24 rfl) <| mv rfl rfl <| J_bool (t := 34) (c := false) rfl (rfl) <| L_op <| G_on rfl rfl rfl ?_
      refine J_pur (p_move rfl) rfl rfl rfl <| L_op <| G_on rfl rfl rfl <| x_call Tryz.func9 nm9 bd9 (.cons rfl .nil) rfl (coReqs) fun _ => L_op <| G_on rfl rfl rfl <| J_pur (p_eqNilPtr Tryz.underlying28 rfl) rfl rfl rfl <| L_pur rfl (p_pick_f rfl rfl) ?_
      refine mv rfl rfl <| J_bool (t := 39) (c := false) rfl (rfl) <| L_op <| G_on rfl rfl rfl <| J_pur (p_move rfl) rfl rfl rfl <| L_op <| G_on rfl rfl rfl <| x_call Tryz.func10 nm10 bd10 (.cons rfl (.cons rfl .nil)) rfl (coRing (s := K) (u := 4) PC) fun _ => ?_
      refine J_slot (t := 41) (v := .pointer (some ⟨(g.bs 0).1, 0, none⟩)) rfl (by rw [hT.rg]; rfl) <| L_op <| G_on rfl rfl rfl <| J_pur (p_eqNilPtr Tryz.underlying30 rfl) rfl rfl rfl <| L_pur rfl (p_pick_f rfl rfl) <| mv rfl rfl <| J_bool (t := 44) (c := false) rfl (rfl) <| L_op <| G_on rfl rfl rfl ?_
      refine J_pur (p_move rfl) rfl rfl rfl <| L_op <| G_on rfl rfl rfl <| x_call Tryz.func11 nm11 bd11 (.cons rfl .nil) rfl (coJournal) fun _ => L_op <| G_on rfl rfl rfl <| J_pur (p_eqNilPtr Tryz.underlying32 rfl) rfl rfl rfl <| L_pur rfl (p_pick_f rfl rfl) ?_
      refine nq <| J_bool (t := 48) (c := false) rfl (rfl) <| C_false rfl <| J_skip <| qx <| mv rfl rfl <| L_pur rfl (p_len rfl Tryz.underlying22) <| J_slot (t := 50) (v := .int .i64 (ds.length : Int)) rfl (by rw [hml]) ?_
      refine ag rfl rfl <| nxx <| ag rfl rfl <| J_pick (A := coA g.p _) PC ?_
      refine J_asTo (B := coA g.p { K with rt := rtC ds 0 0 0 }) (by rw [show rtC ds 0 0 0 = K.rt from hT.rt.symm]) <| nq <| J_block <| J_loop (α := Nat) (fun i => i ≤ ds.length) (fun i => [coA g.p { K with rt := rtC ds 0 0 i }, old W]) (fun i => [(10, .int .i64 (i : Int)), (1, .int .i64 at_), (9, .int .i64 (ds.length : Int)), (8, .pointer (some ⟨g.p, 0, none⟩)), (0, .slice a (ds.map encBo).length cap), (2, .bool good), (7, .bool true)]) (fun i => ds.length - i) 0 (by omega) SU KE ?_
      intro i hi
      refine J_seq <| sr <| mv rfl rfl <| mv rfl rfl <| L_pur rfl (p_lss rfl rfl) <| nq ?_
      refine C_dec rfl (fun h53 => ?_) (fun h53 => ?_)
      ·
        have hlt : i < ds.length := by omega
        obtain ⟨bx, ox, rfl⟩ := h3 (by intro h; rw [h] at hml; simp at hml; omega)
        obtain ⟨c, hcc⟩ : ∃ c, ds[i]? = some c := ⟨_, List.getElem?_eq_getElem hlt⟩
        have hadd := rtC_add (soft := ds) (n := i) (by omega)
        refine J_skip <| Q_then <| J_seq <| J_block <| J_seq <| J_drawL (some 14) mixed <| ip 0 rfl rfl rfl rfl (p_move rfl) <| ip 2 rfl rfl rfl rfl (p_move rfl) ?_
        refine ip 3 rfl rfl rfl rfl (p_add64 rfl rfl (by omega)) <| ip 4 rfl rfl rfl rfl (bld36 (.cons rfl (.cons rfl .nil)) (by repeat constructor)) <| ip 5 rfl rfl rfl rfl (p_move rfl) <| ip 6 rfl rfl rfl rfl (p_conv rfl Tryz.underlying3 Tryz.underlying37) <| ip 7 rfl rfl rfl rfl (bld39 (.cons rfl (.cons rfl .nil)) (by repeat constructor)) <| ip 8 rfl rfl rfl rfl (p_move rfl) <| ip 9 rfl rfl rfl rfl (p_move rfl) <| ip 10 rfl rfl rfl rfl (p_move rfl) ?_
        refine ip 11 rfl rfl rfl rfl (p_indexAddr rfl rfl Tryz.underlying22 ty4 (by omega) (by omega)) ?_
        refine I_take (i := 12) rfl rfl rfl rfl (by kernel_rfl) (fun _ _ _ _ h => h) (fun _ => v_loadR1 rfl ty4 (fun w H => hr.old HS H) (by first | (simp only [Int.toNat_natCast, List.getElem?_map, hcc]; rfl) | (simp only [Int.toNat_natCast, List.getElem?_map, hcd]; rfl) | simp | rfl)) ?_
        refine ip 13 rfl rfl rfl rfl (bld41 (.cons rfl (.cons rfl (.cons rfl (.cons rfl .nil)))) (by repeat constructor)) <| J_slot (t := 69) (v := .agg (encQ (rqC ds i)).toArray) rfl (by unfold encQ rqC; rw [hcc, wrap32u_of (by omega)]; rfl) <| i1 1 rfl <| x_call Tryz.func9 nm9 bd9 (.cons rfl .nil) rfl (coReqs) fun _ => i1 14 rfl <| x_call Tryz.func12 nm12 bd12 (.cons rfl (.cons rfl .nil)) rfl (coRqAdd (s := { K with rt := rtC ds 0 0 i }) (q := rqC ds i) PC rtC_ids (by have := rtC_len (soft := ds) (a := 0) (j := 0) (n := i); show (rtC ds 0 0 i).length ≤ 100000; omega)) fun _ => ?_
        refine J_bool (t := 70) (c := true) rfl (by rw [hadd.1]) <| J_pick (A := coA g.p _) PC ?_
        refine J_asTo (B := coA g.p { K with rt := rtC ds 0 0 (i + 1) }) (by rw [hadd.2]) <| ip 15 rfl rfl rfl rfl (p_not rfl) <| i0 <| Q_then <| J_bool (t := 71) (c := false) rfl (rfl) <| C_false rfl <| J_skip <| Q_blk_normal ?_
        refine qr <| mv rfl rfl <| L_pur rfl (p_add64 rfl rfl (by omega)) <| ag rfl rfl <| nq ?_
        exact J_again (i + 1) (by omega) (by omega) SU KE
      ·
        have hin : i = ds.length := by omega
        subst hin
        refine J_exit <| Q_then_exit <| Q_then_exit <| Q_blk_this <| qx <| mv rfl rfl <| mv rfl rfl <| L_op <| x_call Tryz.func13 nm13 bd13 (.cons rfl (.cons rfl .nil)) rfl (number (by omega) (by omega)) fun _ => ?_
        obtain ⟨ac, hac⟩ : ∃ ac, ac = num at_ (ds.length : Nat) := ⟨_, rfl⟩
        have hal : ac < ds.length := by rw [hac]; exact num_lt' (by omega)
        refine J_slot (t := 74) (v := .int .i64 (ac : Int)) rfl (by rw [hac]) <| ag rfl rfl <| nx <| ag rfl rfl <| nq ?_
        refine J_cut (α := Unit) (fun _ : Unit => [coA g.p { K with rt := rtC ds 0 0 ds.length }, old W]) (fun _ : Unit => [(1, .int .i64 (ac : Int)), (11, .int .i64 (if good = true then (0 : Int) else -10)), (9, .int .i64 (ds.length : Int)), (8, .pointer (some ⟨g.p, 0, none⟩)), (0, .slice a (ds.map encBo).length cap), (2, .bool good), (7, .bool true)]) ?_ ?_
        ·
          refine sr <| mv rfl rfl <| nq ?_
          refine C_split rfl (fun h75 => ?_) (fun h75 => ?_)
          ·
            refine J_region <| ag rfl rfl <| nq <| J_slot (t := 11) (v := .int .i64 (if good = true then (0 : Int) else -10)) rfl (by rw [h75]; rfl) ?_
            exact J_at (α := Unit) (L := (fun _ : Unit => [coA g.p { K with rt := rtC ds 0 0 ds.length }, old W])) (G := (fun _ : Unit => [(1, .int .i64 (ac : Int)), (11, .int .i64 (if good = true then (0 : Int) else -10)), (9, .int .i64 (ds.length : Int)), (8, .pointer (some ⟨g.p, 0, none⟩)), (0, .slice a (ds.map encBo).length cap), (2, .bool good), (7, .bool true)])) () SU KE
          ·
            refine J_skip <| Q_then <| J_slot (t := 11) (v := .int .i64 (if good = true then (0 : Int) else -10)) rfl (by rw [h75]; rfl) ?_
            exact J_at (α := Unit) (L := (fun _ : Unit => [coA g.p { K with rt := rtC ds 0 0 ds.length }, old W])) (G := (fun _ : Unit => [(1, .int .i64 (ac : Int)), (11, .int .i64 (if good = true then (0 : Int) else -10)), (9, .int .i64 (ds.length : Int)), (8, .pointer (some ⟨g.p, 0, none⟩)), (0, .slice a (ds.map encBo).length cap), (2, .bool good), (7, .bool true)])) () SU KE
        ·
          intro _
          obtain ⟨rr, hrr⟩ : ∃ rr : Int, rr = (if good = true then (0 : Int) else -10) := ⟨_, rfl⟩
          have hrb : -10 ≤ rr ∧ rr ≤ 0 := by rw [hrr]; split <;> omega
          refine J_slot (t := 11) (v := .int .i64 rr) rfl (by rw [hrr]) <| J_seq <| sr <| mv rfl rfl ?_
          have hFc : Fits { K with rt := rtC ds 0 0 ds.length } 20 60 := hT.fits rtC_ids (by have := rtC_len (soft := ds) (a := 0) (j := 0) (n := ds.length); omega)
          have hrt : rtC ds 0 0 ds.length = rtC ds ac ac ds.length := by
            unfold rtC; congr 1; refine List.filter_congr fun k _ => ?_
            rw [Bool.eq_iff_iff]; simp; omega
          have hch := chain_dec (soft := ds) (a := ac) (ds.length - ac) (KS.rt { K with rt := rtC ds 0 0 ds.length }).length 60 ac { K with rt := rtC ds 0 0 ds.length } rr 9 0 (by omega) (Nat.le_refl _) hal hFc hrt (Nat.le_refl _) hT.nt hT.rdy (by omega)
          obtain ⟨S1, hS1⟩ : ∃ S1, S1 = kDec (KS.rt { K with rt := rtC ds 0 0 ds.length }).length { K with rt := rtC ds 0 0 ds.length } (4, (ac : Int) + 1) rr 9 := ⟨_, rfl⟩
          obtain ⟨wr, hwr⟩ : ∃ wr, wr = wantC ds ac rr := ⟨_, rfl⟩
          rw [← hS1, ← hwr] at hch
          obtain ⟨hc1, hc2, hc3⟩ := hch
          have hF1 : Fits S1 20 60 := by rw [hS1]; exact (Fits.dec _ hFc).1
          have hw1 : 1 ≤ wr ∧ ac + wr ≤ ds.length := by
            have := softs_le ds (ac + 1)
            rw [hwr]; unfold wantC; split <;> omega
          have hjn : S1.jn = (deedsC ac wr rr 9) := by rw [hc2, show (KS.jn { K with rt := rtC ds 0 0 ds.length }) = [] from hT.jn]; rfl
          obtain ⟨bt, rt_, ht1, _, ht2, _⟩ := hc3
          refine mv rfl rfl <| L_pur rfl (p_add64 rfl rfl (by omega)) <| L_pur rfl (bld36 (.cons rfl (.cons rfl .nil)) (by repeat constructor)) <| J_slot (t := 79) (v := .agg (encI (4, (ac : Int) + 1)).toArray) rfl rfl <| mv rfl rfl <| L_op <| x_call Tryz.func14 nm14 bd14 (.cons rfl (.cons rfl (.cons rfl (.cons rfl .nil)))) rfl (coDecide (s := { K with rt := rtC ds 0 0 ds.length }) (i := (4, (ac : Int) + 1)) (r := rr) (v := 9) PC hFc) fun _ => ?_
          refine J_bool (t := 81) (c := true) rfl (by rw [show look (KS.rt { K with rt := rtC ds 0 0 ds.length }) (4, (ac : Int) + 1) = _ from rtC_look hal (.inr (Nat.zero_le _))]; rfl) <| J_pick (A := coA g.p _) PC ?_
          refine J_asTo (B := coA g.p S1) (by rw [hS1]) <| L_pur rfl (p_not rfl) <| mv rfl rfl <| J_bool (t := 83) (c := false) rfl (rfl) <| L_op <| G_on rfl rfl rfl <| J_pur (p_move rfl) rfl rfl rfl <| L_op <| G_on rfl rfl rfl ?_
          refine J_pur (p_move rfl) rfl rfl rfl <| L_op <| G_on rfl rfl rfl <| J_pur (p_add64 rfl rfl (by omega)) rfl rfl rfl <| L_op <| G_on rfl rfl rfl <| J_pur (bld36 (.cons rfl (.cons rfl .nil)) (by repeat constructor)) rfl rfl rfl <| J_slot (t := 87) (v := .agg (encI (4, (ac : Int) + 1)).toArray) rfl rfl ?_
          refine L_op <| G_on rfl rfl rfl <| J_pur (p_move rfl) rfl rfl rfl <| L_op <| G_on rfl rfl rfl <| x_call Tryz.func14 nm14 bd14 (.cons rfl (.cons rfl (.cons rfl (.cons rfl .nil)))) rfl (coDecide (s := S1) (i := (4, (ac : Int) + 1)) (r := rr) (v := 9) PC hF1) fun _ => ?_
          refine J_bool (t := 89) (c := false) rfl (by rw [hc1, rtC_gone (by omega)]; rfl) <| J_pick (A := coA g.p _) PC ?_
          refine J_asTo (B := coA g.p S1) (by rw [kDec_none (by rw [hc1, rtC_gone (by omega)])]) <| L_pur rfl (p_pick_f rfl rfl) <| nq <| J_bool (t := 90) (c := false) rfl (rfl) <| C_false rfl <| J_skip <| qx <| ag rfl rfl ?_
          refine nq ?_
          refine J_cut (α := Unit) (fun _ : Unit => [coA g.p S1, old W]) (fun _ : Unit => [(12, .int .i64 (wr : Int)), (1, .int .i64 (ac : Int)), (11, .int .i64 rr), (9, .int .i64 (ds.length : Int)), (8, .pointer (some ⟨g.p, 0, none⟩)), (7, .bool true)]) ?_ ?_
          ·
            refine sr <| mv rfl rfl <| L_pur rfl (p_add64 rfl rfl (by omega)) <| ag rfl rfl <| nq <| J_block <| J_loop (α := Nat) (fun jc => jc + 1 ≤ wr) (fun _ => [coA g.p S1, old W]) (fun jc => [(12, .int .i64 (1 + (jc : Int))), (13, .int .i64 ((ac : Int) + 1 + (jc : Int))), (1, .int .i64 (ac : Int)), (11, .int .i64 rr), (9, .int .i64 (ds.length : Int)), (8, .pointer (some ⟨g.p, 0, none⟩)), (0, .slice a (ds.map encBo).length cap), (2, .bool good), (7, .bool true)]) (fun jc => wr - jc) 0 (by omega) SU KE ?_
            intro jc hc
            refine J_seq <| sr <| mv rfl rfl <| mv rfl rfl <| L_pur rfl (p_lss rfl rfl) <| mv rfl rfl ?_
            refine J_gsplit (t := 96) rfl (fun h96 => ?_) (fun h96 => ?_)
            ·
              have h96a := of_decide_eq_true h96
              have hlt : (ac + 1 + jc) < ds.length := by omega
              obtain ⟨bx, ox, rfl⟩ := h3 (by intro h; rw [h] at hml; simp at hml; omega)
              obtain ⟨e, hcc⟩ : ∃ c, ds[(ac + 1 + jc)]? = some c := ⟨_, List.getElem?_eq_getElem hlt⟩
              refine L_op <| G_on rfl rfl rfl <| J_pur (p_move rfl) rfl rfl rfl <| L_op <| G_on rfl rfl rfl <| J_pur (p_move rfl) rfl rfl rfl <| L_op <| G_on rfl rfl rfl ?_
              refine J_pur (p_indexAddr rfl rfl Tryz.underlying22 ty4 (by omega) (by simp; omega)) rfl rfl rfl <| L_op <| G_on rfl rfl rfl ?_
              refine J_val (v_loadR1 rfl ty4 (fun w H => hr.old HS H) (by rw [show ((ac : Int) + 1 + (jc : Int)).toNat = ac + 1 + jc by omega, List.getElem?_map, hcc]; rfl)) rfl rfl rfl ?_
              refine L_pur rfl (p_pick_t rfl rfl) <| mv rfl rfl ?_
              refine J_gsplit (t := 102) rfl (fun h102 => ?_) (fun h102 => ?_)
              ·
                have hsc : rr < 0 → jc < softs ds (ac + 1) := fun hr0 => by
                  by_cases hlt2 : jc < softs ds (ac + 1)
                  · exact hlt2
                  · have hcs : jc = softs ds (ac + 1) := by rw [hwr, wantC, if_pos hr0] at hc; omega
                    have he := softs_end (soft := ds) (j := ac + 1)
                    rw [← hcs, hcc] at he
                    rw [show e = true from h102] at he; cases he
                refine L_op <| G_on rfl rfl rfl <| J_pur (p_move rfl) rfl rfl rfl <| L_op <| G_on rfl rfl rfl <| J_pur (p_not rfl) rfl rfl rfl <| L_pur rfl (p_pick_t rfl rfl) <| nq ?_
                refine C_split rfl (fun h105 => ?_) (fun h105 => ?_)
                ·
                  have hgf : good = false := by simpa using h105
                  have hr10 : rr = -10 := by rw [hrr, hgf]; rfl
                  have hc2w : jc + 1 + 1 ≤ wr := by have h9 := hsc (by omega); rw [hwr, wantC, if_pos (by omega)]; omega
                  refine J_skip <| Q_then <| J_seq <| J_block <| J_region <| mv rfl rfl <| L_pur rfl (p_add64 rfl rfl (by omega)) <| ag rfl rfl ?_
                  refine L_nil <| Q_blk_normal <| qr <| mv rfl rfl <| L_pur rfl (p_add64 rfl rfl (by omega)) <| ag rfl rfl <| nq ?_
                  exact J_again (jc + 1) (by omega) (by omega) SU KE
                ·
                  have hgt : good = true := by simpa using h105
                  have hr00 : rr = 0 := by rw [hrr, hgt]; rfl
                  have hcw : jc + 1 = wr := by rw [hwr, wantC, if_neg (by omega)] at hc; rw [hwr, wantC, if_neg (by omega)]; omega
                  refine J_exit <| Q_then_exit <| Q_then_exit <| Q_blk_this <| Q_then <| J_slot (t := 12) (v := .int .i64 (wr : Int)) rfl (by congr 1; omega) ?_
                  exact J_at (α := Unit) (L := (fun _ : Unit => [coA g.p S1, old W])) (G := (fun _ : Unit => [(12, .int .i64 (wr : Int)), (1, .int .i64 (ac : Int)), (11, .int .i64 rr), (9, .int .i64 (ds.length : Int)), (8, .pointer (some ⟨g.p, 0, none⟩)), (7, .bool true)])) () SU KE
              ·
                have hcw : jc + 1 = wr := by
                  by_cases hlt2 : jc + 1 < wr
                  · have hlt3 : jc < softs ds (ac + 1) := by rw [hwr, wantC] at hlt2; split at hlt2 <;> omega
                    have he := softs_at hlt3
                    rw [hcc] at he
                    rw [show e = false from h102] at he; cases he
                  · omega
                refine L_op <| G_off rfl rfl rfl rfl rfl rfl <| L_op <| G_off rfl rfl rfl rfl rfl rfl <| L_pur rfl (p_pick_f rfl rfl) <| nq <| C_false rfl <| J_exit ?_
                refine Q_then_exit <| Q_then_exit <| Q_blk_this <| Q_then <| J_slot (t := 12) (v := .int .i64 (wr : Int)) rfl (by congr 1; omega) ?_
                exact J_at (α := Unit) (L := (fun _ : Unit => [coA g.p S1, old W])) (G := (fun _ : Unit => [(12, .int .i64 (wr : Int)), (1, .int .i64 (ac : Int)), (11, .int .i64 rr), (9, .int .i64 (ds.length : Int)), (8, .pointer (some ⟨g.p, 0, none⟩)), (7, .bool true)])) () SU KE
            ·
              have h96a := of_decide_eq_false h96
              have hcw : jc + 1 = wr := by omega
              refine L_op <| G_off rfl rfl rfl rfl rfl rfl <| L_op <| G_off rfl rfl rfl rfl rfl rfl <| L_op <| G_off rfl rfl rfl rfl rfl rfl <| L_op <| G_off rfl rfl rfl rfl rfl rfl ?_
              refine L_pur rfl (p_pick_f rfl rfl) <| mv rfl rfl <| L_op <| G_off rfl rfl rfl rfl rfl rfl <| L_op <| G_off rfl rfl rfl rfl rfl rfl <| L_pur rfl (p_pick_f rfl rfl) <| nq ?_
              refine C_false rfl <| J_exit <| Q_then_exit <| Q_then_exit <| Q_blk_this <| Q_then <| J_slot (t := 12) (v := .int .i64 (wr : Int)) rfl (by congr 1; omega) ?_
              exact J_at (α := Unit) (L := (fun _ : Unit => [coA g.p S1, old W])) (G := (fun _ : Unit => [(12, .int .i64 (wr : Int)), (1, .int .i64 (ac : Int)), (11, .int .i64 rr), (9, .int .i64 (ds.length : Int)), (8, .pointer (some ⟨g.p, 0, none⟩)), (7, .bool true)])) () SU KE
          ·
            intro _
            refine sr <| mv rfl rfl <| L_op <| x_call Tryz.func11 nm11 bd11 (.cons rfl .nil) rfl (coJournal) fun _ => L_op <| x_call Tryz.func15 nm15 bd15 (.cons rfl .nil) rfl (coJAll (s := S1) PC (by have := hF1.jn; omega)) <| JE ((deedsC ac wr rr 9).map encD) (by rw [hjn]) fun a112 c112 hw112 hl112 hm112 hz112 => ?_
            have hmd : ((deedsC ac wr rr 9).map encD).length = wr := by rw [List.length_map, deedsC_len hw1.1]
            refine ag rfl rfl <| nxx <| mv rfl rfl <| L_pur rfl (p_len rfl Tryz.underlying44) <| mv rfl rfl <| L_pur rfl (p_neq rfl rfl) <| J_bool (t := 116) (c := false) rfl (by rw [hmd]; simp) <| mv rfl rfl ?_
            refine J_bool (t := 117) (c := false) rfl (rfl) <| L_op <| G_on rfl rfl rfl <| J_pur (p_move rfl) rfl rfl rfl <| L_op <| G_on rfl rfl rfl <| x_call Tryz.func9 nm9 bd9 (.cons rfl .nil) rfl (coReqs) fun _ => L_op <| G_on rfl rfl rfl ?_
            refine x_call Tryz.func16 nm16 bd16 (.cons rfl (.cons rfl .nil)) rfl (coRqOf (s := S1) (g := 4) PC (by rw [hc1]; exact rtC_ids) (by have := hF1.jn; omega)) <| JR fun a120 c120 hw120 hl120 hm120 hz120 => L_op <| G_on rfl rfl rfl <| J_pur (p_len rfl Tryz.underlying46) rfl rfl rfl <| J_slot (t := 121) (v := .int .i64 ((ds.length : Int) - (wr : Int))) rfl (by rw [List.length_map, hc1, ofQ_C, rtC_count (by omega) (by omega)]; congr 1; omega) <| L_op <| G_on rfl rfl rfl ?_
            refine J_pur (p_move rfl) rfl rfl rfl <| L_op <| G_on rfl rfl rfl <| J_pur (p_move rfl) rfl rfl rfl <| L_op <| G_on rfl rfl rfl <| J_pur (p_sub64 rfl rfl (by omega)) rfl rfl rfl <| L_op <| G_on rfl rfl rfl ?_
            refine J_pur (p_neq rfl rfl) rfl rfl rfl <| J_bool (t := 125) (c := false) rfl (by simp) <| L_pur rfl (p_pick_f rfl rfl) <| mv rfl rfl <| J_bool (t := 127) (c := false) rfl (rfl) <| L_op <| G_on rfl rfl rfl <| J_pur (p_move rfl) rfl rfl rfl ?_
            refine L_op <| G_on rfl rfl rfl <| x_call Tryz.func10 nm10 bd10 (.cons rfl (.cons rfl .nil)) rfl (coRing (s := S1) (u := 4) PC) fun _ => ?_
            refine J_slot (t := 129) (v := .pointer (some ⟨bt, 0, none⟩)) rfl (by rw [look_is ht1]; rfl) <| L_op <| G_on rfl rfl rfl <| x_call Tryz.func17 nm17 bd17 (.cons rfl .nil) rfl (coTail (s := S1) (u := 4) PC ht1) fun _ => ?_
            refine J_slot (t := 130) (v := .int .u32 (wr : Int)) rfl (by rw [ht2, Nat.zero_add]) <| L_op <| G_on rfl rfl rfl <| J_pur (p_conv rfl Tryz.underlying37 Tryz.underlying3) rfl rfl rfl <| J_slot (t := 131) (v := .int .i64 (wr : Int)) rfl (by rw [wrap64_of (by omega)]) <| L_op <| G_on rfl rfl rfl <| J_pur (p_move rfl) rfl rfl rfl ?_
            refine L_op <| G_on rfl rfl rfl <| J_pur (p_neq rfl rfl) rfl rfl rfl <| J_bool (t := 133) (c := false) rfl (by simp) <| L_pur rfl (p_pick_f rfl rfl) <| nq <| J_bool (t := 134) (c := false) rfl (rfl) <| C_false rfl ?_
            refine J_skip <| Q_then <| J_seq <| sr <| ag rfl rfl <| nq <| J_block <| J_loop (α := Nat) (fun i => i ≤ wr) (fun _ => [row 50 7 (.slice a112 ((deedsC ac wr rr 9).map encD).length c112) ((deedsC ac wr rr 9).map encD), old W]) (fun i => [(15, .int .i64 (i : Int)), (12, .int .i64 (wr : Int)), (14, .slice a112 ((deedsC ac wr rr 9).map encD).length c112), (1, .int .i64 (ac : Int)), (11, .int .i64 rr), (7, .bool true)]) (fun i => wr - i) 0 (by omega) SU KE ?_
            intro i hi
            refine J_seq <| sr <| mv rfl rfl <| mv rfl rfl <| L_pur rfl (p_lss rfl rfl) <| nq ?_
            refine C_dec rfl (fun h137 => ?_) (fun h137 => ?_)
            ·
              have hlt : i < wr := by omega
              obtain ⟨bx, ox, rfl⟩ := hz112 (by intro h; rw [h] at hmd; simp at hmd; omega)
              refine J_skip <| Q_then <| J_seq <| J_block <| sr <| ag rfl rfl <| nx <| ag rfl rfl ?_
              refine nxx <| mv rfl rfl <| L_pur rfl (p_eql rfl rfl) <| nq ?_
              refine C_dec rfl (fun h141 => ?_) (fun h141 => ?_)
              ·
                have hi0 : i = 0 := by omega
                have hcc : (deedsC ac wr rr 9)[i]? = some (deedC ac rr 9) := by rw [hi0]; exact deedsC_0
                refine sr <| mv rfl rfl <| ag rfl rfl <| ny <| ag rfl rfl <| nx <| mv rfl rfl <| mv rfl rfl ?_
                refine L_pur rfl (p_indexAddr rfl rfl Tryz.underlying44 ty50 (by omega) (by omega)) <| fa rfl rfl fa50_0 ?_
                refine L_val rfl (by first | exact v_loadFA rfl ty36 HS (by first | (simp only [Int.toNat_natCast, List.getElem?_map, hcc]; rfl) | (simp only [Int.toNat_natCast, List.getElem?_map, hcd]; rfl) | simp | rfl) CT | exact v_loadRFA rfl ty36 (fun w H => hr.old HS H) (by first | (simp only [Int.toNat_natCast, List.getElem?_map, hcc]; rfl) | (simp only [Int.toNat_natCast, List.getElem?_map, hcd]; rfl) | simp | rfl) CT) ?_
                refine mv rfl rfl <| L_pur rfl (p_add64 rfl rfl (by omega)) <| mv rfl rfl <| L_pur rfl (p_add64 rfl rfl (by omega)) <| L_pur rfl (bld36 (.cons rfl (.cons rfl .nil)) (by repeat constructor)) <| J_slot (t := 152) (v := .agg (encI (4, (ac : Int) + 1 + (i : Int))).toArray) rfl rfl <| L_pur rfl (p_nev rfl rfl (fun w => eg36 _ _ _ _ _ w) (fun w => nev36 _ _ _ _ w)) <| J_bool (t := 153) (c := false) rfl (by simp [deedC, encI, hi0]) ?_
                refine mv rfl rfl <| J_bool (t := 154) (c := false) rfl (rfl) <| L_op <| G_on rfl rfl rfl <| J_pur (p_move rfl) rfl rfl rfl <| L_op <| G_on rfl rfl rfl <| J_pur (p_move rfl) rfl rfl rfl ?_
                refine L_op <| G_on rfl rfl rfl <| J_pur (p_indexAddr rfl rfl Tryz.underlying44 ty50 (by omega) (by omega)) rfl rfl rfl <| L_op <| G_on rfl rfl rfl <| J_pur (p_fieldAddr rfl fa50_3) rfl rfl rfl <| L_op <| G_on rfl rfl rfl ?_
                refine J_val (by first | exact v_loadF rfl ty3 HS (by first | (simp only [Int.toNat_natCast, List.getElem?_map, hcc]; rfl) | (simp only [Int.toNat_natCast, List.getElem?_map, hcd]; rfl) | simp | rfl) (by exact rfl) | exact v_loadRF rfl ty3 (fun w H => hr.old HS H) (by first | (simp only [Int.toNat_natCast, List.getElem?_map, hcc]; rfl) | (simp only [Int.toNat_natCast, List.getElem?_map, hcd]; rfl) | simp | rfl) (by exact rfl)) rfl rfl rfl ?_
                refine L_op <| G_on rfl rfl rfl <| J_pur (p_move rfl) rfl rfl rfl <| L_op <| G_on rfl rfl rfl <| J_pur (p_neq rfl rfl) rfl rfl rfl <| J_bool (t := 161) (c := false) rfl (by simp [deedC]) <| L_pur rfl (p_pick_f rfl rfl) ?_
                refine mv rfl rfl <| J_bool (t := 163) (c := false) rfl (rfl) <| L_op <| G_on rfl rfl rfl <| J_pur (p_move rfl) rfl rfl rfl <| L_op <| G_on rfl rfl rfl <| J_pur (p_move rfl) rfl rfl rfl ?_
                refine L_op <| G_on rfl rfl rfl <| J_pur (p_indexAddr rfl rfl Tryz.underlying44 ty50 (by omega) (by omega)) rfl rfl rfl <| L_op <| G_on rfl rfl rfl <| J_pur (p_fieldAddr rfl fa50_4) rfl rfl rfl <| L_op <| G_on rfl rfl rfl ?_
                refine J_val (by first | exact v_loadF rfl ty37 HS (by first | (simp only [Int.toNat_natCast, List.getElem?_map, hcc]; rfl) | (simp only [Int.toNat_natCast, List.getElem?_map, hcd]; rfl) | simp | rfl) (by exact rfl) | exact v_loadRF rfl ty37 (fun w H => hr.old HS H) (by first | (simp only [Int.toNat_natCast, List.getElem?_map, hcc]; rfl) | (simp only [Int.toNat_natCast, List.getElem?_map, hcd]; rfl) | simp | rfl) (by exact rfl)) rfl rfl rfl ?_
                refine L_op <| G_on rfl rfl rfl <| J_pur (p_move rfl) rfl rfl rfl <| L_op <| G_on rfl rfl rfl <| J_pur (p_neq rfl rfl) rfl rfl rfl <| J_bool (t := 170) (c := false) rfl (by simp [deedC]) <| L_pur rfl (p_pick_f rfl rfl) ?_
                refine mv rfl rfl <| J_bool (t := 172) (c := false) rfl (rfl) <| L_op <| G_on rfl rfl rfl <| J_pur (p_move rfl) rfl rfl rfl <| L_op <| G_on rfl rfl rfl <| J_pur (p_move rfl) rfl rfl rfl ?_
                refine L_op <| G_on rfl rfl rfl <| J_pur (p_indexAddr rfl rfl Tryz.underlying44 ty50 (by omega) (by omega)) rfl rfl rfl <| L_op <| G_on rfl rfl rfl <| J_pur (p_fieldAddr rfl fa50_1) rfl rfl rfl <| L_op <| G_on rfl rfl rfl ?_
                refine J_val (by first | exact v_loadF rfl ty37 HS (by first | (simp only [Int.toNat_natCast, List.getElem?_map, hcc]; rfl) | (simp only [Int.toNat_natCast, List.getElem?_map, hcd]; rfl) | simp | rfl) (by exact rfl) | exact v_loadRF rfl ty37 (fun w H => hr.old HS H) (by first | (simp only [Int.toNat_natCast, List.getElem?_map, hcc]; rfl) | (simp only [Int.toNat_natCast, List.getElem?_map, hcd]; rfl) | simp | rfl) (by exact rfl)) rfl rfl rfl ?_
                refine L_op <| G_on rfl rfl rfl <| J_pur (p_move rfl) rfl rfl rfl <| L_op <| G_on rfl rfl rfl <| J_pur (p_move rfl) rfl rfl rfl <| L_op <| G_on rfl rfl rfl ?_
                refine J_pur (p_add64 rfl rfl (by omega)) rfl rfl rfl <| L_op <| G_on rfl rfl rfl <| J_pur (p_conv rfl Tryz.underlying3 Tryz.underlying37) rfl rfl rfl <| J_slot (t := 181) (v := .int .u32 ((ac : Int) + (i : Int))) rfl (by rw [wrap32u_of (by omega)]) <| L_op <| G_on rfl rfl rfl <| J_pur (p_neq rfl rfl) rfl rfl rfl ?_
                refine J_bool (t := 182) (c := false) rfl (by simp [deedC, hi0]) <| L_pur rfl (p_pick_f rfl rfl) <| mv rfl rfl <| J_bool (t := 184) (c := false) rfl (rfl) <| L_op <| G_on rfl rfl rfl <| J_pur (p_move rfl) rfl rfl rfl <| L_op <| G_on rfl rfl rfl ?_
                refine J_pur (p_move rfl) rfl rfl rfl <| L_op <| G_on rfl rfl rfl <| J_pur (p_indexAddr rfl rfl Tryz.underlying44 ty50 (by omega) (by omega)) rfl rfl rfl <| L_op <| G_on rfl rfl rfl <| J_pur (p_fieldAddr rfl fa50_5) rfl rfl rfl <| L_op <| G_on rfl rfl rfl ?_
                refine J_val (by first | exact v_loadF rfl ty4 HS (by first | (simp only [Int.toNat_natCast, List.getElem?_map, hcc]; rfl) | (simp only [Int.toNat_natCast, List.getElem?_map, hcd]; rfl) | simp | rfl) (by exact rfl) | exact v_loadRF rfl ty4 (fun w H => hr.old HS H) (by first | (simp only [Int.toNat_natCast, List.getElem?_map, hcc]; rfl) | (simp only [Int.toNat_natCast, List.getElem?_map, hcd]; rfl) | simp | rfl) (by exact rfl)) rfl rfl rfl ?_
                refine L_pur rfl (p_pick_f rfl rfl) <| nq <| J_bool (t := 190) (c := false) rfl (rfl) <| C_false rfl <| J_skip <| Q_blk_normal <| qr <| mv rfl rfl ?_
                refine L_pur rfl (p_add64 rfl rfl (by omega)) <| ag rfl rfl <| nq ?_
                exact J_again (i + 1) (by omega) (by omega) SU KE
              ·
                have hcc : (deedsC ac wr rr 9)[i]? = some (deedC (ac + i) (-9) 0) := deedsC_at hlt (by omega)
                refine J_skip <| qx <| mv rfl rfl <| mv rfl rfl <| L_pur rfl (p_indexAddr rfl rfl Tryz.underlying44 ty50 (by omega) (by omega)) <| fa rfl rfl fa50_0 ?_
                refine L_val rfl (by first | exact v_loadFA rfl ty36 HS (by first | (simp only [Int.toNat_natCast, List.getElem?_map, hcc]; rfl) | (simp only [Int.toNat_natCast, List.getElem?_map, hcd]; rfl) | simp | rfl) CT | exact v_loadRFA rfl ty36 (fun w H => hr.old HS H) (by first | (simp only [Int.toNat_natCast, List.getElem?_map, hcc]; rfl) | (simp only [Int.toNat_natCast, List.getElem?_map, hcd]; rfl) | simp | rfl) CT) ?_
                refine mv rfl rfl <| L_pur rfl (p_add64 rfl rfl (by omega)) <| mv rfl rfl <| L_pur rfl (p_add64 rfl rfl (by omega)) <| L_pur rfl (bld36 (.cons rfl (.cons rfl .nil)) (by repeat constructor)) <| J_slot (t := 152) (v := .agg (encI (4, (ac : Int) + 1 + (i : Int))).toArray) rfl rfl <| L_pur rfl (p_nev rfl rfl (fun w => eg36 _ _ _ _ _ w) (fun w => nev36 _ _ _ _ w)) <| J_bool (t := 153) (c := false) rfl (by simp [deedC, encI]; omega) ?_
                refine mv rfl rfl <| J_bool (t := 154) (c := false) rfl (rfl) <| L_op <| G_on rfl rfl rfl <| J_pur (p_move rfl) rfl rfl rfl <| L_op <| G_on rfl rfl rfl <| J_pur (p_move rfl) rfl rfl rfl ?_
                refine L_op <| G_on rfl rfl rfl <| J_pur (p_indexAddr rfl rfl Tryz.underlying44 ty50 (by omega) (by omega)) rfl rfl rfl <| L_op <| G_on rfl rfl rfl <| J_pur (p_fieldAddr rfl fa50_3) rfl rfl rfl <| L_op <| G_on rfl rfl rfl ?_
                refine J_val (by first | exact v_loadF rfl ty3 HS (by first | (simp only [Int.toNat_natCast, List.getElem?_map, hcc]; rfl) | (simp only [Int.toNat_natCast, List.getElem?_map, hcd]; rfl) | simp | rfl) (by exact rfl) | exact v_loadRF rfl ty3 (fun w H => hr.old HS H) (by first | (simp only [Int.toNat_natCast, List.getElem?_map, hcc]; rfl) | (simp only [Int.toNat_natCast, List.getElem?_map, hcd]; rfl) | simp | rfl) (by exact rfl)) rfl rfl rfl ?_
                refine L_op <| G_on rfl rfl rfl <| J_pur (p_move rfl) rfl rfl rfl <| L_op <| G_on rfl rfl rfl <| J_pur (p_neq rfl rfl) rfl rfl rfl <| J_bool (t := 161) (c := false) rfl (by simp [deedC]) <| L_pur rfl (p_pick_f rfl rfl) ?_
                refine mv rfl rfl <| J_bool (t := 163) (c := false) rfl (rfl) <| L_op <| G_on rfl rfl rfl <| J_pur (p_move rfl) rfl rfl rfl <| L_op <| G_on rfl rfl rfl <| J_pur (p_move rfl) rfl rfl rfl ?_
                refine L_op <| G_on rfl rfl rfl <| J_pur (p_indexAddr rfl rfl Tryz.underlying44 ty50 (by omega) (by omega)) rfl rfl rfl <| L_op <| G_on rfl rfl rfl <| J_pur (p_fieldAddr rfl fa50_4) rfl rfl rfl <| L_op <| G_on rfl rfl rfl ?_
                refine J_val (by first | exact v_loadF rfl ty37 HS (by first | (simp only [Int.toNat_natCast, List.getElem?_map, hcc]; rfl) | (simp only [Int.toNat_natCast, List.getElem?_map, hcd]; rfl) | simp | rfl) (by exact rfl) | exact v_loadRF rfl ty37 (fun w H => hr.old HS H) (by first | (simp only [Int.toNat_natCast, List.getElem?_map, hcc]; rfl) | (simp only [Int.toNat_natCast, List.getElem?_map, hcd]; rfl) | simp | rfl) (by exact rfl)) rfl rfl rfl ?_
                refine L_op <| G_on rfl rfl rfl <| J_pur (p_move rfl) rfl rfl rfl <| L_op <| G_on rfl rfl rfl <| J_pur (p_neq rfl rfl) rfl rfl rfl <| J_bool (t := 170) (c := false) rfl (by simp [deedC]) <| L_pur rfl (p_pick_f rfl rfl) ?_
                refine mv rfl rfl <| J_bool (t := 172) (c := false) rfl (rfl) <| L_op <| G_on rfl rfl rfl <| J_pur (p_move rfl) rfl rfl rfl <| L_op <| G_on rfl rfl rfl <| J_pur (p_move rfl) rfl rfl rfl ?_
                refine L_op <| G_on rfl rfl rfl <| J_pur (p_indexAddr rfl rfl Tryz.underlying44 ty50 (by omega) (by omega)) rfl rfl rfl <| L_op <| G_on rfl rfl rfl <| J_pur (p_fieldAddr rfl fa50_1) rfl rfl rfl <| L_op <| G_on rfl rfl rfl ?_
                refine J_val (by first | exact v_loadF rfl ty37 HS (by first | (simp only [Int.toNat_natCast, List.getElem?_map, hcc]; rfl) | (simp only [Int.toNat_natCast, List.getElem?_map, hcd]; rfl) | simp | rfl) (by exact rfl) | exact v_loadRF rfl ty37 (fun w H => hr.old HS H) (by first | (simp only [Int.toNat_natCast, List.getElem?_map, hcc]; rfl) | (simp only [Int.toNat_natCast, List.getElem?_map, hcd]; rfl) | simp | rfl) (by exact rfl)) rfl rfl rfl ?_
                refine L_op <| G_on rfl rfl rfl <| J_pur (p_move rfl) rfl rfl rfl <| L_op <| G_on rfl rfl rfl <| J_pur (p_move rfl) rfl rfl rfl <| L_op <| G_on rfl rfl rfl ?_
                refine J_pur (p_add64 rfl rfl (by omega)) rfl rfl rfl <| L_op <| G_on rfl rfl rfl <| J_pur (p_conv rfl Tryz.underlying3 Tryz.underlying37) rfl rfl rfl <| J_slot (t := 181) (v := .int .u32 ((ac : Int) + (i : Int))) rfl (by rw [wrap32u_of (by omega)]) <| L_op <| G_on rfl rfl rfl <| J_pur (p_neq rfl rfl) rfl rfl rfl ?_
                refine J_bool (t := 182) (c := false) rfl (by simp [deedC]) <| L_pur rfl (p_pick_f rfl rfl) <| mv rfl rfl <| J_bool (t := 184) (c := false) rfl (rfl) <| L_op <| G_on rfl rfl rfl <| J_pur (p_move rfl) rfl rfl rfl <| L_op <| G_on rfl rfl rfl ?_
                refine J_pur (p_move rfl) rfl rfl rfl <| L_op <| G_on rfl rfl rfl <| J_pur (p_indexAddr rfl rfl Tryz.underlying44 ty50 (by omega) (by omega)) rfl rfl rfl <| L_op <| G_on rfl rfl rfl <| J_pur (p_fieldAddr rfl fa50_5) rfl rfl rfl <| L_op <| G_on rfl rfl rfl ?_
                refine J_val (by first | exact v_loadF rfl ty4 HS (by first | (simp only [Int.toNat_natCast, List.getElem?_map, hcc]; rfl) | (simp only [Int.toNat_natCast, List.getElem?_map, hcd]; rfl) | simp | rfl) (by exact rfl) | exact v_loadRF rfl ty4 (fun w H => hr.old HS H) (by first | (simp only [Int.toNat_natCast, List.getElem?_map, hcc]; rfl) | (simp only [Int.toNat_natCast, List.getElem?_map, hcd]; rfl) | simp | rfl) (by exact rfl)) rfl rfl rfl ?_
                refine L_pur rfl (p_pick_f rfl rfl) <| nq <| J_bool (t := 190) (c := false) rfl (rfl) <| C_false rfl <| J_skip <| Q_blk_normal <| qr <| mv rfl rfl ?_
                refine L_pur rfl (p_add64 rfl rfl (by omega)) <| ag rfl rfl <| nq ?_
                exact J_again (i + 1) (by omega) (by omega) SU KE
            ·
              refine J_exit <| Q_then_exit <| Q_then_exit <| Q_blk_this <| qx <| mv rfl rfl <| ag rfl rfl <| nq ?_
              refine J_ret ?_
              exact J_return (()) Tryz.results3 (.tmp rfl .nil) rfl SU

theorem dec_Bo {x : List Value} (h0 : Shape [.bool] x) : ∃ d : Bool, x = encBo d ∧ True := by
  obtain ⟨_, _, rfl, ⟨a0, rfl⟩, h1⟩ := h0.cons_inv
  rw [h1.nil_inv]; exact ⟨a0, rfl, trivial⟩

end Go.Pse
