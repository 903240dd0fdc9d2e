/-
  The law on what is gone, walked.
-/
import Derived.Test.YtkdifbmjhkfgoaaGreatC17
namespace Go.Pse
open Go.RowKit Go.Proofs

/-- What there is at first, of two threads with three units each. -/
structure Two (K : KS) (sh : Bool) (g : NewG) : Prop where
  mp : K.mp = [((3, 0), (5, 3)), ((3, 1), (6, 3)), ((13, 0), (15, 3)), ((13, 1), (16, 3))]
  q : K.q = [(2, 4), (12, 4)]
  th : K.th = [(2, thOf 1), (12, thOf 11)]
  rg : K.rg = [(4, (g.bs 0).1, rgNew 5 6 0 0), (14, (g.bs 1).1, rgNew 15 16 0 0)]
  rp : K.rp = [(7, (g.bs 0).2, (0, 0), false), (17, (g.bs 1).2, (0, 0), false)]
  be : look K.be 4 = if sh then some (22, 1) else none
  nt : look (ptrs K.nt) 22 = if sh then some g.bn else none
  ep : look (ptrs K.ep) 21 = if sh then some g.be else none
set_option maxRecDepth 100000 in
theorem two_is (sh : Bool) (g : NewG) : Two (kNew 2 3 0 0 sh g) sh g := by
  cases sh <;> exact ⟨rfl, rfl, rfl, rfl, rfl, rfl, rfl, rfl⟩
set_option maxRecDepth 100000 in
set_option maxHeartbeats 4000000 in
theorem coreGone {E W : World} (z : Int) (sh : Bool) :
  Con Tryz.prog 4 #[.int .i64 z, .bool sh] E [old W] (fun _ : Unit => .bool true) (fun _ => [old W]) := by
 refine Con.body (vs := [.int .i64 z, .bool sh]) (n := 224) Tryz.func4 rfl rfl [(0, .int .i64 z), (1, .bool sh)] (env_ok 2 rfl) <| sr <| ag rfl rfl <| nx <| L_op <| x_call Tryz.func6 nm6 bd6 .nil rfl (first23) fun _ => ag rfl rfl <| nxx ?_
 refine mv rfl rfl <| L_pur rfl (p_not rfl) <| nq <| J_bool (t := 22) (c := false) rfl (rfl) <| C_false rfl <| J_skip <| qx <| mv rfl rfl ?_
 refine L_pur rfl (bld25 (.cons rfl (.cons rfl (.cons rfl .nil))) (by repeat constructor)) <| J_slot (t := 24) (v := .agg (encG 2 3 0 0 sh).toArray) rfl rfl <| L_op <| x_call Tryz.func8 nm8 bd8 (.cons rfl .nil) rfl (coNew (ct := 2) (cu := 3) (cs := 0) (cc := 0) (sh := sh)) fun g => ?_
 have hT := two_is sh g
 obtain ⟨K, hK⟩ : ∃ K, K = kNew 2 3 0 0 sh g := ⟨_, rfl⟩
 rw [← hK] at hT
 refine J_pick (A := coA g.p _) PC ?_
 refine J_asTo (B := coA g.p K) (by rw [hK]) <| ag rfl rfl <| nxx <| mv rfl rfl <| L_pur rfl (p_eqNilPtr Tryz.underlying30 rfl) <| mv rfl rfl <| J_bool (t := 28) (c := false) rfl (rfl) <| L_op <| G_on rfl rfl rfl ?_
 refine J_pur (p_move rfl) rfl rfl rfl <| L_op <| G_on rfl rfl rfl <| x_call Tryz.func21 nm21 bd21 (.cons rfl .nil) rfl (coMaps) fun _ => L_op <| G_on rfl rfl rfl <| J_pur (p_eqNilPtr Tryz.underlying59 rfl) rfl rfl rfl <| L_pur rfl (p_pick_f rfl rfl) ?_
 refine mv rfl rfl <| J_bool (t := 33) (c := false) rfl (rfl) <| L_op <| G_on rfl rfl rfl <| J_pur (p_move rfl) rfl rfl rfl <| L_op <| G_on rfl rfl rfl <| x_call Tryz.func13 nm13 bd13 (.cons rfl .nil) rfl (coQueue) fun _ => ?_
 refine L_op <| G_on rfl rfl rfl <| J_pur (p_eqNilPtr Tryz.underlying37 rfl) rfl rfl rfl <| L_pur rfl (p_pick_f rfl rfl) <| nq <| J_bool (t := 37) (c := false) rfl (rfl) <| C_false rfl <| J_skip ?_
 refine qx <| mv rfl rfl <| L_op <| x_call Tryz.func25 nm25 bd25 (.cons rfl (.cons rfl .nil)) rfl (number (by omega) (by omega)) fun _ => ?_
 obtain ⟨k, hk⟩ : ∃ k, k = num z (6 : Nat) := ⟨_, rfl⟩
 have hk6 : k < 6 := by rw [hk]; exact num_lt' (by omega)
 refine J_slot (t := 39) (v := .int .i64 (k : Int)) rfl (by rw [hk]; rfl) <| ag rfl rfl <| nxx <| mv rfl rfl <| nq <| J_block <| sr <| L_pur rfl (p_eql rfl rfl) ?_
 refine ag rfl rfl <| nq ?_
 refine C_dec rfl (fun h41 => ?_) (fun h41 => ?_)
 ·
  refine sr <| mv rfl rfl <| L_pur rfl (bld70 (.cons rfl (.cons rfl .nil)) (by repeat constructor)) <| J_slot (t := 44) (v := .agg (encI (3, 5)).toArray) rfl rfl <| L_op <| x_call Tryz.func26 nm26 bd26 (.cons rfl (.cons rfl .nil)) rfl (coGone (s := K) (k := 3) (u := 5) PC (by rw [hT.q]; decide) (by rw [hT.mp]; decide)) fun _ => ?_
  refine nx <| mv rfl rfl <| L_op <| x_call Tryz.func21 nm21 bd21 (.cons rfl .nil) rfl (coMaps) fun _ => L_pur rfl (bld63 (.cons rfl (.cons rfl .nil)) (by repeat constructor)) <| J_slot (t := 49) (v := .agg (encI (3, 0)).toArray) rfl rfl <| L_op <| x_call Tryz.func22 nm22 bd22 (.cons rfl (.cons rfl .nil)) rfl (coSpGet (s := (kGone K 3 5)) (a := (3, 0)) PC) fun _ => ?_
  refine J_slot (t := 50) (v := .tuple #[.agg (encI ((look (kGone K 3 5).mp (3, 0)).getD (0, 0))).toArray, .bool false]) rfl (by rw [show look (kGone K 3 5).mp (3, 0) = none from by rw [show (kGone K 3 5).mp = K.mp.filter (fun e => !decide (e.2.1 = 5)) from rfl, hT.mp]; rfl]; rfl) <| mv rfl rfl <| L_pur rfl (p_extract rfl rfl) <| L_pur rfl (p_extract rfl rfl) <| L_op <| x_alloc ty57 rfl fun b8 => L_op <| x_store rfl rfl ty57 rfl SM SM RO PT ?_
  refine ag rfl rfl <| nx <| mv rfl rfl <| L_op <| x_call Tryz.func21 nm21 bd21 (.cons rfl .nil) rfl (coMaps) fun _ => L_pur rfl (bld63 (.cons rfl (.cons rfl .nil)) (by repeat constructor)) <| J_slot (t := 56) (v := .agg (encI (3, 1)).toArray) rfl rfl <| L_op <| x_call Tryz.func22 nm22 bd22 (.cons rfl (.cons rfl .nil)) rfl (coSpGet (s := (kGone K 3 5)) (a := (3, 1)) PC) fun _ => ?_
  refine J_slot (t := 57) (v := .tuple #[.agg (encI ((look (kGone K 3 5).mp (3, 1)).getD (0, 0))).toArray, .bool true]) rfl (by rw [show look (kGone K 3 5).mp (3, 1) = some (6, 3) from by rw [show (kGone K 3 5).mp = K.mp.filter (fun e => !decide (e.2.1 = 5)) from rfl, hT.mp]; rfl]; rfl) <| mv rfl rfl <| L_pur rfl (p_extract rfl rfl) <| L_pur rfl (p_extract rfl rfl) <| L_op <| x_alloc ty57 rfl fun b10 => L_op <| x_store rfl rfl ty57 rfl SM SM RO PT ?_
  refine ag rfl rfl <| nx <| mv rfl rfl <| mv rfl rfl <| J_bool (t := 61) (c := true) rfl (rfl) <| L_op <| G_on rfl rfl rfl <| J_pur (p_move rfl) rfl rfl rfl ?_
  refine L_op <| G_on rfl rfl rfl <| J_pur (p_not rfl) rfl rfl rfl <| L_pur rfl (p_pick_t rfl rfl) <| mv rfl rfl <| J_bool (t := 65) (c := true) rfl (rfl) <| L_op <| G_on rfl rfl rfl ?_
  refine J_pur (p_move rfl) rfl rfl rfl <| L_pur rfl (p_pick_t rfl rfl) <| mv rfl rfl <| J_bool (t := 68) (c := true) rfl (rfl) <| L_op <| G_on rfl rfl rfl <| J_pur (p_move rfl) rfl rfl rfl <| L_op <| G_on rfl rfl rfl ?_
  refine x_call Tryz.func19 nm19 bd19 (.cons rfl (.cons rfl .nil)) rfl (coRing (s := (kGone K 3 5)) (u := 4) PC) fun _ => ?_
  refine J_slot (t := 70) (v := .pointer (some ⟨(g.bs 0).1, 0, none⟩)) rfl (by rw [show look (ptrs (kGone K 3 5).rg) 4 = some (g.bs 0).1 from by rw [show (kGone K 3 5).rg = K.rg from rfl, hT.rg]; rfl]; rfl) <| L_op <| G_on rfl rfl rfl <| J_pur (p_neNilPtr Tryz.underlying52 rfl) rfl rfl rfl <| L_pur rfl (p_pick_t rfl rfl) <| mv rfl rfl <| J_bool (t := 73) (c := true) rfl (rfl) <| L_op <| G_on rfl rfl rfl ?_
  refine J_pur (p_move rfl) rfl rfl rfl <| L_op <| G_on rfl rfl rfl <| x_call Tryz.func21 nm21 bd21 (.cons rfl .nil) rfl (coMaps) fun _ => L_op <| G_on rfl rfl rfl <| x_call Tryz.func27 nm27 bd27 (.cons rfl .nil) rfl (coSpAll (s := (kGone K 3 5)) PC (by rw [show (kGone K 3 5).mp = K.mp.filter (fun e => !decide (e.2.1 = 5)) from rfl, hT.mp]; decide)) <| JE ((sortP ((kGone K 3 5).mp.map Prod.fst)).map encI) (by rfl) fun a76 c76 hw76 hl76 hm76 hz76 => ?_
  refine L_op <| G_on rfl rfl rfl <| J_pur (p_len rfl Tryz.underlying71) rfl rfl rfl <| L_op <| G_on rfl rfl rfl <| J_pur (p_eql rfl rfl) rfl rfl rfl <| J_bool (t := 78) (c := true) rfl (by rw [List.length_map, sortP_len, show (kGone K 3 5).mp = K.mp.filter (fun e => !decide (e.2.1 = 5)) from rfl, hT.mp]; rfl) <| L_pur rfl (p_pick_t rfl rfl) ?_
  refine ag rfl rfl <| nq <| J_ret <| Q_blk_ret <| Q_then_ret ?_
  exact J_return (()) Tryz.results4 (.tmp rfl .nil) rfl SU
 ·
  refine sr <| L_pur rfl (p_eql rfl rfl) <| ag rfl rfl <| nq ?_
  refine C_dec rfl (fun h80 => ?_) (fun h80 => ?_)
  ·
   refine sr <| mv rfl rfl <| L_pur rfl (bld70 (.cons rfl (.cons rfl .nil)) (by repeat constructor)) <| J_slot (t := 83) (v := .agg (encI (8, 3)).toArray) rfl rfl <| L_op <| x_call Tryz.func26 nm26 bd26 (.cons rfl (.cons rfl .nil)) rfl (coGone (s := K) (k := 8) (u := 3) PC (by rw [hT.q]; decide) (by rw [hT.mp]; decide)) fun _ => ?_
   refine nx <| mv rfl rfl <| mv rfl rfl <| J_bool (t := 86) (c := true) rfl (rfl) <| L_op <| G_on rfl rfl rfl <| J_pur (p_move rfl) rfl rfl rfl <| L_op <| G_on rfl rfl rfl ?_
   refine x_call Tryz.func21 nm21 bd21 (.cons rfl .nil) rfl (coMaps) fun _ => L_op <| G_on rfl rfl rfl <| x_call Tryz.func27 nm27 bd27 (.cons rfl .nil) rfl (coSpAll (s := (kGone K 8 3)) PC (by rw [show (kGone K 8 3).mp = K.mp.filter (fun e => !decide (e.1.1 = 3)) from rfl, hT.mp]; decide)) <| JE ((sortP ((kGone K 8 3).mp.map Prod.fst)).map encI) (by rfl) fun a89 c89 hw89 hl89 hm89 hz89 => L_op <| G_on rfl rfl rfl <| J_pur (p_len rfl Tryz.underlying71) rfl rfl rfl ?_
   refine L_op <| G_on rfl rfl rfl <| J_pur (p_eql rfl rfl) rfl rfl rfl <| J_bool (t := 91) (c := true) rfl (by rw [List.length_map, sortP_len, show (kGone K 8 3).mp = K.mp.filter (fun e => !decide (e.1.1 = 3)) from rfl, hT.mp]; rfl) <| L_pur rfl (p_pick_t rfl rfl) <| ag rfl rfl <| nq <| J_ret ?_
   refine Q_blk_ret <| Q_then_ret ?_
   exact J_return (()) Tryz.results4 (.tmp rfl .nil) rfl SU
  ·
   refine sr <| L_pur rfl (p_eql rfl rfl) <| ag rfl rfl <| nq ?_
   refine C_dec rfl (fun h93 => ?_) (fun h93 => ?_)
   ·
    refine sr <| mv rfl rfl <| L_pur rfl (bld70 (.cons rfl (.cons rfl .nil)) (by repeat constructor)) <| J_slot (t := 96) (v := .agg (encI (6, 2)).toArray) rfl rfl <| L_op <| x_call Tryz.func26 nm26 bd26 (.cons rfl (.cons rfl .nil)) rfl (coGone (s := K) (k := 6) (u := 2) PC (by rw [hT.q]; decide) (by rw [hT.mp]; decide)) fun _ => ?_
    have hth : (kGone K 6 2).th = [(12, thOf 11)] := by rw [show (kGone K 6 2).th = del K.th 2 from rfl, hT.th]; rfl
    have hq : (kGone K 6 2).q = [(12, 4)] := by rw [show (kGone K 6 2).q = qRem K.q 2 from rfl, hT.q]; rfl
    refine nx <| mv rfl rfl <| L_op <| x_call Tryz.func17 nm17 bd17 (.cons rfl (.cons rfl .nil)) rfl (coThr (s := (kGone K 6 2)) (u := 2) PC) fun _ => ?_
    refine J_slot (t := 100) (v := .tuple #[evT t0, .bool false]) rfl (by rw [hth]; rfl) <| mv rfl rfl <| L_pur rfl (p_extract rfl rfl) <| L_pur rfl (p_extract rfl rfl) <| L_op <| x_alloc ty47 rfl fun b12 => L_op <| x_store rfl rfl ty47 rfl SM SM RO PT ?_
    refine ag rfl rfl <| nx <| mv rfl rfl <| L_op <| x_call Tryz.func13 nm13 bd13 (.cons rfl .nil) rfl (coQueue) fun _ => L_op <| x_call Tryz.func18 nm18 bd18 (.cons rfl (.cons rfl .nil)) rfl (coPrio (s := (kGone K 6 2)) (i := 2) PC (by rw [hq]; decide)) fun _ => ?_
    refine J_slot (t := 106) (v := .tuple #[.int .i64 0, .bool false]) rfl (by rw [hq]; rfl) <| mv rfl rfl <| L_pur rfl (p_extract rfl rfl) <| L_pur rfl (p_extract rfl rfl) <| ag rfl rfl <| ag rfl rfl <| nx <| mv rfl rfl ?_
    refine L_op <| x_call Tryz.func23 nm23 bd23 (.cons rfl (.cons rfl .nil)) rfl (coOwner (s := (kGone K 6 2)) (r := 4) PC) fun x111 => ?_
    refine J_pure fun hown => ?_
    obtain rfl : x111 = none := by
     cases x111 with
     | none => rfl
     | some t =>
      obtain ⟨k9, h9, h10⟩ := hown
      have h11 := mem_look h9
      rw [hth] at h11
      obtain ⟨rfl, rfl⟩ : k9 = 12 ∧ t = thOf 11 := by simpa using h11
      cases h10
    refine J_slot (t := 111) (v := .tuple #[evT t0, .bool false]) rfl rfl <| mv rfl rfl <| L_pur rfl (p_extract rfl rfl) <| L_pur rfl (p_extract rfl rfl) <| L_op <| x_alloc ty47 rfl fun b16 => L_op <| x_store rfl rfl ty47 rfl SM SM RO PT ?_
    refine ag rfl rfl <| nx <| mv rfl rfl <| mv rfl rfl <| J_bool (t := 115) (c := true) rfl (rfl) <| L_op <| G_on rfl rfl rfl <| J_pur (p_move rfl) rfl rfl rfl ?_
    refine L_op <| G_on rfl rfl rfl <| J_pur (p_not rfl) rfl rfl rfl <| L_pur rfl (p_pick_t rfl rfl) <| mv rfl rfl <| J_bool (t := 119) (c := true) rfl (rfl) <| L_op <| G_on rfl rfl rfl ?_
    refine J_pur (p_move rfl) rfl rfl rfl <| L_op <| G_on rfl rfl rfl <| J_pur (p_not rfl) rfl rfl rfl <| L_pur rfl (p_pick_t rfl rfl) <| mv rfl rfl <| J_bool (t := 123) (c := true) rfl (rfl) <| L_op <| G_on rfl rfl rfl ?_
    refine J_pur (p_move rfl) rfl rfl rfl <| L_op <| G_on rfl rfl rfl <| J_pur (p_not rfl) rfl rfl rfl <| L_pur rfl (p_pick_t rfl rfl) <| mv rfl rfl <| J_bool (t := 127) (c := true) rfl (rfl) <| L_op <| G_on rfl rfl rfl ?_
    refine J_pur (p_move rfl) rfl rfl rfl <| L_op <| G_on rfl rfl rfl <| x_call Tryz.func11 nm11 bd11 (.cons rfl .nil) rfl (coThreads (s := (kGone K 6 2)) PC (by rw [hth]; decide)) <| JE ((sortZ ((kGone K 6 2).th.map Prod.fst)).map encN) (by rfl) fun a129 c129 hw129 hl129 hm129 hz129 => L_op <| G_on rfl rfl rfl <| J_pur (p_len rfl Tryz.underlying22) rfl rfl rfl ?_
    refine L_op <| G_on rfl rfl rfl <| J_pur (p_eql rfl rfl) rfl rfl rfl <| J_bool (t := 131) (c := true) rfl (by rw [List.length_map, sortZ_len, hth]; rfl) <| L_pur rfl (p_pick_t rfl rfl) <| mv rfl rfl <| J_bool (t := 133) (c := true) rfl (rfl) <| L_op <| G_on rfl rfl rfl ?_
    refine J_pur (p_move rfl) rfl rfl rfl <| L_op <| G_on rfl rfl rfl <| x_call Tryz.func19 nm19 bd19 (.cons rfl (.cons rfl .nil)) rfl (coRing (s := (kGone K 6 2)) (u := 4) PC) fun _ => ?_
    refine J_slot (t := 135) (v := .pointer (some ⟨(g.bs 0).1, 0, none⟩)) rfl (by rw [show look (ptrs (kGone K 6 2).rg) 4 = some (g.bs 0).1 from by rw [show (kGone K 6 2).rg = K.rg from rfl, hT.rg]; rfl]; rfl) <| L_op <| G_on rfl rfl rfl <| J_pur (p_neNilPtr Tryz.underlying52 rfl) rfl rfl rfl <| L_pur rfl (p_pick_t rfl rfl) <| mv rfl rfl <| J_bool (t := 138) (c := true) rfl (rfl) <| L_op <| G_on rfl rfl rfl ?_
    refine J_pur (p_move rfl) rfl rfl rfl <| L_op <| G_on rfl rfl rfl <| x_call Tryz.func28 nm28 bd28 (.cons rfl (.cons rfl .nil)) rfl (coGo (s := (kGone K 6 2)) (t := 2) PC (by rw [hq]; decide)) fun _ => ?_
    refine J_bool (t := 140) (c := false) rfl (by unfold kGoOk; rw [hth]; rfl) <| L_op <| G_on rfl rfl rfl <| J_pur (p_not rfl) rfl rfl rfl <| L_pur rfl (p_pick_t rfl rfl) <| ag rfl rfl <| nq <| J_ret ?_
    refine Q_blk_ret <| Q_then_ret ?_
    exact J_return (()) Tryz.results4 (.tmp rfl .nil) rfl SU
   ·
    refine sr <| L_pur rfl (p_eql rfl rfl) <| ag rfl rfl <| nq ?_
    refine C_dec rfl (fun h143 => ?_) (fun h143 => ?_)
    ·
     refine sr <| mv rfl rfl <| L_pur rfl (bld70 (.cons rfl (.cons rfl .nil)) (by repeat constructor)) <| J_slot (t := 146) (v := .agg (encI (9, 4)).toArray) rfl rfl <| L_op <| x_call Tryz.func26 nm26 bd26 (.cons rfl (.cons rfl .nil)) rfl (coGone (s := K) (k := 9) (u := 4) PC (by rw [hT.q]; decide) (by rw [hT.mp]; decide)) fun _ => ?_
     have hrg : (kGone K 9 4).rg = [(14, (g.bs 1).1, rgNew 15 16 0 0)] := by rw [show (kGone K 9 4).rg = rem K.rg 4 from rfl, hT.rg]; rfl
     have hth : (kGone K 9 4).th = [(2, thOf 1), (12, thOf 11)] := by rw [show (kGone K 9 4).th = K.th from rfl, hT.th]
     refine nx <| mv rfl rfl <| mv rfl rfl <| J_bool (t := 149) (c := true) rfl (rfl) <| L_op <| G_on rfl rfl rfl <| J_pur (p_move rfl) rfl rfl rfl <| L_op <| G_on rfl rfl rfl ?_
     refine x_call Tryz.func19 nm19 bd19 (.cons rfl (.cons rfl .nil)) rfl (coRing (s := (kGone K 9 4)) (u := 4) PC) fun _ => ?_
     refine J_slot (t := 151) (v := .pointer none) rfl (by rw [hrg]; rfl) <| L_op <| G_on rfl rfl rfl <| J_pur (p_eqNilPtr Tryz.underlying52 rfl) rfl rfl rfl <| L_pur rfl (p_pick_t rfl rfl) <| mv rfl rfl <| J_bool (t := 154) (c := true) rfl (rfl) <| L_op <| G_on rfl rfl rfl ?_
     refine J_pur (p_move rfl) rfl rfl rfl <| L_op <| G_on rfl rfl rfl <| x_call Tryz.func12 nm12 bd12 (.cons rfl .nil) rfl (coRings (s := (kGone K 9 4)) PC (by rw [hrg]; simp)) <| JE ((sortZ ((kGone K 9 4).rg.map Prod.fst)).map encN) (by rfl) fun a156 c156 hw156 hl156 hm156 hz156 => L_op <| G_on rfl rfl rfl <| J_pur (p_len rfl Tryz.underlying22) rfl rfl rfl ?_
     refine L_op <| G_on rfl rfl rfl <| J_pur (p_eql rfl rfl) rfl rfl rfl <| J_bool (t := 158) (c := true) rfl (by rw [List.length_map, sortZ_len, hrg]; rfl) <| L_pur rfl (p_pick_t rfl rfl) <| mv rfl rfl <| J_bool (t := 160) (c := true) rfl (rfl) <| L_op <| G_on rfl rfl rfl ?_
     refine J_pur (p_move rfl) rfl rfl rfl <| L_op <| G_on rfl rfl rfl <| x_call Tryz.func11 nm11 bd11 (.cons rfl .nil) rfl (coThreads (s := (kGone K 9 4)) PC (by rw [hth]; decide)) <| JE ((sortZ ((kGone K 9 4).th.map Prod.fst)).map encN) (by rfl) fun a162 c162 hw162 hl162 hm162 hz162 => L_op <| G_on rfl rfl rfl <| J_pur (p_len rfl Tryz.underlying22) rfl rfl rfl ?_
     refine L_op <| G_on rfl rfl rfl <| J_pur (p_eql rfl rfl) rfl rfl rfl <| J_bool (t := 164) (c := true) rfl (by rw [List.length_map, sortZ_len, hth]; rfl) <| L_pur rfl (p_pick_t rfl rfl) <| ag rfl rfl <| nq <| J_ret ?_
     refine Q_blk_ret <| Q_then_ret ?_
     exact J_return (()) Tryz.results4 (.tmp rfl .nil) rfl SU
    ·
     refine sr <| L_pur rfl (p_eql rfl rfl) <| ag rfl rfl <| nq ?_
     refine C_dec rfl (fun h166 => ?_) (fun h166 => ?_)
     ·
      refine sr <| mv rfl rfl <| L_pur rfl (bld70 (.cons rfl (.cons rfl .nil)) (by repeat constructor)) <| J_slot (t := 169) (v := .agg (encI (7, 7)).toArray) rfl rfl <| L_op <| x_call Tryz.func26 nm26 bd26 (.cons rfl (.cons rfl .nil)) rfl (coGone (s := K) (k := 7) (u := 7) PC (by rw [hT.q]; decide) (by rw [hT.mp]; decide)) fun _ => ?_
      have hrp : (kGone K 7 7).rp = [(17, (g.bs 1).2, (0, 0), false)] := by rw [show (kGone K 7 7).rp = rem K.rp 7 from rfl, hT.rp]; rfl
      refine nx <| mv rfl rfl <| mv rfl rfl <| J_bool (t := 172) (c := true) rfl (rfl) <| L_op <| G_on rfl rfl rfl <| J_pur (p_move rfl) rfl rfl rfl <| L_op <| G_on rfl rfl rfl ?_
      refine x_call Tryz.func29 nm29 bd29 (.cons rfl (.cons rfl .nil)) rfl (coReply (s := (kGone K 7 7)) (u := 7) PC) fun _ => ?_
      refine J_slot (t := 174) (v := .pointer none) rfl (by rw [hrp]; rfl) <| L_op <| G_on rfl rfl rfl <| J_pur (p_eqNilPtr Tryz.underlying74 rfl) rfl rfl rfl <| L_pur rfl (p_pick_t rfl rfl) <| mv rfl rfl <| J_bool (t := 177) (c := true) rfl (rfl) <| L_op <| G_on rfl rfl rfl ?_
      refine J_pur (p_move rfl) rfl rfl rfl <| L_op <| G_on rfl rfl rfl <| x_call Tryz.func29 nm29 bd29 (.cons rfl (.cons rfl .nil)) rfl (coReply (s := (kGone K 7 7)) (u := 17) PC) fun _ => ?_
      refine J_slot (t := 179) (v := .pointer (some ⟨(g.bs 1).2, 0, none⟩)) rfl (by rw [hrp]; rfl) <| L_op <| G_on rfl rfl rfl <| J_pur (p_neNilPtr Tryz.underlying74 rfl) rfl rfl rfl <| L_pur rfl (p_pick_t rfl rfl) <| ag rfl rfl <| nq <| J_ret ?_
      refine Q_blk_ret <| Q_then_ret ?_
      exact J_return (()) Tryz.results4 (.tmp rfl .nil) rfl SU
     ·
      refine J_skip <| Q_blk_normal <| qx <| mv rfl rfl <| L_pur rfl (bld70 (.cons rfl (.cons rfl .nil)) (by repeat constructor)) <| J_slot (t := 183) (v := .agg (encI (2, 1)).toArray) rfl rfl <| L_op <| x_call Tryz.func26 nm26 bd26 (.cons rfl (.cons rfl .nil)) rfl (coGone (s := K) (k := 2) (u := 1) PC (by rw [hT.q]; decide) (by rw [hT.mp]; decide)) fun _ => ?_
      refine J_pick (A := coA g.p _) PC ?_
      refine J_asTo (B := coA g.p K) (by rfl) <| nx <| mv rfl rfl <| L_op <| x_call Tryz.func30 nm30 bd30 (.cons rfl (.cons rfl .nil)) rfl (coBell (s := K) (u := 4) PC) fun _ => ?_
      refine mv rfl rfl <| L_pur rfl (p_extract rfl rfl) <| L_pur rfl (p_extract rfl rfl) <| ag rfl rfl <| ag rfl rfl <| nxx <| mv rfl rfl <| nq ?_
      refine C_split rfl (fun h190 => ?_) (fun h190 => ?_)
      ·
       obtain rfl : sh = true := h190
       refine sr <| mv rfl rfl <| mv rfl rfl <| J_bool (t := 192) (c := true) rfl (rfl) <| L_op <| G_on rfl rfl rfl <| J_pur (p_move rfl) rfl rfl rfl <| L_op <| G_on rfl rfl rfl ?_
       refine J_pur (p_eql rfl rfl) rfl rfl rfl <| L_pur rfl (p_pick_t rfl rfl) <| mv rfl rfl <| J_bool (t := 196) (c := true) rfl (by rw [hT.be]; rfl) <| L_op <| G_on rfl rfl rfl <| J_pur (p_move rfl) rfl rfl rfl <| L_op <| G_on rfl rfl rfl ?_
       refine J_pur (p_eql rfl rfl) rfl rfl rfl <| L_pur rfl (p_pick_t rfl rfl) <| mv rfl rfl <| J_bool (t := 200) (c := true) rfl (by rw [hT.be]; rfl) <| L_op <| G_on rfl rfl rfl <| J_pur (p_move rfl) rfl rfl rfl <| L_op <| G_on rfl rfl rfl ?_
       refine x_call Tryz.func31 nm31 bd31 (.cons rfl (.cons rfl .nil)) rfl (coNotif (s := K) (u := 22) PC) fun _ => ?_
       refine J_slot (t := 202) (v := .pointer (some ⟨g.bn, 0, none⟩)) rfl (by rw [hT.nt]; rfl) <| L_op <| G_on rfl rfl rfl <| J_pur (p_neNilPtr Tryz.underlying79 rfl) rfl rfl rfl <| L_pur rfl (p_pick_t rfl rfl) <| mv rfl rfl <| J_bool (t := 205) (c := true) rfl (rfl) <| L_op <| G_on rfl rfl rfl ?_
       refine J_pur (p_move rfl) rfl rfl rfl <| L_op <| G_on rfl rfl rfl <| x_call Tryz.func32 nm32 bd32 (.cons rfl (.cons rfl .nil)) rfl (coEp (s := K) (u := 21) PC) fun _ => ?_
       refine J_slot (t := 207) (v := .pointer (some ⟨g.be, 0, none⟩)) rfl (by rw [hT.ep]; rfl) <| L_op <| G_on rfl rfl rfl <| J_pur (p_neNilPtr Tryz.underlying81 rfl) rfl rfl rfl <| L_pur rfl (p_pick_t rfl rfl) <| ag rfl rfl <| nq <| J_ret ?_
       refine Q_then_ret ?_
       exact J_return (()) Tryz.results4 (.tmp rfl .nil) rfl SU
      ·
       obtain rfl : sh = false := h190
       refine J_skip <| qx <| mv rfl rfl <| mv rfl rfl <| J_bool (t := 211) (c := true) rfl (rfl) <| L_op <| G_on rfl rfl rfl <| J_pur (p_move rfl) rfl rfl rfl ?_
       refine L_op <| G_on rfl rfl rfl <| J_pur (p_eql rfl rfl) rfl rfl rfl <| L_pur rfl (p_pick_t rfl rfl) <| mv rfl rfl <| J_bool (t := 215) (c := true) rfl (by rw [hT.be]; rfl) <| L_op <| G_on rfl rfl rfl ?_
       refine J_pur (p_move rfl) rfl rfl rfl <| L_op <| G_on rfl rfl rfl <| J_pur (p_eql rfl rfl) rfl rfl rfl <| L_pur rfl (p_pick_t rfl rfl) <| mv rfl rfl <| J_bool (t := 219) (c := true) rfl (by rw [hT.be]; rfl) <| L_op <| G_on rfl rfl rfl ?_
       refine J_pur (p_move rfl) rfl rfl rfl <| L_op <| G_on rfl rfl rfl <| x_call Tryz.func31 nm31 bd31 (.cons rfl (.cons rfl .nil)) rfl (coNotif (s := K) (u := 22) PC) fun _ => ?_
       refine J_slot (t := 221) (v := .pointer none) rfl (by rw [hT.nt]; rfl) <| L_op <| G_on rfl rfl rfl <| J_pur (p_eqNilPtr Tryz.underlying79 rfl) rfl rfl rfl <| L_pur rfl (p_pick_t rfl rfl) <| ag rfl rfl <| nq <| J_ret ?_
       exact J_return (()) Tryz.results4 (.tmp rfl .nil) rfl SU

end Go.Pse
