/-
  The law on bells, walked.
-/
import Derived.Test.YthjbhkaokjdhmaaGreatC29
namespace Go.Pse
open Go.RowKit Go.Proofs

/-! ### plain: an end rings the bell -/
def r14 : Rq := ⟨(14, 1), ⟨15, 0, 50, 0, 0, 0, 0, 0⟩, 0, false, true⟩
def rtB (n : Nat) : List (ID × Rq) := rtW n ++ [((14, 1), r14)]
theorem rtB_mem {n : Nat} {e : ID × Rq} (h : e ∈ rtB n) : (∃ k : Nat, k < n ∧ e = ((4, (k : Int) + 1), rqW k)) ∨ e = ((14, 1), r14) := by
  rcases List.mem_append.1 h with h | h
  · exact .inl (rtW_mem.1 h)
  · exact .inr (List.mem_singleton.1 h)
theorem rtB_ids (n : Nat) : Ids (rtB n) := fun e he => by
  rcases rtB_mem he with ⟨k, _, rfl⟩ | rfl <;> rfl
theorem rtB_len (n : Nat) : (rtB n).length = n + 1 := by simp [rtB, rtW_len]
theorem rtB_prev {n : Nat} {e : ID × Rq} (h : e ∈ rtB n) : e.2.prev = 0 := by
  rcases rtB_mem h with ⟨k, _, rfl⟩ | rfl <;> rfl
theorem rtB_14 (n : Nat) : look (rtB n) (14, 1) = some r14 := by
  unfold rtB
  rw [look_append, rtW_no (.inl (by decide))]; rfl
theorem rtB_4 {n k : Nat} (h : k < n) : look (rtB n) (4, (k : Int) + 1) = some (rqW k) := by
  unfold rtB
  rw [look_append, look_mem (rtW_keyd n) (rtW_mem.2 ⟨k, h, rfl⟩)]; rfl
theorem rtB_add {n : Nat} (h : n ≤ 12) : addOk (rtW n) r14 = true ∧ addQ (rtW n) r14 = rtB n :=
  add_new (ps := rtW n) (q := r14) (rtW_no (.inl (by decide))) (by have := ofQ_len (rtW n) r14.id.1; rw [rtW_len] at this; omega)
def d1 (n : Nat) : Deed := ((4, (n : Int) + 1), (n : Int) + 1, 15, 0, 3, false)
def d2 : Deed := ((14, 1), 50, 15, 0, 1, false)
def SB (K : KS) (g : NewG) (n : Nat) (ws : List ID) : KS := { K with rt := rtB n, nt := [(22, g.bn, 0, ws)] }
theorem SB_fits {K : KS} {g : NewG} (hT : Duo K g) {n : Nat} (hn : n ≤ 12) {ws : List ID} (hw : ws.length ≤ 1) : Fits (SB K g n ws) 20 60 := by
  have h := hT.fits (ps := rtB n) (rtB_ids n) (by rw [rtB_len]; omega)
  exact ⟨h.n, h.mm, h.ids, h.jn, h.tm, h.ep, fun x hx => by
    obtain rfl := List.mem_singleton.1 (show x ∈ [(22, g.bn, 0, ws)] from hx)
    exact ⟨⟨by show (1 : Int) ≤ 22; omega, by show (22 : Int) ≤ 64; omega⟩, by show ws.length ≤ 20; omega⟩, h.rp, h.rg, h.mem⟩
theorem Duo.rdy {K : KS} {g : NewG} (h : Duo K g) : Rdy K 4 6 0 ∧ Rdy K 14 16 0 :=
  ⟨⟨(g.bs 0).1, rgNew 5 6 3 4, by rw [h.rg]; rfl, rfl, rfl, rfl, rfl, by rw [h.mem, rowAt_zero (by omega), getN_zero]⟩, ⟨(g.bs 1).1, rgNew 15 16 3 4, by rw [h.rg]; rfl, rfl, rfl, rfl, rfl, by rw [h.mem, rowAt_zero (by omega), getN_zero]⟩⟩
theorem del_prev {n : Nat} {i : ID} {e : ID × Rq} (h : e ∈ del (rtB n) i) : e.2.prev = 0 := rtB_prev (List.mem_filter.1 h).1
theorem of14 {n k : Nat} : (ofQ (del (rtB n) (4, (k : Int) + 1)) 14).length = 1 := by
  unfold ofQ
  rw [sortF_len]
  unfold ofRing del rtB
  rw [List.filter_append, List.filter_append, List.map_append, List.length_append, List.filter_filter, List.filter_eq_nil_iff.2 (fun e he => by obtain ⟨j, _, rfl⟩ := rtW_mem.1 he; simp)]
  simp
theorem of14_none {n : Nat} {i : ID} : (ofQ (del (del (rtB n) i) (14, 1)) 14).length = 0 := by
  unfold ofQ
  rw [sortF_len]
  unfold ofRing del
  rw [List.filter_filter, List.filter_filter, List.filter_eq_nil_iff.2 (fun e he => by
    rcases rtB_mem he with ⟨k, _, rfl⟩ | rfl <;> simp)]
  rfl
theorem orb_1 : orb 0 1 = 1 := by decide
theorem orb_2 : orb 0 2 = 2 := by decide
/-- What there is behind the first end, at the bell. -/
theorem bell_1 {K : KS} {g : NewG} (hT : Duo K g) {n k f : Nat} (hk : k < n) (hn : n ≤ 12) {ws : List ID} (hw : ws.length ≤ 1) (hws : ldrop ws (4, (k : Int) + 1) = ws) :
    ∃ t : KS, kDec (f + 1) (SB K g n ws) (4, (k : Int) + 1) 0 3 = kNext (kDec f) (kTell (kDec f) t (d1 k)) (4, (k : Int) + 1) 0 ∧ t.rt = del (rtB n) (4, (k : Int) + 1) ∧ t.jn = [] ∧ t.nt = [(22, g.bn, 0, ws)] ∧ t.be = K.be ∧ Rdy t 4 6 0 ∧ Rdy t 14 16 0 ∧ Fits t 20 59 := by
  have hq : look (SB K g n ws).rt (4, (k : Int) + 1) = some (rqW k) := rtB_4 hk
  refine ⟨kForget { SB K g n ws with rt := del (SB K g n ws).rt (4, (k : Int) + 1) } (4, (k : Int) + 1), ?_, rfl, hT.jn, ?_, rfl, ?_, ?_, ((SB_fits hT hn hw).drop hq).forget _⟩
  · rw [kDec_some hq]; rfl
  · show allO _ [(22, g.bn, 0, ws)] = _
    simp only [allO, List.map_cons, List.map_nil, ntD, hws]
  · exact hT.rdy.1
  · exact hT.rdy.2
theorem bell_no {K : KS} {g : NewG} (hT : Duo K g) {n k f : Nat} (hk : k < n) (hn : n ≤ 12) :
    let S := kDec (f + 1) (SB K g n []) (4, (k : Int) + 1) 0 3
    S.jn.length = 1 ∧ look S.nt 22 = some (g.bn, 1, []) ∧ (ofQ S.rt 14).length = 1 := by
  obtain ⟨t, ht, e1, e2, e3, e4, e5, e6, e7⟩ := bell_1 hT (f := f) hk hn (ws := []) (by simp) rfl
  intro S
  have hS : S = kNext (kDec f) (kTell (kDec f) t (d1 k)) (4, (k : Int) + 1) 0 := ht
  rw [kTell_sleeps (d := d1 k) (u := 22) (x := 1) (b := g.bn) (w := 0) (xs := []) (by rw [e4]; exact hT.be4) (by rw [e3]; rfl) (by decide)] at hS
  have hS2 : S = { kSaid t (d1 k) with nt := updO t.nt 22 (ntS 1) } := by
    rw [hS]
    unfold kNext
    rw [afterQ_no (fun e he => by
      have h1 : e ∈ t.rt := by rw [← kSaid_rt (d := d1 k)]; exact he
      rw [e1] at h1
      rw [del_prev h1]; show (0 : Int) ≠ (k : Int) + 1; omega)]
  refine ⟨?_, ?_, ?_⟩
  · rw [hS2]; show (kSaid t (d1 k)).jn.length = 1; rw [kSaid_jn, e2]; rfl
  · rw [hS2]; show look (updO t.nt 22 (ntS 1)) 22 = _; rw [e3, look_updO]; simp [look_cons, ntS, sigW, sigL, woke, orb_1]
  · rw [hS2]; show (ofQ (kSaid t (d1 k)).rt 14).length = 1; rw [kSaid_rt, e1, of14]
theorem bell_yes {K : KS} {g : NewG} (hT : Duo K g) {n k f : Nat} (hk : k < n) (hn : n ≤ 12) :
    let S := kDec (f + 2) (SB K g n [(14, 1)]) (4, (k : Int) + 1) 0 3
    S.jn = [d1 k, d2] ∧ look S.nt 22 = some (g.bn, 2, []) ∧ (ofQ S.rt 14).length = 0 ∧ Rdy S 4 6 1 ∧ Rdy S 14 16 1 := by
  have hne : ldrop [(14, 1)] (4, (k : Int) + 1) = [(14, 1)] := ldrop_no (by simp)
  obtain ⟨t, ht, e1, e2, e3, e4, e5, e6, e7⟩ := bell_1 hT (f := f + 1) hk hn (ws := [(14, 1)]) (by simp) hne
  intro S
  have hS : S = kNext (kDec (f + 1)) (kTell (kDec (f + 1)) t (d1 k)) (4, (k : Int) + 1) 0 := ht
  obtain ⟨t2, ht2⟩ : ∃ t2 : KS, t2 = { kSaid t (d1 k) with nt := updO t.nt 22 (ntS 1) } := ⟨_, rfl⟩
  rw [kTell_wakes (d := d1 k) (u := 22) (x := 1) (b := g.bn) (w := 0) (xs := [(14, 1)]) (by rw [e4]; exact hT.be4) (by rw [e3]; rfl) (by decide), ← ht2] at hS
  have hF2 : Fits t2 20 60 := by rw [ht2, ← kSaid_nt (s := t) (d := d1 k)]; exact (e7.said (by omega) (d1 k)).sig 22 1
  have g1 : t2.rt = del (rtB n) (4, (k : Int) + 1) := by rw [ht2]; show (kSaid t (d1 k)).rt = _; rw [kSaid_rt, e1]
  have g2 : t2.jn = [d1 k] := by rw [ht2]; show (kSaid t (d1 k)).jn = _; rw [kSaid_jn, e2]; rfl
  have g3 : t2.nt = [(22, g.bn, 0, [])] := by rw [ht2]; show updO t.nt 22 (ntS 1) = _; rw [e3]; simp [updO, ntS, sigW, sigL, woke, orb_1]
  have g4 : t2.be = K.be := by rw [ht2]; show (kSaid t (d1 k)).be = _; rw [kSaid_be, e4]
  have g5 : Rdy t2 4 6 1 := by
    rw [ht2]
    exact Rdy.post (e7.jnl (by omega) (d1 k)) (g := 4) (c := 6) (t := 0) e5 (by omega) (d := d1 k) rfl
  have g6 : Rdy t2 14 16 0 := by
    rw [ht2]
    exact Rdy.other (e7.jnl (by omega) (d1 k)) (g := 14) (c := 16) (t := 0) (g2 := 4) (c2 := 6) (t2 := 0) e6 e5 (by omega) (by omega) (d := d1 k) rfl
  have hsI : sigI 0 [(14, 1)] 1 = (14, 1) := by decide
  have hsV : sigV 0 [(14, 1)] 1 = 1 := by decide
  rw [hsI, hsV] at hS
  have hq : look t2.rt (14, 1) = some r14 := by
    rw [g1, look_del, if_neg (by simp), rtB_14]
  obtain ⟨t3, ht3⟩ : ∃ t3 : KS, t3 = kForget { t2 with rt := del t2.rt (14, 1) } (14, 1) := ⟨_, rfl⟩
  have hF3 : Fits t3 20 59 := by rw [ht3]; exact (hF2.drop hq).forget _
  have k1 : t3.rt = del (del (rtB n) (4, (k : Int) + 1)) (14, 1) := by rw [ht3]; show del t2.rt _ = _; rw [g1]
  have k2 : t3.jn = [d1 k] := by rw [ht3]; exact g2
  have k3 : t3.nt = [(22, g.bn, 0, [])] := by rw [ht3]; show allO _ t2.nt = _; rw [g3]; rfl
  have k4 : t3.be = K.be := by rw [ht3]; exact g4
  have k5 : Rdy t3 4 6 1 := by rw [ht3]; exact g5
  have k6 : Rdy t3 14 16 0 := by rw [ht3]; exact g6
  obtain ⟨t4, ht4⟩ : ∃ t4 : KS, t4 = { kSaid t3 d2 with nt := updO t3.nt 22 (ntS 2) } := ⟨_, rfl⟩
  have m1 : t4.rt = del (del (rtB n) (4, (k : Int) + 1)) (14, 1) := by rw [ht4]; show (kSaid t3 d2).rt = _; rw [kSaid_rt, k1]
  have hD : kDec (f + 1) t2 (14, 1) 0 1 = t4 := by
    rw [kDec_some hq, ← ht3, show ((14, 1), r14.e.tag, r14.e.op, 0, 1, false) = d2 from rfl, kTell_sleeps (d := d2) (u := 22) (x := 2) (b := g.bn) (w := 0) (xs := []) (by rw [k4]; exact hT.be14) (by rw [k3]; rfl) (by decide), ← ht4]
    unfold kNext
    rw [afterQ_no (fun e he => by
      rw [m1] at he
      rw [del_prev (List.mem_filter.1 he).1]; decide)]
  rw [hD] at hS
  have hS2 : S = t4 := by
    rw [hS]
    unfold kNext
    rw [afterQ_no (fun e he => by
      rw [m1] at he
      rw [del_prev (List.mem_filter.1 he).1]; show (0 : Int) ≠ (k : Int) + 1; omega)]
  rw [hS2]
  refine ⟨?_, ?_, ?_, ?_, ?_⟩
  · rw [ht4]; show (kSaid t3 d2).jn = _; rw [kSaid_jn, k2]; rfl
  · rw [ht4]; show look (updO t3.nt 22 (ntS 2)) 22 = _; rw [k3, look_updO]; simp [look_cons, ntS, sigW, sigL, woke, orb_2]
  · rw [m1, of14_none]
  · rw [ht4]
    exact Rdy.other (hF3.jnl (by omega) d2) (g := 4) (c := 6) (t := 1) (g2 := 14) (c2 := 16) (t2 := 0) k5 k6 (by omega) (by omega) (d := d2) rfl
  · rw [ht4]
    exact Rdy.post (hF3.jnl (by omega) d2) (g := 14) (c := 16) (t := 0) k6 (by omega) (d := d2) rfl
set_option maxRecDepth 100000 in
set_option maxHeartbeats 4000000 in
theorem decideBell_true {E W : World} {z : Int} :
  Con Tryz.prog 4 #[.int .i64 z, .bool true] E [old W] (fun _ : Unit => .bool true) (fun _ => [old W]) := by
 refine Con.body (vs := [.int .i64 z, .bool true]) (n := 121) Tryz.func4 rfl rfl [(0, .int .i64 z), (1, .bool true)] (env_ok 2 rfl) <| sr <| ag rfl rfl <| nx <| L_op <| x_call Tryz.func7 nm7 bd7 .nil rfl (first24) fun _ => ag rfl rfl <| nxx ?_
 refine mv rfl rfl <| L_pur rfl (p_not rfl) <| nq <| J_bool (t := 10) (c := false) rfl (rfl) <| C_false rfl <| J_skip <| qx <| mv rfl rfl ?_
 refine L_op <| x_call Tryz.func13 nm13 bd13 (.cons rfl (.cons rfl .nil)) rfl (number (by omega) (by omega)) fun _ => ?_
 obtain ⟨k, hk⟩ : ∃ k, k = num z (6 : Nat) := ⟨_, rfl⟩
 have hk6 : k < 6 := by rw [hk]; exact num_lt' (by omega)
 refine J_slot (t := 12) (v := .int .i64 (k : Int)) rfl (by rw [hk]; rfl) <| L_pur rfl (p_add64 rfl rfl (by omega)) <| J_slot (t := 13) (v := .int .i64 ((k + 1 : Nat) : Int)) rfl (by congr 1; push_cast; omega) <| ag rfl rfl <| nx <| mv rfl rfl <| L_op <| x_call Tryz.func18 nm18 bd18 (.cons rfl .nil) rfl (made24 (n := k + 1) (by omega)) fun g => ?_
 have hT := duo_is g
 obtain ⟨K, hK⟩ : ∃ K, K = kNew 2 3 3 4 true g := ⟨_, rfl⟩
 rw [← hK] at hT
 refine J_pick (A := coA g.p _) PC ?_
 refine J_asTo (B := coA g.p { K with rt := rtW (k + 1) }) (by rw [hK]) ?_
 have hadd := rtB_add (n := k + 1) (by omega)
 refine ag rfl rfl <| nxx <| mv rfl rfl <| L_pur rfl (p_eqNilPtr Tryz.underlying24 rfl) <| mv rfl rfl <| J_bool (t := 18) (c := false) rfl (rfl) <| L_op <| G_on rfl rfl rfl ?_
 refine J_pur (p_move rfl) rfl rfl rfl <| L_op <| G_on rfl rfl rfl <| x_call Tryz.func9 nm9 bd9 (.cons rfl .nil) rfl (coReqs) fun _ => L_op <| G_on rfl rfl rfl <| J_pur (bld36 (.cons rfl (.cons rfl .nil)) (by repeat constructor)) rfl rfl rfl <| L_op <| G_on rfl rfl rfl ?_
 refine J_pur (bld39 (.cons rfl (.cons rfl .nil)) (by repeat constructor)) rfl rfl rfl <| L_op <| G_on rfl rfl rfl <| J_pur (bld41 (.cons rfl (.cons rfl (.cons rfl .nil))) (by repeat constructor)) rfl rfl rfl <| J_slot (t := 23) (v := .agg (encQ r14).toArray) rfl rfl <| L_op <| G_on rfl rfl rfl <| x_call Tryz.func12 nm12 bd12 (.cons rfl (.cons rfl .nil)) rfl (coRqAdd (s := { K with rt := rtW (k + 1) }) (q := r14) PC (rtW_ids _) (by show (rtW (k + 1)).length ≤ 100000; rw [rtW_len]; omega)) fun _ => ?_
 refine J_bool (t := 24) (c := true) rfl (by rw [hadd.1]) <| J_pick (A := coA g.p _) PC ?_
 refine J_asTo (B := coA g.p (SB K g (k + 1) [])) (by rw [hadd.2]; unfold SB; rw [← hT.nt]) <| L_op <| G_on rfl rfl rfl <| J_pur (p_not rfl) rfl rfl rfl <| L_pur rfl (p_pick_f rfl rfl) <| nq <| J_bool (t := 26) (c := false) rfl (rfl) <| C_false rfl ?_
 refine J_skip <| Q_then <| J_seq <| sr <| mv rfl rfl <| nq <| J_bool (t := 27) (c := true) rfl (rfl) <| C_true rfl ?_
 refine J_region <| mv rfl rfl <| L_op <| x_call Tryz.func19 nm19 bd19 (.cons rfl (.cons rfl .nil)) rfl (coNotif (s := SB K g (k + 1) []) (u := 22) PC) fun _ => ?_
 refine J_slot (t := 29) (v := .pointer (some ⟨g.bn, 0, none⟩)) rfl rfl <| L_pur rfl (bld36 (.cons rfl (.cons rfl .nil)) (by repeat constructor)) <| J_slot (t := 30) (v := .agg (encI (14, 1)).toArray) rfl rfl <| L_op <| x_call Tryz.func20 nm20 bd20 (.cons rfl (.cons rfl .nil)) rfl (coNtWait (s := SB K g (k + 1) []) (u := 22) (w0 := 0) (xs := []) (i := (14, 1)) PC rfl (by decide)) fun _ => ?_
 refine J_pick (A := coA g.p _) PC ?_
 refine J_asTo (B := coA g.p (SB K g (k + 1) [(14, 1)])) (by rfl) <| nxx <| mv rfl rfl <| mv rfl rfl <| L_pur rfl (bld36 (.cons rfl (.cons rfl .nil)) (by repeat constructor)) <| J_slot (t := 34) (v := .agg (encI (4, (k : Int) + 1)).toArray) rfl (by push_cast; rfl) ?_
 have hF0 := SB_fits hT (n := k + 1) (ws := [(14, 1)]) (by omega) (by decide)
 have hlen : (KS.rt (SB K g (k + 1) [(14, 1)])).length = k + 2 := rtB_len (k + 1)
 refine L_op <| x_call Tryz.func14 nm14 bd14 (.cons rfl (.cons rfl (.cons rfl (.cons rfl .nil)))) rfl (coDecide (s := SB K g (k + 1) [(14, 1)]) (i := (4, (k : Int) + 1)) (r := 0) (v := 3) PC hF0) fun _ => ?_
 refine J_bool (t := 35) (c := true) rfl (by rw [show look (KS.rt (SB K g (k + 1) [(14, 1)])) (4, (k : Int) + 1) = _ from rtB_4 (Nat.lt_succ_self k)]; rfl) ?_
 obtain ⟨S1, hS1⟩ : ∃ S1, S1 = kDec (KS.rt (SB K g (k + 1) [(14, 1)])).length (SB K g (k + 1) [(14, 1)]) (4, (k : Int) + 1) 0 3 := ⟨_, rfl⟩
 refine J_pick (A := coA g.p _) PC ?_
 refine J_asTo (B := coA g.p S1) (by rw [hS1]) ?_
 have hF1 : Fits S1 20 60 := by rw [hS1]; exact (Fits.dec _ hF0).1
 rw [hlen] at hS1
 have hb := bell_yes hT (n := k + 1) (k := k) (f := k) (by omega) (by omega)
 rw [← hS1] at hb
 obtain ⟨hs1, hs2, hs3, ⟨b4, q4, hr4, _, ht4, _⟩, ⟨b14, q14, hr14, _, ht14, _⟩⟩ := hb
 refine L_pur rfl (p_not rfl) <| nq <| J_bool (t := 36) (c := false) rfl (rfl) <| C_false rfl <| J_skip <| qx <| mv rfl rfl <| L_op <| x_call Tryz.func11 nm11 bd11 (.cons rfl .nil) rfl (coJournal) fun _ => ?_
 refine L_op <| x_call Tryz.func15 nm15 bd15 (.cons rfl .nil) rfl (coJAll (s := S1) PC (by have := hF1.jn; omega)) <| JE ([d1 k, d2].map encD) (by rw [hs1]) fun a39 c39 hw39 hl39 hm39 hz39 => ?_
 obtain ⟨bx, ox, rfl⟩ := hz39 (by simp)
 refine ag rfl rfl <| nxx <| mv rfl rfl <| L_pur rfl (p_not rfl) <| nq <| J_bool (t := 41) (c := false) rfl (rfl) <| C_false rfl <| J_skip ?_
 refine Q_then <| J_seq <| sr <| mv rfl rfl <| L_pur rfl (p_len rfl Tryz.underlying44) <| L_pur rfl (p_neq rfl rfl) <| J_bool (t := 63) (c := false) rfl (by rfl) <| mv rfl rfl ?_
 refine J_bool (t := 64) (c := false) rfl (rfl) <| L_op <| G_on rfl rfl rfl <| J_pur (p_move rfl) rfl rfl rfl <| L_op <| G_on rfl rfl rfl <| J_pur (p_indexAddr rfl rfl Tryz.underlying44 ty50 (by omega) (by simp)) rfl rfl rfl <| L_op <| G_on rfl rfl rfl ?_
 refine J_pur (p_fieldAddr rfl fa50_0) rfl rfl rfl <| L_op <| G_on rfl rfl rfl <| J_val (v_loadFA rfl ty36 HS (by rfl) CT) rfl rfl rfl ?_
 refine L_op <| G_on rfl rfl rfl <| J_pur (p_move rfl) rfl rfl rfl <| L_op <| G_on rfl rfl rfl <| J_pur (bld36 (.cons rfl (.cons rfl .nil)) (by repeat constructor)) rfl rfl rfl <| J_slot (t := 70) (v := .agg (encI (4, (k : Int) + 1)).toArray) rfl (by push_cast; rfl) <| L_op <| G_on rfl rfl rfl ?_
 refine J_pur (p_nev rfl rfl (fun w => eg36 _ _ _ _ _ w) (fun w => nev36 _ _ _ _ w)) rfl rfl rfl <| J_bool (t := 71) (c := false) rfl (by simp [d1, encI]) <| L_pur rfl (p_pick_f rfl rfl) <| mv rfl rfl <| J_bool (t := 73) (c := false) rfl (rfl) <| L_op <| G_on rfl rfl rfl <| J_pur (p_move rfl) rfl rfl rfl ?_
 refine L_op <| G_on rfl rfl rfl <| J_pur (p_indexAddr rfl rfl Tryz.underlying44 ty50 (by omega) (by simp)) rfl rfl rfl <| L_op <| G_on rfl rfl rfl <| J_pur (p_fieldAddr rfl fa50_0) rfl rfl rfl <| L_op <| G_on rfl rfl rfl ?_
 refine J_val (v_loadFA rfl ty36 HS (by rfl) CT) rfl rfl rfl ?_
 refine L_op <| G_on rfl rfl rfl <| J_pur (bld36 (.cons rfl (.cons rfl .nil)) (by repeat constructor)) rfl rfl rfl <| L_op <| G_on rfl rfl rfl <| J_pur (p_nev rfl rfl (fun w => eg36 _ _ _ _ _ w) (fun w => nev36 _ _ _ _ w)) rfl rfl rfl <| J_bool (t := 79) (c := false) rfl (by simp [d2]) <| L_pur rfl (p_pick_f rfl rfl) ?_
 refine mv rfl rfl <| J_bool (t := 81) (c := false) rfl (rfl) <| L_op <| G_on rfl rfl rfl <| J_pur (p_move rfl) rfl rfl rfl <| L_op <| G_on rfl rfl rfl <| J_pur (p_indexAddr rfl rfl Tryz.underlying44 ty50 (by omega) (by simp)) rfl rfl rfl ?_
 refine L_op <| G_on rfl rfl rfl <| J_pur (p_fieldAddr rfl fa50_3) rfl rfl rfl <| L_op <| G_on rfl rfl rfl <| J_val (v_loadF rfl ty3 HS (by rfl) (by exact rfl)) rfl rfl rfl ?_
 refine L_op <| G_on rfl rfl rfl <| J_pur (p_neq rfl rfl) rfl rfl rfl <| J_bool (t := 86) (c := false) rfl (by simp [d2]) <| L_pur rfl (p_pick_f rfl rfl) <| mv rfl rfl <| J_bool (t := 88) (c := false) rfl (rfl) <| L_op <| G_on rfl rfl rfl ?_
 refine J_pur (p_move rfl) rfl rfl rfl <| L_op <| G_on rfl rfl rfl <| J_pur (p_indexAddr rfl rfl Tryz.underlying44 ty50 (by omega) (by simp)) rfl rfl rfl <| L_op <| G_on rfl rfl rfl <| J_pur (p_fieldAddr rfl fa50_4) rfl rfl rfl <| L_op <| G_on rfl rfl rfl ?_
 refine J_val (v_loadF rfl ty37 HS (by rfl) (by exact rfl)) rfl rfl rfl ?_
 refine L_op <| G_on rfl rfl rfl <| J_pur (p_neq rfl rfl) rfl rfl rfl <| J_bool (t := 93) (c := false) rfl (by simp [d2]) <| L_pur rfl (p_pick_f rfl rfl) <| nq <| J_bool (t := 94) (c := false) rfl (rfl) <| C_false rfl ?_
 refine J_skip <| qx <| mv rfl rfl <| mv rfl rfl <| J_bool (t := 96) (c := true) rfl (rfl) <| L_op <| G_on rfl rfl rfl <| J_pur (p_move rfl) rfl rfl rfl ?_
 refine L_op <| G_on rfl rfl rfl <| x_call Tryz.func19 nm19 bd19 (.cons rfl (.cons rfl .nil)) rfl (coNotif (s := S1) (u := 22) PC) fun _ => ?_
 refine J_slot (t := 98) (v := .pointer (some ⟨g.bn, 0, none⟩)) rfl (by rw [look_is hs2]; rfl) <| L_op <| G_on rfl rfl rfl <| x_call Tryz.func21 nm21 bd21 (.cons rfl .nil) rfl (coNtWord (s := S1) (u := 22) PC hs2 (by decide)) fun _ => ?_
 refine L_op <| G_on rfl rfl rfl <| J_pur (p_eql rfl rfl) rfl rfl rfl <| J_bool (t := 100) (c := true) rfl (by rfl) <| L_pur rfl (p_pick_t rfl rfl) <| mv rfl rfl <| J_bool (t := 102) (c := true) rfl (rfl) <| L_op <| G_on rfl rfl rfl ?_
 refine J_pur (p_move rfl) rfl rfl rfl <| L_op <| G_on rfl rfl rfl <| x_call Tryz.func9 nm9 bd9 (.cons rfl .nil) rfl (coReqs) fun _ => L_op <| G_on rfl rfl rfl <| x_call Tryz.func16 nm16 bd16 (.cons rfl (.cons rfl .nil)) rfl (coRqOf (s := S1) (g := 14) PC hF1.ids (by have := hF1.jn; omega)) <| JR fun a105 c105 hw105 hl105 hm105 hz105 => ?_
 refine L_op <| G_on rfl rfl rfl <| J_pur (p_len rfl Tryz.underlying46) rfl rfl rfl <| L_op <| G_on rfl rfl rfl <| J_pur (p_eql rfl rfl) rfl rfl rfl <| J_bool (t := 107) (c := true) rfl (by rw [List.length_map, hs3]; rfl) <| L_pur rfl (p_pick_t rfl rfl) ?_
 refine mv rfl rfl <| J_bool (t := 109) (c := true) rfl (rfl) <| L_op <| G_on rfl rfl rfl <| J_pur (p_move rfl) rfl rfl rfl <| L_op <| G_on rfl rfl rfl <| x_call Tryz.func10 nm10 bd10 (.cons rfl (.cons rfl .nil)) rfl (coRing (s := S1) (u := 14) PC) fun _ => ?_
 refine J_slot (t := 111) (v := .pointer (some ⟨b14, 0, none⟩)) rfl (by rw [look_is hr14]; rfl) <| L_op <| G_on rfl rfl rfl <| x_call Tryz.func17 nm17 bd17 (.cons rfl .nil) rfl (coTail (s := S1) (u := 14) PC hr14) fun _ => ?_
 refine L_op <| G_on rfl rfl rfl <| J_pur (p_eql rfl rfl) rfl rfl rfl <| J_bool (t := 113) (c := true) rfl (by rw [ht14]; rfl) <| L_pur rfl (p_pick_t rfl rfl) <| mv rfl rfl <| J_bool (t := 115) (c := true) rfl (rfl) <| L_op <| G_on rfl rfl rfl ?_
 refine J_pur (p_move rfl) rfl rfl rfl <| L_op <| G_on rfl rfl rfl <| x_call Tryz.func10 nm10 bd10 (.cons rfl (.cons rfl .nil)) rfl (coRing (s := S1) (u := 4) PC) fun _ => ?_
 refine J_slot (t := 117) (v := .pointer (some ⟨b4, 0, none⟩)) rfl (by rw [look_is hr4]; rfl) <| L_op <| G_on rfl rfl rfl <| x_call Tryz.func17 nm17 bd17 (.cons rfl .nil) rfl (coTail (s := S1) (u := 4) PC hr4) fun _ => ?_
 refine L_op <| G_on rfl rfl rfl <| J_pur (p_eql rfl rfl) rfl rfl rfl <| J_bool (t := 119) (c := true) rfl (by rw [ht4]; rfl) <| L_pur rfl (p_pick_t rfl rfl) <| ag rfl rfl <| nq <| J_ret ?_
 exact J_return (()) Tryz.results4 (.tmp rfl .nil) rfl SU

set_option maxRecDepth 100000 in
set_option maxHeartbeats 4000000 in
theorem decideBell_false {E W : World} {z : Int} :
  Con Tryz.prog 4 #[.int .i64 z, .bool false] E [old W] (fun _ : Unit => .bool true) (fun _ => [old W]) := by
 refine Con.body (vs := [.int .i64 z, .bool false]) (n := 121) Tryz.func4 rfl rfl [(0, .int .i64 z), (1, .bool false)] (env_ok 2 rfl) <| sr <| ag rfl rfl <| nx <| L_op <| x_call Tryz.func7 nm7 bd7 .nil rfl (first24) fun _ => ag rfl rfl <| nxx ?_
 refine mv rfl rfl <| L_pur rfl (p_not rfl) <| nq <| J_bool (t := 10) (c := false) rfl (rfl) <| C_false rfl <| J_skip <| qx <| mv rfl rfl ?_
 refine L_op <| x_call Tryz.func13 nm13 bd13 (.cons rfl (.cons rfl .nil)) rfl (number (by omega) (by omega)) fun _ => ?_
 obtain ⟨k, hk⟩ : ∃ k, k = num z (6 : Nat) := ⟨_, rfl⟩
 have hk6 : k < 6 := by rw [hk]; exact num_lt' (by omega)
 refine J_slot (t := 12) (v := .int .i64 (k : Int)) rfl (by rw [hk]; rfl) <| L_pur rfl (p_add64 rfl rfl (by omega)) <| J_slot (t := 13) (v := .int .i64 ((k + 1 : Nat) : Int)) rfl (by congr 1; push_cast; omega) <| ag rfl rfl <| nx <| mv rfl rfl <| L_op <| x_call Tryz.func18 nm18 bd18 (.cons rfl .nil) rfl (made24 (n := k + 1) (by omega)) fun g => ?_
 have hT := duo_is g
 obtain ⟨K, hK⟩ : ∃ K, K = kNew 2 3 3 4 true g := ⟨_, rfl⟩
 rw [← hK] at hT
 refine J_pick (A := coA g.p _) PC ?_
 refine J_asTo (B := coA g.p { K with rt := rtW (k + 1) }) (by rw [hK]) ?_
 have hadd := rtB_add (n := k + 1) (by omega)
 refine ag rfl rfl <| nxx <| mv rfl rfl <| L_pur rfl (p_eqNilPtr Tryz.underlying24 rfl) <| mv rfl rfl <| J_bool (t := 18) (c := false) rfl (rfl) <| L_op <| G_on rfl rfl rfl ?_
 refine J_pur (p_move rfl) rfl rfl rfl <| L_op <| G_on rfl rfl rfl <| x_call Tryz.func9 nm9 bd9 (.cons rfl .nil) rfl (coReqs) fun _ => L_op <| G_on rfl rfl rfl <| J_pur (bld36 (.cons rfl (.cons rfl .nil)) (by repeat constructor)) rfl rfl rfl <| L_op <| G_on rfl rfl rfl ?_
 refine J_pur (bld39 (.cons rfl (.cons rfl .nil)) (by repeat constructor)) rfl rfl rfl <| L_op <| G_on rfl rfl rfl <| J_pur (bld41 (.cons rfl (.cons rfl (.cons rfl .nil))) (by repeat constructor)) rfl rfl rfl <| J_slot (t := 23) (v := .agg (encQ r14).toArray) rfl rfl <| L_op <| G_on rfl rfl rfl <| x_call Tryz.func12 nm12 bd12 (.cons rfl (.cons rfl .nil)) rfl (coRqAdd (s := { K with rt := rtW (k + 1) }) (q := r14) PC (rtW_ids _) (by show (rtW (k + 1)).length ≤ 100000; rw [rtW_len]; omega)) fun _ => ?_
 refine J_bool (t := 24) (c := true) rfl (by rw [hadd.1]) <| J_pick (A := coA g.p _) PC ?_
 refine J_asTo (B := coA g.p (SB K g (k + 1) [])) (by rw [hadd.2]; unfold SB; rw [← hT.nt]) <| L_op <| G_on rfl rfl rfl <| J_pur (p_not rfl) rfl rfl rfl <| L_pur rfl (p_pick_f rfl rfl) <| nq <| J_bool (t := 26) (c := false) rfl (rfl) <| C_false rfl ?_
 refine J_skip <| Q_then <| J_seq <| sr <| mv rfl rfl <| nq <| J_bool (t := 27) (c := false) rfl (rfl) <| C_false rfl ?_
 refine J_skip <| Q_then <| J_seq <| sr <| mv rfl rfl <| mv rfl rfl <| L_pur rfl (bld36 (.cons rfl (.cons rfl .nil)) (by repeat constructor)) <| J_slot (t := 34) (v := .agg (encI (4, (k : Int) + 1)).toArray) rfl (by push_cast; rfl) ?_
 have hF0 := SB_fits hT (n := k + 1) (ws := []) (by omega) (by decide)
 have hlen : (KS.rt (SB K g (k + 1) [])).length = k + 2 := rtB_len (k + 1)
 refine L_op <| x_call Tryz.func14 nm14 bd14 (.cons rfl (.cons rfl (.cons rfl (.cons rfl .nil)))) rfl (coDecide (s := SB K g (k + 1) []) (i := (4, (k : Int) + 1)) (r := 0) (v := 3) PC hF0) fun _ => ?_
 refine J_bool (t := 35) (c := true) rfl (by rw [show look (KS.rt (SB K g (k + 1) [])) (4, (k : Int) + 1) = _ from rtB_4 (Nat.lt_succ_self k)]; rfl) ?_
 obtain ⟨S1, hS1⟩ : ∃ S1, S1 = kDec (KS.rt (SB K g (k + 1) [])).length (SB K g (k + 1) []) (4, (k : Int) + 1) 0 3 := ⟨_, rfl⟩
 refine J_pick (A := coA g.p _) PC ?_
 refine J_asTo (B := coA g.p S1) (by rw [hS1]) ?_
 have hF1 : Fits S1 20 60 := by rw [hS1]; exact (Fits.dec _ hF0).1
 rw [hlen] at hS1
 have hb := bell_no hT (n := k + 1) (k := k) (f := k + 1) (by omega) (by omega)
 rw [← hS1] at hb
 obtain ⟨hs1, hs2, hs3⟩ := hb
 refine L_pur rfl (p_not rfl) <| nq <| J_bool (t := 36) (c := false) rfl (rfl) <| C_false rfl <| J_skip <| qx <| mv rfl rfl <| L_op <| x_call Tryz.func11 nm11 bd11 (.cons rfl .nil) rfl (coJournal) fun _ => ?_
 refine L_op <| x_call Tryz.func15 nm15 bd15 (.cons rfl .nil) rfl (coJAll (s := S1) PC (by have := hF1.jn; omega)) <| JR fun a39 c39 hw39 hl39 hm39 hz39 => ag rfl rfl <| nxx <| mv rfl rfl <| L_pur rfl (p_not rfl) <| nq ?_
 refine J_bool (t := 41) (c := true) rfl (rfl) <| C_true rfl <| sr <| mv rfl rfl <| mv rfl rfl <| J_bool (t := 43) (c := true) rfl (rfl) <| L_op <| G_on rfl rfl rfl ?_
 refine J_pur (p_move rfl) rfl rfl rfl <| L_op <| G_on rfl rfl rfl <| J_pur (p_len rfl Tryz.underlying44) rfl rfl rfl <| L_op <| G_on rfl rfl rfl <| J_pur (p_eql rfl rfl) rfl rfl rfl <| J_bool (t := 46) (c := true) rfl (by rw [List.length_map, hs1]; rfl) ?_
 refine L_pur rfl (p_pick_t rfl rfl) <| mv rfl rfl <| J_bool (t := 48) (c := true) rfl (rfl) <| L_op <| G_on rfl rfl rfl <| J_pur (p_move rfl) rfl rfl rfl <| L_op <| G_on rfl rfl rfl ?_
 refine x_call Tryz.func19 nm19 bd19 (.cons rfl (.cons rfl .nil)) rfl (coNotif (s := S1) (u := 22) PC) fun _ => ?_
 refine J_slot (t := 50) (v := .pointer (some ⟨g.bn, 0, none⟩)) rfl (by rw [look_is hs2]; rfl) <| L_op <| G_on rfl rfl rfl <| x_call Tryz.func21 nm21 bd21 (.cons rfl .nil) rfl (coNtWord (s := S1) (u := 22) PC hs2 (by decide)) fun _ => ?_
 refine L_op <| G_on rfl rfl rfl <| J_pur (p_eql rfl rfl) rfl rfl rfl <| J_bool (t := 52) (c := true) rfl (by rfl) <| L_pur rfl (p_pick_t rfl rfl) <| mv rfl rfl <| J_bool (t := 54) (c := true) rfl (rfl) <| L_op <| G_on rfl rfl rfl ?_
 refine J_pur (p_move rfl) rfl rfl rfl <| L_op <| G_on rfl rfl rfl <| x_call Tryz.func9 nm9 bd9 (.cons rfl .nil) rfl (coReqs) fun _ => L_op <| G_on rfl rfl rfl <| x_call Tryz.func16 nm16 bd16 (.cons rfl (.cons rfl .nil)) rfl (coRqOf (s := S1) (g := 14) PC hF1.ids (by have := hF1.jn; omega)) <| JR fun a57 c57 hw57 hl57 hm57 hz57 => ?_
 refine L_op <| G_on rfl rfl rfl <| J_pur (p_len rfl Tryz.underlying46) rfl rfl rfl <| L_op <| G_on rfl rfl rfl <| J_pur (p_eql rfl rfl) rfl rfl rfl <| J_bool (t := 59) (c := true) rfl (by rw [List.length_map, hs3]; rfl) <| L_pur rfl (p_pick_t rfl rfl) ?_
 refine ag rfl rfl <| nq <| J_ret <| Q_then_ret ?_
 exact J_return (()) Tryz.results4 (.tmp rfl .nil) rfl SU

theorem decideBell {E W : World} {z : Int} {waits : Bool} : Con Tryz.prog 4 #[.int .i64 z, .bool waits] E [old W] (fun _ : Unit => .bool true) (fun _ => [old W]) := by
  cases waits
  · exact decideBell_false
  · exact decideBell_true
end Go.Pse
