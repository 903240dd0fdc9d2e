/-
  The law on a ring that is torn down, walked.
-/
import Derived.Test.YthjbhkaokjdhmaaGreatC32
namespace Go.Pse
open Go.RowKit Go.Proofs

theorem sortF_id {α : Type} {cf : α → α → Int} (hO : Go.Sort.SWO (Go.Proofs.ltOf cf)) {xs : List α} (hT : ∀ x ∈ xs, ∀ y ∈ xs, Go.Proofs.ltOf cf x y = false → Go.Proofs.ltOf cf y x = false → x = y) (h : xs.Pairwise fun a b => Go.Proofs.ltOf cf b a = false) : sortF cf xs = xs :=
  List.Perm.eq_of_pairwise (le := fun a b => Go.Proofs.ltOf cf b a = false) (fun a b ha hb h1 h2 => hT a (sortF_mem.1 ha) b hb h2 h1) (sortF_sorted hO xs) h (sortF_isPerm xs)
/-! ### plain: what there is behind a ring's end -/
def out (l : List Rq) (i : ID) : Bool := l.any fun q => decide (i = q.id)
theorem out_cons {q : Rq} {l : List Rq} {i : ID} : (!out l i && !decide (i = q.id)) = !out (q :: l) i := by
  unfold out; rw [List.any_cons, Bool.not_or, Bool.and_comm]
theorem allO_allO {α : Type} {f g : α → α} {xs : List (Int × Nat × α)} : allO f (allO g xs) = allO (fun a => f (g a)) xs := by
  unfold allO; rw [List.map_map]; rfl
theorem tearL_is : ∀ {l : List Rq} {s : KS}, (kTearL s l).jn = s.jn ++ l.map deedG ∧ (kTearL s l).rt = s.rt.filter (fun e => !out l e.1) ∧ (kTearL s l).tm = s.tm.filter (fun c => !out l c.2) ∧ (kTearL s l).nt = allO (fun a => (a.1, a.2.filter fun x => !out l x)) s.nt
  | [], s => by
    refine ⟨by simp [kTearL], ?_, ?_, ?_⟩
    · exact (List.filter_eq_self.2 fun _ _ => rfl).symm
    · exact (List.filter_eq_self.2 fun _ _ => rfl).symm
    · show s.nt = _
      unfold allO
      conv => lhs; rw [← List.map_id s.nt]
      refine List.map_congr_left fun x _ => ?_
      show x = (x.1, x.2.1, (x.2.2.1, x.2.2.2.filter fun x => !out [] x))
      have e : x.2.2.2.filter (fun x => !out [] x) = x.2.2.2 := List.filter_eq_self.2 fun _ _ => rfl
      rw [e]
  | q :: l, s => by
    obtain ⟨h1, h2, h3, h4⟩ := tearL_is (l := l) (s := kTear1 s q)
    have e : kTearL s (q :: l) = kTearL (kTear1 s q) l := rfl
    rw [e]
    refine ⟨?_, ?_, ?_, ?_⟩
    · rw [h1]; show (s.jn ++ [deedG q]) ++ _ = _; rw [List.append_assoc]; rfl
    · rw [h2]
      show (del s.rt q.id).filter _ = _
      unfold del
      rw [List.filter_filter]
      exact List.filter_congr fun e _ => out_cons
    · rw [h3]
      show (tdrop s.tm q.id).filter _ = _
      rw [List.filter_filter]
      exact List.filter_congr fun c _ => by rw [isTm_eq]; exact out_cons
    · rw [h4]
      show allO _ (allO (ntD q.id) s.nt) = _
      rw [allO_allO]
      unfold allO
      refine List.map_congr_left fun x _ => ?_
      show (x.1, x.2.1, (x.2.2.1, (ldrop x.2.2.2 q.id).filter fun x => !out l x)) = (x.1, x.2.1, (x.2.2.1, x.2.2.2.filter fun x => !out (q :: l) x))
      unfold ldrop
      rw [List.filter_filter]
      congr 3
      exact List.filter_congr fun c _ => by rw [isI_eq]; exact out_cons
def rO : Rq := ⟨(14, 1), ⟨15, 0, 0, 0, 0, 0, 0, 0⟩, 0, false, false⟩
def rtT (n : Nat) : List (ID × Rq) := rtW n ++ [((14, 1), rO)]
def In4 (n : Nat) (i : ID) : Prop := ∃ k : Nat, k < n ∧ i = (4, (k : Int) + 1)
theorem rtT_ins (n : Nat) : rtT n = ins (rtW n) (14, 1) rO := by
  unfold Go.Pse.ins; rw [rtW_no (.inl (by decide))]; rfl
theorem rtT_keyd (n : Nat) : Keyd (rtT n) := by rw [rtT_ins]; exact (rtW_keyd n).ins _ _
theorem rtT_ids (n : Nat) : Ids (rtT n) := fun e he => by
  rcases List.mem_append.1 he with h | h
  · exact rtW_ids n e h
  · rw [List.mem_singleton.1 h]; rfl
theorem rtT_len (n : Nat) : (rtT n).length = n + 1 := by simp [rtT, rtW_len]
theorem rtT_add {n : Nat} (h : n ≤ 12) : addOk (rtW n) rO = true ∧ addQ (rtW n) rO = rtT n :=
  add_new (ps := rtW n) (q := rO) (rtW_no (.inl (by decide))) (by have := ofQ_len (rtW n) rO.id.1; rw [rtW_len] at this; omega)
theorem rtT_of (n : Nat) : ofQ (rtT n) 4 = (List.range n).map rqW := by
  have e : ofRing (rtT n) 4 = (List.range n).map rqW := by
    unfold ofRing rtT
    rw [List.filter_append, List.filter_eq_self.2 (fun e he => by obtain ⟨k, _, rfl⟩ := rtW_mem.1 he; rfl)]
    show List.map Prod.snd (rtW n ++ []) = _
    rw [List.append_nil]
    unfold rtW
    rw [List.map_map]; rfl
  unfold ofQ
  rw [e]
  refine sortF_id cmpQ_swo ?_ ?_
  · rw [← e]; exact ofQ_parts (rtT_keyd n) (rtT_ids n) (List.Perm.refl _)
  · rw [List.pairwise_map]
    exact List.pairwise_lt_range.imp fun h => by
      rw [cmpQ_lt]
      show decide (_ + 1 < _ + 1) = false
      simp
      omega
theorem out_in {n : Nat} {i : ID} (h : In4 n i) : out ((List.range n).map rqW) i = true := by
  obtain ⟨k, hk, rfl⟩ := h
  unfold out
  rw [List.any_eq_true]
  exact ⟨rqW k, List.mem_map.2 ⟨k, List.mem_range.2 hk, rfl⟩, by simp [rqW]⟩
theorem out_14 {n : Nat} : out ((List.range n).map rqW) (14, 1) = false := by
  unfold out
  rw [List.any_eq_false]
  intro q hq
  obtain ⟨k, _, rfl⟩ := List.mem_map.1 hq
  simp [rqW]
/-- What is put in, who waits: each of the first ring. -/
structure TW (n i : Nat) (T : List Tm) (ws : List ID) : Prop where
  srt : Srt T
  tl : T.length ≤ i
  ti : ∀ c ∈ T, In4 n c.2
  wl : ws.length ≤ i
  wi : ∀ x ∈ ws, In4 n x
theorem TW.nil (n : Nat) : TW n 0 [] [] := ⟨List.Pairwise.nil, Nat.le_refl _, fun _ h => (by cases h), Nat.le_refl _, fun _ h => (by cases h)⟩
theorem putT_mem {xs : List Tm} {x c : Tm} (h : c ∈ putT xs x) : c ∈ xs ∨ c = x := by
  unfold putT at h
  rcases List.mem_append.1 h with h | h
  · exact .inl (List.mem_of_mem_take h)
  · rcases List.mem_cons.1 h with h | h
    · exact .inr h
    · exact .inl (List.mem_of_mem_drop h)
theorem TW.push {n i : Nat} {T : List Tm} {ws : List ID} (h : TW n i T ws) {d : Int} {j : ID} (hj : In4 n j) : TW n (i + 1) (hpush T (d, j)) ws :=
  ⟨h.srt.push _, Nat.le_trans (hpush_len _ _) (by have := h.tl; omega), fun c hc => by
    rcases putT_mem hc with h1 | h1
    · exact h.ti c (List.mem_filter.1 h1).1
    · rw [h1]; exact hj, by have := h.wl; omega, h.wi⟩
theorem TW.wait {n i : Nat} {T : List Tm} {ws : List ID} (h : TW n i T ws) {j : ID} (hj : In4 n j) : TW n (i + 1) T (waitL 0 ws j) :=
  ⟨h.srt, by have := h.tl; omega, h.ti, Nat.le_trans (waitL_len _ _ _) (by have := h.wl; omega), fun x hx => by
    have hx' : x ∈ lpush ws j := hx
    unfold lpush at hx'
    split at hx'
    · exact h.wi x hx'
    · rcases List.mem_append.1 hx' with h1 | h1
      · exact h.wi x h1
      · rw [List.mem_singleton.1 h1]; exact hj⟩
theorem TW.up {n i : Nat} {T : List Tm} {ws : List ID} (h : TW n i T ws) (hi : i ≤ 10) : TW n 10 T ws := ⟨h.srt, Nat.le_trans h.tl hi, h.ti, Nat.le_trans h.wl hi, h.wi⟩
def TS (K : KS) (g : NewG) (T : List Tm) (ws : List ID) (ps : List (ID × Rq)) : KS := { K with rt := ps, tm := T, nt := [(22, g.bn, 0, ws)] }
theorem TS_fits {K : KS} {g : NewG} (hT : Duo K g) {T : List Tm} {ws : List ID} {ps : List (ID × Rq)} (hI : Ids ps) (hl : ps.length ≤ 13) (ht : T.length ≤ 20) (hw : ws.length ≤ 20) : Fits (TS K g T ws ps) 20 60 := by
  have h := hT.fits hI hl
  exact ⟨h.n, h.mm, h.ids, h.jn, ht, h.ep, fun x hx => by
    obtain rfl := List.mem_singleton.1 (show x ∈ [(22, g.bn, 0, ws)] from hx)
    exact ⟨⟨by show (1 : Int) ≤ 22; omega, by show (22 : Int) ≤ 64; omega⟩, hw⟩, h.rp, h.rg, h.mem⟩
def deedT (k : Nat) : Deed := ((4, (k : Int) + 1), (k : Int) + 1, 15, 0, 0, true)
theorem look_rem {α : Type} {xs : List (Int × Nat × α)} {u : Int} : look (rem xs u) u = none := by
  rw [look_none_iff]
  intro h
  obtain ⟨e, he, h2⟩ := List.mem_map.1 h
  have := (List.mem_filter.1 he).2
  simp [h2] at this
theorem tear_end {K : KS} {g : NewG} (hT : Duo K g) {n : Nat} {T : List Tm} {ws : List ID} (hW : TW n 10 T ws) :
    let S := kTear (TS K g (hpush T (5, (14, 1))) ws (rtT n)) 4
    S.jn = (List.range n).map deedT ∧ S.rt = [((14, 1), rO)] ∧ S.tm.length = 1 ∧ look S.nt 22 = some (g.bn, 0, []) ∧ look S.rg 4 = none := by
  intro S
  obtain ⟨s, hs⟩ : ∃ s, s = TS K g (hpush T (5, (14, 1))) ws (rtT n) := ⟨_, rfl⟩
  obtain ⟨L, hL⟩ : ∃ L, L = (List.range n).map rqW := ⟨_, rfl⟩
  have hS : S = kGone (kCleared (kTearL s L) 4) 9 4 := by
    show kTear (TS K g (hpush T (5, (14, 1))) ws (rtT n)) 4 = _
    rw [← hs]
    unfold kTear
    rw [if_pos (by rw [hs]; show (look K.rg 4).isSome = true; rw [hT.rg]; rfl), hs, show (TS K g (hpush T (5, (14, 1))) ws (rtT n)).rt = rtT n from rfl, rtT_of, ← hL]
  obtain ⟨h1, h2, h3, h4⟩ := tearL_is (l := L) (s := s)
  rw [hS]
  refine ⟨?_, ?_, ?_, ?_, look_rem⟩
  · show (kTearL s L).jn = _
    rw [h1, hs]
    show K.jn ++ _ = _
    rw [hT.jn, hL, List.map_map]; rfl
  · show (kTearL s L).rt = _
    rw [h2, hs]
    show (rtT n).filter _ = _
    unfold rtT
    rw [List.filter_append, List.filter_eq_nil_iff.2 (fun e he => by
      obtain ⟨k, hk, rfl⟩ := rtW_mem.1 he
      rw [hL, out_in ⟨k, hk, rfl⟩]; decide), List.filter_cons, hL, out_14]
    rfl
  · show (kTearL s L).tm.length = 1
    rw [h3, hs]
    show ((putT (hdrop T (14, 1)) (5, (14, 1))).filter _).length = 1
    have hno : ∀ l' : List Tm, (∀ c ∈ l', c ∈ T) → l'.filter (fun c => !out L c.2) = [] := fun l' h => List.filter_eq_nil_iff.2 fun c hc => by rw [hL, out_in (hW.ti c (h c hc))]; decide
    unfold putT
    rw [List.filter_append, List.filter_cons, hno _ (fun c hc => (List.mem_filter.1 (List.mem_of_mem_take hc)).1), hno _ (fun c hc => (List.mem_filter.1 (List.mem_of_mem_drop hc)).1), hL, out_14]
    rfl
  · show look (kTearL s L).nt 22 = _
    rw [h4, hs]
    show look [(22, g.bn, (0, ws.filter fun x => !out L x))] 22 = _
    rw [List.filter_eq_nil_iff.2 (fun x hx => by rw [hL, out_in (hW.wi x hx)]; decide)]
    rfl
theorem tear_of : (ofQ [((14, 1), rO)] 4).length = 0 ∧ (ofQ [((14, 1), rO)] 14).length = 1 := by
  constructor
  · unfold ofQ; rw [sortF_len]; rfl
  · unfold ofQ; rw [sortF_len]; rfl
set_option maxRecDepth 100000 in
set_option maxHeartbeats 4000000 in
theorem decideTear {E W : World} {z : Int} {v : Value} {ds : List Int} (hr : Reads W 1 v (ds.map encN)) :
  Con Tryz.prog 5 #[.int .i64 z, v] E [old W] (fun _ : Unit => .bool true) (fun _ => [old W]) := by
 refine Con.body (vs := [.int .i64 z, v]) (n := 167) Tryz.func5 rfl rfl [(0, .int .i64 z), (1, v)] (env_ok 2 rfl) <| J_readsB (fun w H => hr.old HS H) fun hw a cap hv h1 h2 h3 => ?_
 subst hv
 have hm : cap ≤ 9223372036854775807 := h2
 have hml : (ds.map encN).length = ds.length := List.length_map _
 refine sr <| ag rfl rfl <| nx <| L_op <| x_call Tryz.func7 nm7 bd7 .nil rfl (first24) fun _ => ag rfl rfl <| nxx <| mv rfl rfl ?_
 refine L_pur rfl (p_not rfl) <| nq <| J_bool (t := 15) (c := false) rfl (rfl) <| C_false rfl <| J_skip <| Q_then <| J_seq <| sr ?_
 refine mv rfl rfl <| L_pur rfl (p_len rfl Tryz.underlying58) <| J_slot (t := 17) (v := .int .i64 (ds.length : Int)) rfl (by rw [hml]) <| L_pur rfl (p_gtr rfl rfl) <| nq ?_
 refine C_dec rfl (fun h18 => ?_) (fun h18 => ?_)
 ·
  refine sr <| mv rfl rfl <| ag rfl rfl <| nq <| J_ret <| Q_then_ret ?_
  exact J_return (()) Tryz.results5 (.tmp rfl .nil) rfl SU
 ·
  have hd1 : ds.length ≤ 10 := by omega
  refine J_skip <| qx <| mv rfl rfl <| L_op <| x_call Tryz.func13 nm13 bd13 (.cons rfl (.cons rfl .nil)) rfl (number (by omega) (by omega)) fun _ => ?_
  obtain ⟨n, hn⟩ : ∃ n, n = num z (12 : Nat) := ⟨_, rfl⟩
  have hn12 : n < 12 := by rw [hn]; exact num_lt' (by omega)
  refine J_slot (t := 21) (v := .int .i64 (n : Int)) rfl (by rw [hn]; rfl) <| ag rfl rfl <| nx <| mv rfl rfl <| L_op <| x_call Tryz.func18 nm18 bd18 (.cons rfl .nil) rfl (made24 (n := n) (by omega)) fun g => ?_
  have hT := duo_is g
  obtain ⟨K, hK⟩ : ∃ K, K = kNew 2 3 3 4 true g := ⟨_, rfl⟩
  rw [← hK] at hT
  refine J_pick (A := coA g.p _) PC ?_
  refine J_asTo (B := coA g.p (TS K g [] [] (rtW n))) (by unfold TS; rw [← hT.tm, ← hT.nt, hK]) ?_
  have hadd := rtT_add (n := n) (by omega)
  refine ag rfl rfl <| nxx <| mv rfl rfl <| L_pur rfl (p_eqNilPtr Tryz.underlying24 rfl) <| nq <| J_bool (t := 25) (c := false) rfl (rfl) <| C_false rfl <| J_skip ?_
  refine Q_then ?_
  refine J_cut (α := List Tm × List ID) (fun x : List Tm × List ID => [As.pure (TW n 10 x.1 x.2), coA g.p (TS K g x.1 x.2 (rtW n)), old W]) (fun _ : List Tm × List ID => [(0, .int .i64 (n : Int)), (6, .pointer (some ⟨g.p, 0, none⟩)), (5, .bool true)]) ?_ ?_
  ·
   refine sr <| ag rfl rfl <| nq <| J_block <| J_loop3 (fun i T ws => i ≤ ds.length ∧ TW n i T ws) (fun i T ws => [coA g.p (TS K g T ws (rtW n)), old W]) (fun i T ws => [(7, .int .i64 (i : Int)), (0, .int .i64 (n : Int)), (1, .slice a (ds.map encN).length cap), (6, .pointer (some ⟨g.p, 0, none⟩)), (5, .bool true)]) (fun i T ws => ds.length - i) 0 [] [] ⟨by omega, TW.nil n⟩ SU KE ?_
   intro i T ws hiT
   obtain ⟨hi, hTW⟩ := hiT
   refine J_seq <| sr <| mv rfl rfl <| mv rfl rfl <| L_pur rfl (p_len rfl Tryz.underlying58) <| J_slot (t := 28) (v := .int .i64 (ds.length : Int)) rfl (by rw [hml]) <| L_pur rfl (p_lss rfl rfl) <| mv rfl rfl ?_
   refine J_gsplit (t := 30) rfl (fun h30 => ?_) (fun h30 => ?_)
   ·
    have h30a := of_decide_eq_true h30
    refine L_op <| G_on rfl rfl rfl <| J_pur (p_move rfl) rfl rfl rfl <| L_op <| G_on rfl rfl rfl <| J_pur (p_gtr rfl rfl) rfl rfl rfl <| L_pur rfl (p_pick_t rfl rfl) <| nq ?_
    refine C_dec rfl (fun h33 => ?_) (fun h33 => ?_)
    ·
     have hlt : i < ds.length := by omega
     obtain ⟨bx, ox, rfl⟩ := h3 (by intro h; rw [h] at hml; simp at hml; omega)
     obtain ⟨c, hcc⟩ : ∃ c, ds[i]? = some c := ⟨_, List.getElem?_eq_getElem hlt⟩
     have hn0 : 0 < n := by omega
     have htl := hTW.tl
     have hwl := hTW.wl
     refine J_skip <| Q_then <| J_seq <| J_block <| sr <| mv rfl rfl <| mv rfl rfl <| L_pur rfl (p_indexAddr rfl rfl Tryz.underlying58 ty3 (by omega) (by omega)) ?_
     refine L_val rfl (by first | exact v_loadE1 rfl ty3 HS (by first | (simp only [Int.toNat_natCast, List.getElem?_map, hcc]; rfl) | (simp only [Int.toNat_natCast, List.getElem?_map, hcd]; rfl) | simp | rfl) | exact v_loadR1 rfl ty3 (fun w H => hr.old HS H) (by first | (simp only [Int.toNat_natCast, List.getElem?_map, hcc]; rfl) | (simp only [Int.toNat_natCast, List.getElem?_map, hcd]; rfl) | simp | rfl)) ?_
     refine mv rfl rfl <| L_op <| x_call Tryz.func13 nm13 bd13 (.cons rfl (.cons rfl .nil)) rfl (number (by omega) (by omega)) fun _ => ?_
     obtain ⟨k, hkk⟩ : ∃ k, k = num c (n : Nat) := ⟨_, rfl⟩
     have hk : k < n := by rw [hkk]; exact num_lt' hn0
     refine J_slot (t := 41) (v := .int .i64 (k : Int)) rfl (by rw [hkk]) <| L_pur rfl (p_add64 rfl rfl (by omega)) <| L_pur rfl (bld36 (.cons rfl (.cons rfl .nil)) (by repeat constructor)) <| J_slot (t := 43) (v := .agg (encI (4, (k : Int) + 1)).toArray) rfl (by rw [Int.add_comm]; rfl) <| L_op <| x_alloc ty36 rfl fun b8 => L_op <| x_store rfl rfl ty36 rfl SM SM RO PT ?_
     refine J_pick (A := blk b8 _ _) PC ?_
     refine J_asTo (B := blk b8 36 (encI (4, (k : Int) + 1))) (by rfl) <| nx <| mv rfl rfl <| mv rfl rfl <| L_pur rfl (p_indexAddr rfl rfl Tryz.underlying58 ty3 (by omega) (by omega)) ?_
     refine L_val rfl (by first | exact v_loadE1 rfl ty3 HS (by first | (simp only [Int.toNat_natCast, List.getElem?_map, hcc]; rfl) | (simp only [Int.toNat_natCast, List.getElem?_map, hcd]; rfl) | simp | rfl) | exact v_loadR1 rfl ty3 (fun w H => hr.old HS H) (by first | (simp only [Int.toNat_natCast, List.getElem?_map, hcc]; rfl) | (simp only [Int.toNat_natCast, List.getElem?_map, hcd]; rfl) | simp | rfl)) ?_
     refine L_pur rfl (p_and rfl rfl) <| L_pur rfl (p_eql rfl rfl) <| nq ?_
     refine C_dec rfl (fun h49 => ?_) (fun h49 => ?_)
     ·
      refine J_drawL (some 5) mixed <| ip 0 rfl rfl rfl rfl (p_move rfl) <| ip 2 rfl rfl rfl rfl (p_move rfl) <| ip 3 rfl rfl rfl rfl (p_conv rfl Tryz.underlying3 Tryz.underlying62) <| J_slot (t := 53) (v := .int .u64 (i : Int)) rfl (by rw [wrap64u_of (by omega)]) <| iv 4 rfl rfl rfl rfl (fun _ => v_loadA rfl ty36 HS CT) ?_
      refine i1 1 rfl <| x_call Tryz.func22 nm22 bd22 (.cons rfl .nil) rfl (coTimers) fun _ => i1 5 rfl <| x_call Tryz.func23 nm23 bd23 (.cons rfl (.cons rfl (.cons rfl .nil))) rfl (coTmPush (s := (TS K g T ws (rtW n))) (d := (i : Int)) (i := (4, (k : Int) + 1)) PC (by show T.length ≤ 90000; omega) hTW.srt) fun _ => ?_
      refine J_pick (A := coA g.p _) PC ?_
      refine J_asTo (B := coA g.p (TS K g (hpush T ((i : Int), (4, (k : Int) + 1))) ws (rtW n))) (by rfl) <| i0 <| Q_blk_normal <| qr <| mv rfl rfl <| L_pur rfl (p_add64 rfl rfl (by omega)) <| ag rfl rfl <| nq ?_
      exact J_again3 (i + 1) (hpush T ((i : Int), (4, (k : Int) + 1))) ws (by omega) (⟨by omega, hTW.push ⟨k, hk, rfl⟩⟩) SU KE
     ·
      refine J_drawL (some 3) mixed <| ip 0 rfl rfl rfl rfl (p_move rfl) <| iv 2 rfl rfl rfl rfl (fun _ => v_loadA rfl ty36 HS CT) ?_
      refine i1 1 rfl <| x_call Tryz.func19 nm19 bd19 (.cons rfl (.cons rfl .nil)) rfl (coNotif (s := (TS K g T ws (rtW n))) (u := 22) PC) fun _ => ?_
      refine J_slot (t := 57) (v := .pointer (some ⟨g.bn, 0, none⟩)) rfl (by rfl) <| i1 3 rfl <| x_call Tryz.func20 nm20 bd20 (.cons rfl (.cons rfl .nil)) rfl (coNtWait (s := (TS K g T ws (rtW n))) (u := 22) (w0 := 0) (xs := ws) (i := (4, (k : Int) + 1)) PC rfl (by omega)) fun _ => ?_
      refine J_pick (A := coA g.p _) PC ?_
      refine J_asTo (B := coA g.p (TS K g T (waitL 0 ws (4, (k : Int) + 1)) (rtW n))) (by rfl) <| i0 <| Q_blk_normal <| qr <| mv rfl rfl <| L_pur rfl (p_add64 rfl rfl (by omega)) <| ag rfl rfl <| nq ?_
      exact J_again3 (i + 1) T (waitL 0 ws (4, (k : Int) + 1)) (by omega) (⟨by omega, hTW.wait ⟨k, hk, rfl⟩⟩) SU KE
    ·
     refine J_exit <| Q_then_exit <| Q_then_exit <| Q_blk_this <| Q_then <| J_pure_in (p := TW n 10 T ws) (hTW.up (by omega)) ?_
     exact J_at (L := (fun x : List Tm × List ID => [As.pure (TW n 10 x.1 x.2), coA g.p (TS K g x.1 x.2 (rtW n)), old W])) (G := (fun _ : List Tm × List ID => [(0, .int .i64 (n : Int)), (6, .pointer (some ⟨g.p, 0, none⟩)), (5, .bool true)])) (T, ws) SU KE
   ·
    refine L_op <| G_off rfl rfl rfl rfl rfl rfl <| L_op <| G_off rfl rfl rfl rfl rfl rfl <| L_pur rfl (p_pick_f rfl rfl) <| nq <| C_false rfl <| J_exit ?_
    refine Q_then_exit <| Q_then_exit <| Q_blk_this <| Q_then <| J_pure_in (p := TW n 10 T ws) (hTW.up (by omega)) ?_
    exact J_at (L := (fun x : List Tm × List ID => [As.pure (TW n 10 x.1 x.2), coA g.p (TS K g x.1 x.2 (rtW n)), old W])) (G := (fun _ : List Tm × List ID => [(0, .int .i64 (n : Int)), (6, .pointer (some ⟨g.p, 0, none⟩)), (5, .bool true)])) (T, ws) SU KE
  ·
   intro x
   obtain ⟨T, ws⟩ := x
   dsimp only
   refine J_pure fun hTW => ?_
   have htl := hTW.tl
   have hwl := hTW.wl
   have hpl := hpush_len T (5, (14, 1))
   refine sr <| L_pur rfl (bld36 (.cons rfl (.cons rfl .nil)) (by repeat constructor)) <| L_op <| x_alloc ty36 rfl fun b9 => L_op <| x_store rfl rfl ty36 rfl SM SM RO PT ?_
   refine J_pick (A := blk b9 _ _) PC ?_
   refine J_asTo (B := blk b9 36 (encI (14, 1))) (by rfl) <| nq <| J_seq <| J_seq <| J_drawL (some 5) mixed <| ip 0 rfl rfl rfl rfl (p_move rfl) <| iv 2 rfl rfl rfl rfl (fun _ => v_loadA rfl ty36 HS CT) ?_
   refine ip 3 rfl rfl rfl rfl (bld39 (.cons rfl .nil) (by repeat constructor)) <| ip 4 rfl rfl rfl rfl (bld41 (.cons rfl (.cons rfl .nil)) (by repeat constructor)) <| J_slot (t := 65) (v := .agg (encQ rO).toArray) rfl rfl <| i1 1 rfl <| x_call Tryz.func9 nm9 bd9 (.cons rfl .nil) rfl (coReqs) fun _ => i1 5 rfl <| x_call Tryz.func12 nm12 bd12 (.cons rfl (.cons rfl .nil)) rfl (coRqAdd (s := (TS K g T ws (rtW n))) (q := rO) PC (rtW_ids n) (by show (rtW n).length ≤ 100000; rw [rtW_len]; omega)) fun _ => ?_
   refine J_bool (t := 66) (c := true) rfl (by rw [show (KS.rt (TS K g T ws (rtW n))) = rtW n from rfl, hadd.1]) <| J_pick (A := coA g.p _) PC ?_
   refine J_asTo (B := coA g.p (TS K g T ws (rtT n))) (by unfold TS; rw [hadd.2]) <| ip 6 rfl rfl rfl rfl (p_not rfl) <| i0 <| Q_then <| J_bool (t := 67) (c := false) rfl (rfl) <| C_false rfl <| J_skip <| Q_then ?_
   refine J_seq <| J_drawL (some 3) mixed <| ip 0 rfl rfl rfl rfl (p_move rfl) <| iv 2 rfl rfl rfl rfl (fun _ => v_loadA rfl ty36 HS CT) ?_
   refine i1 1 rfl <| x_call Tryz.func22 nm22 bd22 (.cons rfl .nil) rfl (coTimers) fun _ => i1 3 rfl <| x_call Tryz.func23 nm23 bd23 (.cons rfl (.cons rfl (.cons rfl .nil))) rfl (coTmPush (s := (TS K g T ws (rtT n))) (d := 5) (i := (14, 1)) PC (by show T.length ≤ 90000; omega) hTW.srt) fun _ => ?_
   refine J_pick (A := coA g.p _) PC ?_
   refine J_asTo (B := coA g.p (TS K g (hpush T (5, (14, 1))) ws (rtT n))) (by rfl) <| i0 <| qx <| mv rfl rfl <| L_op <| x_call Tryz.func10 nm10 bd10 (.cons rfl (.cons rfl .nil)) rfl (coRing (s := (TS K g (hpush T (5, (14, 1))) ws (rtT n))) (u := 4) PC) fun _ => ?_
   refine J_slot (t := 73) (v := .pointer (some ⟨(g.bs 0).1, 0, none⟩)) rfl (by rw [show (KS.rg (TS K g (hpush T (5, (14, 1))) ws (rtT n))) = K.rg from rfl, hT.rg]; rfl) <| ag rfl rfl <| nxx <| mv rfl rfl <| L_op <| x_call Tryz.func24 nm24 bd24 (.cons rfl (.cons rfl .nil)) rfl (coTear (s := (TS K g (hpush T (5, (14, 1))) ws (rtT n))) (g := 4) (b := (g.bs 0).1) (r := rgNew 5 6 3 4) PC (by show look K.rg 4 = _; rw [hT.rg]; rfl) (TS_fits hT (rtT_ids n) (by rw [rtT_len]; omega) (by omega) (by omega)) (by show 60 + (rtT n).length ≤ 90000; rw [rtT_len]; omega)) fun _ => ?_
   obtain ⟨S1, hS1⟩ : ∃ S1, S1 = kTear (TS K g (hpush T (5, (14, 1))) ws (rtT n)) 4 := ⟨_, rfl⟩
   have he := tear_end hT hTW
   rw [← hS1] at he
   obtain ⟨he1, he2, he3, he4, he5⟩ := he
   refine J_pick (A := coA g.p _) PC ?_
   refine J_asTo (B := coA g.p S1) (by rw [hS1]) <| L_pur rfl (p_not rfl) <| mv rfl rfl <| J_bool (t := 77) (c := false) rfl (rfl) <| L_op <| G_on rfl rfl rfl <| J_pur (p_move rfl) rfl rfl rfl <| L_op <| G_on rfl rfl rfl ?_
   refine x_call Tryz.func24 nm24 bd24 (.cons rfl (.cons rfl .nil)) rfl (coTearNo (s := S1) (g := 4) PC he5) fun _ => ?_
   refine L_pur rfl (p_pick_f rfl rfl) <| mv rfl rfl <| J_bool (t := 81) (c := false) rfl (rfl) <| L_op <| G_on rfl rfl rfl <| J_pur (p_move rfl) rfl rfl rfl <| L_op <| G_on rfl rfl rfl ?_
   refine x_call Tryz.func10 nm10 bd10 (.cons rfl (.cons rfl .nil)) rfl (coRing (s := S1) (u := 4) PC) fun _ => ?_
   refine J_slot (t := 83) (v := .pointer none) rfl (by rw [look_ptrs, he5]; rfl) <| L_op <| G_on rfl rfl rfl <| J_pur (p_neNilPtr Tryz.underlying30 rfl) rfl rfl rfl <| L_pur rfl (p_pick_f rfl rfl) <| mv rfl rfl <| J_bool (t := 86) (c := false) rfl (rfl) <| L_op <| G_on rfl rfl rfl ?_
   refine J_pur (p_move rfl) rfl rfl rfl <| L_op <| G_on rfl rfl rfl <| x_call Tryz.func17 nm17 bd17 (.cons rfl .nil) rfl (ringTail (r := { rgNew 5 6 3 4 with over := [] }) PC) fun _ => ?_
   refine L_op <| G_on rfl rfl rfl <| J_pur (p_neq rfl rfl) rfl rfl rfl <| J_bool (t := 89) (c := false) rfl (by rfl) <| L_pur rfl (p_pick_f rfl rfl) <| nq <| J_bool (t := 90) (c := false) rfl (rfl) <| C_false rfl ?_
   refine J_skip <| qx <| mv rfl rfl <| L_op <| x_call Tryz.func11 nm11 bd11 (.cons rfl .nil) rfl (coJournal) fun _ => L_op <| x_call Tryz.func15 nm15 bd15 (.cons rfl .nil) rfl (coJAll (s := S1) PC (by rw [he1]; simp; omega)) <| JE (((List.range n).map deedT).map encD) (by rw [he1]) fun a93 c93 hw93 hl93 hm93 hz93 => ?_
   have hmd : (((List.range n).map deedT).map encD).length = n := by simp
   refine ag rfl rfl <| nxx <| mv rfl rfl <| L_pur rfl (p_len rfl Tryz.underlying44) <| mv rfl rfl <| L_pur rfl (p_neq rfl rfl) <| J_bool (t := 97) (c := false) rfl (by rw [hmd]; simp) <| mv rfl rfl ?_
   refine J_bool (t := 98) (c := false) rfl (rfl) <| L_op <| G_on rfl rfl rfl <| J_pur (p_move rfl) rfl rfl rfl <| L_op <| G_on rfl rfl rfl <| x_call Tryz.func9 nm9 bd9 (.cons rfl .nil) rfl (coReqs) fun _ => L_op <| G_on rfl rfl rfl ?_
   refine x_call Tryz.func16 nm16 bd16 (.cons rfl (.cons rfl .nil)) rfl (coRqOf (s := S1) (g := 4) PC (by rw [he2]; exact fun e he => by rw [List.mem_singleton.1 he]; rfl) (by rw [he2]; decide)) <| JR fun a101 c101 hw101 hl101 hm101 hz101 => L_op <| G_on rfl rfl rfl <| J_pur (p_len rfl Tryz.underlying46) rfl rfl rfl <| L_op <| G_on rfl rfl rfl <| J_pur (p_neq rfl rfl) rfl rfl rfl ?_
   refine J_bool (t := 103) (c := false) rfl (by rw [List.length_map, he2, tear_of.1]; rfl) <| L_pur rfl (p_pick_f rfl rfl) <| mv rfl rfl <| J_bool (t := 105) (c := false) rfl (rfl) <| L_op <| G_on rfl rfl rfl <| J_pur (p_move rfl) rfl rfl rfl <| L_op <| G_on rfl rfl rfl ?_
   refine x_call Tryz.func9 nm9 bd9 (.cons rfl .nil) rfl (coReqs) fun _ => L_op <| G_on rfl rfl rfl <| x_call Tryz.func16 nm16 bd16 (.cons rfl (.cons rfl .nil)) rfl (coRqOf (s := S1) (g := 14) PC (by rw [he2]; exact fun e he => by rw [List.mem_singleton.1 he]; rfl) (by rw [he2]; decide)) <| JR fun a108 c108 hw108 hl108 hm108 hz108 => L_op <| G_on rfl rfl rfl <| J_pur (p_len rfl Tryz.underlying46) rfl rfl rfl ?_
   refine L_op <| G_on rfl rfl rfl <| J_pur (p_neq rfl rfl) rfl rfl rfl <| J_bool (t := 110) (c := false) rfl (by rw [List.length_map, he2, tear_of.2]; rfl) <| L_pur rfl (p_pick_f rfl rfl) <| mv rfl rfl <| J_bool (t := 112) (c := false) rfl (rfl) <| L_op <| G_on rfl rfl rfl ?_
   refine J_pur (p_move rfl) rfl rfl rfl <| L_op <| G_on rfl rfl rfl <| x_call Tryz.func22 nm22 bd22 (.cons rfl .nil) rfl (coTimers) fun _ => L_op <| G_on rfl rfl rfl <| x_call Tryz.func25 nm25 bd25 (.cons rfl .nil) rfl (coTmLen (s := S1) PC (by omega)) fun _ => ?_
   refine L_op <| G_on rfl rfl rfl <| J_pur (p_neq rfl rfl) rfl rfl rfl <| J_bool (t := 116) (c := false) rfl (by rw [he3]; rfl) <| L_pur rfl (p_pick_f rfl rfl) <| mv rfl rfl <| J_bool (t := 118) (c := false) rfl (rfl) <| L_op <| G_on rfl rfl rfl ?_
   refine J_pur (p_move rfl) rfl rfl rfl <| L_op <| G_on rfl rfl rfl <| x_call Tryz.func19 nm19 bd19 (.cons rfl (.cons rfl .nil)) rfl (coNotif (s := S1) (u := 22) PC) fun _ => ?_
   refine J_slot (t := 120) (v := .pointer (some ⟨g.bn, 0, none⟩)) rfl (by rw [look_is he4]; rfl) <| L_op <| G_on rfl rfl rfl <| x_call Tryz.func26 nm26 bd26 (.cons rfl .nil) rfl (coNtWaits (s := S1) (u := 22) PC he4 (by decide)) <| JR fun a121 c121 hw121 hl121 hm121 hz121 => L_op <| G_on rfl rfl rfl <| J_pur (p_len rfl Tryz.underlying65) rfl rfl rfl ?_
   refine L_op <| G_on rfl rfl rfl <| J_pur (p_neq rfl rfl) rfl rfl rfl <| J_bool (t := 123) (c := false) rfl (by rfl) <| L_pur rfl (p_pick_f rfl rfl) <| nq <| J_bool (t := 124) (c := false) rfl (rfl) <| C_false rfl ?_
   refine J_skip <| Q_then <| J_seq <| sr <| ag rfl rfl <| nq <| J_block <| J_loop (α := Nat) (fun i => i ≤ n) (fun _ => [row 50 7 (.slice a93 (((List.range n).map deedT).map encD).length c93) (((List.range n).map deedT).map encD), old W]) (fun i => [(12, .int .i64 (i : Int)), (11, .slice a93 (((List.range n).map deedT).map encD).length c93), (0, .int .i64 (n : Int)), (5, .bool true)]) (fun i => n - i) 0 (by omega) SU KE ?_
   intro i hi
   refine J_seq <| sr <| mv rfl rfl <| mv rfl rfl <| L_pur rfl (p_lss rfl rfl) <| nq ?_
   refine C_dec rfl (fun h127 => ?_) (fun h127 => ?_)
   ·
    have hlt : i < n := by omega
    obtain ⟨bx, ox, rfl⟩ := hz93 (by intro h; rw [h] at hmd; simp at hmd; omega)
    have hcc : ((List.range n).map deedT)[i]? = some (deedT i) := by rw [List.getElem?_map, List.getElem?_range hlt]; rfl
    refine J_skip <| Q_then <| J_seq <| J_block <| sr <| mv rfl rfl <| mv rfl rfl <| L_pur rfl (p_indexAddr rfl rfl Tryz.underlying44 ty50 (by omega) (by omega)) ?_
    refine fa rfl rfl fa50_5 ?_
    refine L_val rfl (by first | exact v_loadF rfl ty4 HS (by first | (simp only [Int.toNat_natCast, List.getElem?_map, hcc]; rfl) | (simp only [Int.toNat_natCast, List.getElem?_map, hcd]; rfl) | simp | rfl) (by exact rfl) | exact v_loadRF rfl ty4 (fun w H => hr.old HS H) (by first | (simp only [Int.toNat_natCast, List.getElem?_map, hcc]; rfl) | (simp only [Int.toNat_natCast, List.getElem?_map, hcd]; rfl) | simp | rfl) (by exact rfl)) ?_
    refine L_pur rfl (p_not rfl) <| mv rfl rfl <| J_bool (t := 136) (c := false) rfl (rfl) <| L_op <| G_on rfl rfl rfl <| J_pur (p_move rfl) rfl rfl rfl <| L_op <| G_on rfl rfl rfl ?_
    refine J_pur (p_move rfl) rfl rfl rfl <| L_op <| G_on rfl rfl rfl <| J_pur (p_indexAddr rfl rfl Tryz.underlying44 ty50 (by omega) (by omega)) rfl rfl rfl <| L_op <| G_on rfl rfl rfl <| J_pur (p_fieldAddr rfl fa50_0) rfl rfl rfl <| L_op <| G_on rfl rfl rfl ?_
    refine J_val (by first | exact v_loadFA rfl ty36 HS (by first | (simp only [Int.toNat_natCast, List.getElem?_map, hcc]; rfl) | (simp only [Int.toNat_natCast, List.getElem?_map, hcd]; rfl) | simp | rfl) CT | exact v_loadRFA rfl ty36 (fun w H => hr.old HS H) (by first | (simp only [Int.toNat_natCast, List.getElem?_map, hcc]; rfl) | (simp only [Int.toNat_natCast, List.getElem?_map, hcd]; rfl) | simp | rfl) CT) rfl rfl rfl ?_
    refine L_op <| G_on rfl rfl rfl <| J_pur (p_move rfl) rfl rfl rfl <| L_op <| G_on rfl rfl rfl <| J_pur (p_add64 rfl rfl (by omega)) rfl rfl rfl <| L_op <| G_on rfl rfl rfl ?_
    refine J_pur (bld36 (.cons rfl (.cons rfl .nil)) (by repeat constructor)) rfl rfl rfl <| J_slot (t := 144) (v := .agg (encI (4, (i : Int) + 1)).toArray) rfl rfl <| L_op <| G_on rfl rfl rfl <| J_pur (p_nev rfl rfl (fun w => eg36 _ _ _ _ _ w) (fun w => nev36 _ _ _ _ w)) rfl rfl rfl <| J_bool (t := 145) (c := false) rfl (by simp [deedT, encI]) <| L_pur rfl (p_pick_f rfl rfl) <| mv rfl rfl ?_
    refine J_bool (t := 147) (c := false) rfl (rfl) <| L_op <| G_on rfl rfl rfl <| J_pur (p_move rfl) rfl rfl rfl <| L_op <| G_on rfl rfl rfl <| J_pur (p_move rfl) rfl rfl rfl <| L_op <| G_on rfl rfl rfl ?_
    refine J_pur (p_indexAddr rfl rfl Tryz.underlying44 ty50 (by omega) (by omega)) rfl rfl rfl <| L_op <| G_on rfl rfl rfl <| J_pur (p_fieldAddr rfl fa50_1) rfl rfl rfl <| L_op <| G_on rfl rfl rfl ?_
    refine J_val (by first | exact v_loadF rfl ty37 HS (by first | (simp only [Int.toNat_natCast, List.getElem?_map, hcc]; rfl) | (simp only [Int.toNat_natCast, List.getElem?_map, hcd]; rfl) | simp | rfl) (by exact rfl) | exact v_loadRF rfl ty37 (fun w H => hr.old HS H) (by first | (simp only [Int.toNat_natCast, List.getElem?_map, hcc]; rfl) | (simp only [Int.toNat_natCast, List.getElem?_map, hcd]; rfl) | simp | rfl) (by exact rfl)) rfl rfl rfl ?_
    refine L_op <| G_on rfl rfl rfl <| J_pur (p_move rfl) rfl rfl rfl <| L_op <| G_on rfl rfl rfl <| J_pur (p_add64 rfl rfl (by omega)) rfl rfl rfl <| L_op <| G_on rfl rfl rfl ?_
    refine J_pur (p_conv rfl Tryz.underlying3 Tryz.underlying37) rfl rfl rfl <| J_slot (t := 155) (v := .int .u32 ((i : Int) + 1)) rfl (by rw [wrap32u_of (by omega)]) <| L_op <| G_on rfl rfl rfl <| J_pur (p_neq rfl rfl) rfl rfl rfl <| J_bool (t := 156) (c := false) rfl (by simp [deedT]) <| L_pur rfl (p_pick_f rfl rfl) <| mv rfl rfl ?_
    refine J_bool (t := 158) (c := false) rfl (rfl) <| L_op <| G_on rfl rfl rfl <| J_pur (p_move rfl) rfl rfl rfl <| L_op <| G_on rfl rfl rfl <| J_pur (p_move rfl) rfl rfl rfl <| L_op <| G_on rfl rfl rfl ?_
    refine J_pur (p_indexAddr rfl rfl Tryz.underlying44 ty50 (by omega) (by omega)) rfl rfl rfl <| L_op <| G_on rfl rfl rfl <| J_pur (p_fieldAddr rfl fa50_2) rfl rfl rfl <| L_op <| G_on rfl rfl rfl ?_
    refine J_val (by first | exact v_loadF rfl ty3 HS (by first | (simp only [Int.toNat_natCast, List.getElem?_map, hcc]; rfl) | (simp only [Int.toNat_natCast, List.getElem?_map, hcd]; rfl) | simp | rfl) (by exact rfl) | exact v_loadRF rfl ty3 (fun w H => hr.old HS H) (by first | (simp only [Int.toNat_natCast, List.getElem?_map, hcc]; rfl) | (simp only [Int.toNat_natCast, List.getElem?_map, hcd]; rfl) | simp | rfl) (by exact rfl)) rfl rfl rfl ?_
    refine L_op <| G_on rfl rfl rfl <| J_pur (p_neq rfl rfl) rfl rfl rfl <| J_bool (t := 164) (c := false) rfl (by simp [deedT]) <| L_pur rfl (p_pick_f rfl rfl) <| nq <| J_bool (t := 165) (c := false) rfl (rfl) <| C_false rfl ?_
    refine J_skip <| Q_blk_normal <| qr <| mv rfl rfl <| L_pur rfl (p_add64 rfl rfl (by omega)) <| ag rfl rfl <| nq ?_
    exact J_again (i + 1) (by omega) (by omega) SU KE
   ·
    refine J_exit <| Q_then_exit <| Q_then_exit <| Q_blk_this <| qx <| mv rfl rfl <| ag rfl rfl <| nq ?_
    refine J_ret ?_
    exact J_return (()) Tryz.results5 (.tmp rfl .nil) rfl SU

end Go.Pse
