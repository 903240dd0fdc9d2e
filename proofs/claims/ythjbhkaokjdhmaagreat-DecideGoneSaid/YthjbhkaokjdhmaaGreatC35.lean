/-
  The law on what is gone, with whoever waits there, walked.
-/
import Derived.Test.YthjbhkaokjdhmaaGreatC34
namespace Go.Pse
open Go.RowKit Go.Proofs

/-! ### plain: what ends is told, and nothing comes -/
theorem del_eq {κ υ : Type} [DecidableEq κ] {ps : List (κ × υ)} {i : κ} {q : υ} (hK : Keyd ps) (h : look ps i = some q) : (del ps i).length + 1 = ps.length := by
  obtain ⟨j, hj⟩ := List.getElem?_of_mem (mem_look h)
  have hl := (List.getElem?_eq_some_iff.1 hj).1
  rw [del_at hK hj rfl, List.length_eraseIdx_of_lt hl]; omega
theorem Keyd.sub {κ υ : Type} {ps qs : List (κ × υ)} (h : Keyd ps) (hs : qs.Sublist ps) : Keyd qs := List.Nodup.sublist (hs.map _) h
def Cnt (s t : KS) (c : Nat) : Prop := t.jn.length + t.rt.length = s.jn.length + s.rt.length + c ∧ t.rt.Sublist s.rt
theorem kSaid_cnt {s : KS} {d : Deed} : Cnt s (kSaid s d) 1 := by
  unfold Cnt
  rw [kSaid_jn, kSaid_rt]
  exact ⟨by simp; omega, List.Sublist.refl _⟩
theorem kTell_cnt {D : KS → ID → Int → Int → KS} {n : Nat} (hD : ∀ s i r v, Keyd s.rt → s.rt.length ≤ n → Cnt s (D s i r v) 0) {s : KS} {d : Deed} (hK : Keyd s.rt) (hl : s.rt.length ≤ n) : Cnt s (kTell D s d) 1 := by
  unfold kTell
  split
  · exact kSaid_cnt
  · split
    · have h := fun (j : ID) (a c : Int) => hD (kRung (kSaid s d) d.1.1) j a c (by show Keyd (kSaid s d).rt; rw [kSaid_rt]; exact hK) (by show (kSaid s d).rt.length ≤ n; rw [kSaid_rt]; exact hl)
      have h2 := kSaid_cnt (s := s) (d := d)
      exact ⟨(h _ _ _).1.trans h2.1, (h _ _ _).2.trans h2.2⟩
    · exact kSaid_cnt
theorem kDec_cnt : ∀ n {s : KS} {i : ID} {r v : Int}, Keyd s.rt → s.rt.length ≤ n → Cnt s (kDec n s i r v) 0 ∧ (kDec n s i r v).rt.Sublist (del s.rt i)
  | 0, s, i, r, v, hK, hl => by
    have e : s.rt = [] := List.length_eq_zero_iff.1 (by omega)
    exact ⟨⟨rfl, List.Sublist.refl _⟩, by show s.rt.Sublist _; rw [e]; exact List.nil_sublist _⟩
  | n + 1, s, i, r, v, hK, hl => by
    cases hq : look s.rt i with
    | none => rw [kDec_none hq, del_no hq]; exact ⟨⟨rfl, List.Sublist.refl _⟩, List.Sublist.refl _⟩
    | some q =>
      have hde := del_eq hK hq
      have hKd : Keyd (del s.rt i) := hK.del i
      have h := kTell_cnt (D := kDec n) (n := n) (fun s i r v h1 h2 => (kDec_cnt n h1 h2).1) (s := kForget { s with rt := del s.rt i } i) (d := (i, q.e.tag, q.e.op, r, v, false)) hKd (by show (del s.rt i).length ≤ n; omega)
      rw [kDec_some hq]
      generalize kTell (kDec n) (kForget { s with rt := del s.rt i } i) (i, q.e.tag, q.e.op, r, v, false) = t at h
      have h1 : t.jn.length + t.rt.length = s.jn.length + (del s.rt i).length + 1 := h.1
      have h2 : t.rt.Sublist (del s.rt i) := h.2
      have h3 : (del s.rt i).Sublist s.rt := List.filter_sublist
      unfold kNext
      split
      · exact ⟨⟨by omega, h2.trans h3⟩, h2⟩
      · rename_i x hx
        split
        · have h4 := (kDec_cnt n (i := x.id) (r := -9) (v := 0) (hKd.sub h2) (by have := h2.length_le; omega)).1
          exact ⟨⟨by have := h4.1; omega, (h4.2.trans h2).trans h3⟩, h4.2.trans h2⟩
        · exact ⟨⟨by omega, h2.trans h3⟩, h2⟩
theorem kEnds_cnt : ∀ {l : List ID} {s : KS}, Keyd s.rt → Cnt s (kEnds s l) 0 ∧ ∀ e ∈ (kEnds s l).rt, e.1 ∉ l
  | [], s, _ => ⟨⟨rfl, List.Sublist.refl _⟩, fun _ _ h => by cases h⟩
  | i :: l, s, hK => by
    have h := kDec_cnt s.rt.length (s := s) (i := i) (r := -9) (v := 0) hK (Nat.le_refl _)
    have hK2 := hK.sub h.1.2
    have h2 := kEnds_cnt (l := l) hK2
    have e : kEnds s (i :: l) = kEnds (kDec s.rt.length s i (-9) 0) l := rfl
    rw [e]
    refine ⟨⟨by have := h.1.1; have := h2.1.1; omega, h2.1.2.trans h.1.2⟩, fun e he hm => ?_⟩
    rcases List.mem_cons.1 hm with h3 | h3
    · have h4 := (List.mem_filter.1 (h.2.subset (h2.1.2.subset he))).2
      simp [h3] at h4
    · exact h2.2 e he h3
def idsW (n : Nat) : List ID := (List.range n).map fun k : Nat => (4, (k : Int) + 1)
def rcvW (n : Nat) : List Rcv := (List.range n).map fun k : Nat => ((4, (k : Int) + 1), 0)
theorem idsW_snoc (n : Nat) : idsW (n + 1) = idsW n ++ [(4, (n : Int) + 1)] := by unfold idsW; rw [List.range_succ, List.map_append]; rfl
theorem rcvW_snoc (n : Nat) : rcvW (n + 1) = rcvW n ++ [((4, (n : Int) + 1), 0)] := by unfold rcvW; rw [List.range_succ, List.map_append]; rfl
theorem idsW_len (n : Nat) : (idsW n).length = n := by simp [idsW]
theorem rcvW_len (n : Nat) : (rcvW n).length = n := by simp [rcvW]
theorem rcvW_ids (n : Nat) : (([] : List Msg).map Prod.fst ++ (rcvW n).map Prod.fst) = idsW n := by unfold rcvW idsW; rw [List.map_map]; rfl
theorem idsW_wait (n : Nat) : waitL 0 (idsW n) (4, (n : Int) + 1) = idsW (n + 1) := by
  rw [idsW_snoc]
  unfold waitL lpush
  rw [if_pos rfl, if_neg]
  intro h
  obtain ⟨k, hk, he⟩ := List.mem_map.1 h
  have := congrArg Prod.snd he
  have hk2 := List.mem_range.1 hk
  simp at this
  omega
def rtD (j n : Nat) : List (ID × Rq) := (rtW n).filter fun e => decide ((j : Int) < e.1.2)
theorem rtD_zero (n : Nat) : rtD 0 n = rtW n := List.filter_eq_self.2 fun e he => by
  obtain ⟨k, _, rfl⟩ := rtW_mem.1 he
  first | (simp; omega) | simp
theorem rtD_keyd (j n : Nat) : Keyd (rtD j n) := (rtW_keyd n).sub List.filter_sublist
theorem rtD_look {j n : Nat} (h : j < n) : look (rtD j n) (4, (j : Int) + 1) = some (rqW j) := look_mem (rtD_keyd j n) (List.mem_filter.2 ⟨rtW_mem.2 ⟨j, h, rfl⟩, by simp; omega⟩)
theorem rtD_del {j n : Nat} : del (rtD j n) (4, (j : Int) + 1) = rtD (j + 1) n := by
  unfold del rtD
  rw [List.filter_filter]
  refine List.filter_congr fun e he => ?_
  obtain ⟨k, _, rfl⟩ := rtW_mem.1 he
  rw [Bool.eq_iff_iff]
  simp
  omega
theorem rtD_len {j n : Nat} (h : j ≤ n) : (rtD j n).length = n - j := by
  induction j with
  | zero => rw [rtD_zero, rtW_len]; rfl
  | succ j ih =>
    have h1 := del_eq (rtD_keyd j n) (rtD_look (j := j) (n := n) (by omega))
    rw [rtD_del, ih (by omega)] at h1
    omega
theorem rtD_of {j n : Nat} : (ofQ (rtD j n) 4).length = (rtD j n).length := by
  unfold ofQ ofRing
  rw [sortF_len, List.length_map, List.filter_eq_self.2]
  intro e he
  obtain ⟨k, _, rfl⟩ := rtW_mem.1 (List.mem_filter.1 he).1
  rfl
def deedE (k : Nat) : Deed := ((4, (k : Int) + 1), (k : Int) + 1, 15, -9, 0, false)
/-- The first j of n have ended. -/
structure PEnd (K : KS) (g : NewG) (n j : Nat) (s : KS) : Prop where
  rt : s.rt = rtD j n
  jn : s.jn = (List.range j).map deedE
  nt : ∃ w, s.nt = [(22, g.bn, w, [])]
  be : s.be = K.be
theorem PEnd.step {K : KS} {g : NewG} (hT : Duo K g) {n j : Nat} {s : KS} (h : PEnd K g n j s) (hj : j < n) : PEnd K g n (j + 1) (kDec s.rt.length s (4, (j : Int) + 1) (-9) 0) := by
  have hq : look s.rt (4, (j : Int) + 1) = some (rqW j) := by rw [h.rt]; exact rtD_look hj
  have hl := del_less hq
  obtain ⟨f, hf⟩ : ∃ f, s.rt.length = f + 1 := ⟨s.rt.length - 1, by omega⟩
  obtain ⟨w, hw⟩ := h.nt
  obtain ⟨t, ht⟩ : ∃ t : KS, t = kForget { s with rt := del s.rt (4, (j : Int) + 1) } (4, (j : Int) + 1) := ⟨_, rfl⟩
  have e1 : t.rt = rtD (j + 1) n := by rw [ht]; show del s.rt _ = _; rw [h.rt, rtD_del]
  have e2 : t.jn = (List.range j).map deedE := by rw [ht]; exact h.jn
  have e3 : t.nt = [(22, g.bn, w, [])] := by rw [ht]; show allO _ s.nt = _; rw [hw]; rfl
  have e4 : t.be = K.be := by rw [ht]; exact h.be
  have hwk : woke w [] 1 = false := by simp [woke]
  rw [hf, kDec_some hq, ← ht, show ((4, (j : Int) + 1), (rqW j).e.tag, (rqW j).e.op, -9, 0, false) = deedE j from rfl, kTell_sleeps (d := deedE j) (u := 22) (x := 1) (b := g.bn) (w := w) (xs := []) (by rw [e4]; exact hT.be4) (by rw [e3]; rfl) hwk]
  obtain ⟨t2, ht2⟩ : ∃ t2 : KS, t2 = { kSaid t (deedE j) with nt := updO t.nt 22 (ntS 1) } := ⟨_, rfl⟩
  rw [← ht2]
  have k1 : t2.rt = rtD (j + 1) n := by rw [ht2]; show (kSaid t (deedE j)).rt = _; rw [kSaid_rt, e1]
  unfold kNext
  rw [afterQ_no (fun e he => by
    rw [k1] at he
    obtain ⟨k, _, rfl⟩ := rtW_mem.1 (List.mem_filter.1 he).1
    show (0 : Int) ≠ (j : Int) + 1; omega)]
  refine ⟨k1, ?_, ?_, ?_⟩
  · rw [ht2]; show (kSaid t (deedE j)).jn = _; rw [kSaid_jn, e2, List.range_succ, List.map_append]; rfl
  · rw [ht2]
    refine ⟨sigW w [] 1, ?_⟩
    show updO t.nt 22 (ntS 1) = _
    rw [e3]
    simp [updO, ntS, sigL, hwk]
  · rw [ht2]; show (kSaid t (deedE j)).be = _; rw [kSaid_be, e4]
theorem PEnd.ends {K : KS} {g : NewG} (hT : Duo K g) {n : Nat} {s : KS} (h : PEnd K g n 0 s) : ∀ {j : Nat}, j ≤ n → PEnd K g n j (kEnds s (idsW j))
  | 0, _ => h
  | j + 1, hj => by
    rw [idsW_snoc, kEnds_snoc]
    exact (PEnd.ends hT h (j := j) (by omega)).step hT (by omega)
theorem nt_ends {s : KS} {n : Nat} (h : s.rt = rtW n) (hj : s.jn = []) : (kEnds s (idsW n)).rt = [] ∧ (kEnds s (idsW n)).jn.length = n := by
 obtain ⟨⟨h1, h2⟩, h3⟩ := kEnds_cnt (l := idsW n) (s := s) (by rw [h]; exact rtW_keyd n)
 have e : (kEnds s (idsW n)).rt = [] := by
  cases hr : (kEnds s (idsW n)).rt with
  | nil => rfl
  | cons x xs =>
   have hx : x ∈ (kEnds s (idsW n)).rt := by rw [hr]; exact List.mem_cons_self
   have h4 := h3 x hx
   have h5 := h2.subset hx
   rw [h] at h5
   obtain ⟨k, hk, rfl⟩ := rtW_mem.1 h5
   exact absurd (List.mem_map.2 ⟨k, List.mem_range.2 hk, rfl⟩) h4
 refine ⟨e, ?_⟩
 rw [e, h, hj, rtW_len] at h1
 simpa using h1
def cR (j : Nat) : ID × Bool := if j = 0 then ((0, 0), false) else ((4, 1), true)
set_option maxRecDepth 100000 in
theorem duo_q (g : NewG) : (kNew 2 3 3 4 true g).q.length ≤ 90000 ∧ (kNew 2 3 3 4 true g).mp.length ≤ 1000000 := by
  have h1 : (kNew 2 3 3 4 true g).q.length = 2 := rfl
  have h2 : (kNew 2 3 3 4 true g).mp.length = 4 := rfl
  omega
/-- The state that waits: at an endpoint, a notification, a reply. -/
def SE (K : KS) (g : NewG) (n j : Nat) : KS := { K with rt := rtW n, ep := [(21, g.be, [], rcvW j)] }
def SN (K : KS) (g : NewG) (n j : Nat) : KS := { K with rt := rtW n, nt := [(22, g.bn, 0, idsW j)] }
def SR (K : KS) (g : NewG) (n j : Nat) : KS := { K with rt := rtW n, rp := [(7, (g.bs 0).2, cR j), (17, (g.bs 1).2, (0, 0), false)] }
theorem SE_fits {K : KS} {g : NewG} (hT : Duo K g) {n j : Nat} (hn : n ≤ 12) (hj : j ≤ 12) : Fits (SE K g n j) 20 60 := by
  have h := hT.fits (rtW_ids n) (by rw [rtW_len]; omega)
  exact ⟨h.n, h.mm, h.ids, h.jn, h.tm, fun x hx => by
    obtain rfl := List.mem_singleton.1 (show x ∈ [(21, g.be, [], rcvW j)] from hx)
    exact ⟨⟨by show (1 : Int) ≤ 21; omega, by show (21 : Int) ≤ 64; omega⟩, by show 0 ≤ 20; omega, by show (rcvW j).length ≤ 20; rw [rcvW_len]; omega⟩, h.nt, h.rp, h.rg, h.mem⟩
theorem SN_fits {K : KS} {g : NewG} (hT : Duo K g) {n j : Nat} (hn : n ≤ 12) (hj : j ≤ 12) : Fits (SN K g n j) 20 60 := by
  have h := hT.fits (rtW_ids n) (by rw [rtW_len]; omega)
  exact ⟨h.n, h.mm, h.ids, h.jn, h.tm, h.ep, fun x hx => by
    obtain rfl := List.mem_singleton.1 (show x ∈ [(22, g.bn, 0, idsW j)] from hx)
    exact ⟨⟨by show (1 : Int) ≤ 22; omega, by show (22 : Int) ≤ 64; omega⟩, by show (idsW j).length ≤ 20; rw [idsW_len]; omega⟩, h.rp, h.rg, h.mem⟩
theorem SR_fits {K : KS} {g : NewG} (hT : Duo K g) {n j : Nat} (hn : n ≤ 12) : Fits (SR K g n j) 20 60 := by
  have h := hT.fits (rtW_ids n) (by rw [rtW_len]; omega)
  exact ⟨h.n, h.mm, h.ids, h.jn, h.tm, h.ep, h.nt, fun x hx => by
    have h : x ∈ [(7, (g.bs 0).2, cR j), (17, (g.bs 1).2, (0, 0), false)] := hx
    rcases List.mem_cons.1 h with rfl | h
    · exact ⟨by show (1 : Int) ≤ 7; omega, by show (7 : Int) ≤ 64; omega⟩
    · obtain rfl := List.mem_singleton.1 h
      exact ⟨by show (1 : Int) ≤ 17; omega, by show (17 : Int) ≤ 64; omega⟩, h.rg, h.mem⟩
theorem SE_pe {K : KS} {g : NewG} (hT : Duo K g) (n : Nat) : PEnd K g n 0 (SE K g n n) := ⟨(rtD_zero n).symm, hT.jn, ⟨0, hT.nt⟩, rfl⟩
theorem SR_pe {K : KS} {g : NewG} (hT : Duo K g) (n j : Nat) : PEnd K g n 0 (SR K g n j) := ⟨(rtD_zero n).symm, hT.jn, ⟨0, hT.nt⟩, rfl⟩
theorem cR_ids (n : Nat) : (if (cR n).2 = true then [(cR n).1] else []) = idsW (min n 1) := by
  unfold cR
  by_cases h : n = 0
  · subst h; rfl
  · rw [if_neg h, show min n 1 = 1 by omega]; rfl
set_option maxRecDepth 100000 in
set_option maxHeartbeats 4000000 in
theorem decideGone0 {E W : World} {z y : Int} (hk : num y (3 : Int) = 0) :
  Con Tryz.prog 6 #[.int .i64 z, .int .i64 y] E [old W] (fun _ : Unit => .bool true) (fun _ => [old W]) := by
 refine Con.body (vs := [.int .i64 z, .int .i64 y]) (n := 150) Tryz.func6 rfl rfl [(0, .int .i64 z), (1, .int .i64 y)] (env_ok 2 rfl) <| sr <| ag rfl rfl <| nx <| L_op <| x_call Tryz.func7 nm7 bd7 .nil rfl (first24) fun _ => ag rfl rfl <| nxx ?_
 refine mv rfl rfl <| L_pur rfl (p_not rfl) <| nq <| J_bool (t := 16) (c := false) rfl (rfl) <| C_false rfl <| J_skip <| qx <| mv rfl rfl ?_
 refine L_op <| x_call Tryz.func13 nm13 bd13 (.cons rfl (.cons rfl .nil)) rfl (number (by omega) (by omega)) fun _ => ?_
 obtain ⟨n, hn⟩ : ∃ n, n = num z (10 : Nat) := ⟨_, rfl⟩
 have hn10 : n < 10 := by rw [hn]; exact num_lt' (by omega)
 refine J_slot (t := 18) (v := .int .i64 (n : Int)) rfl (by rw [hn]; rfl) <| ag rfl rfl <| nx <| mv rfl rfl <| L_op <| x_call Tryz.func18 nm18 bd18 (.cons rfl .nil) rfl (made24 (n := n) (by omega)) fun g => ?_
 have hT := duo_is g
 have hqm := duo_q g
 obtain ⟨K, hK⟩ : ∃ K, K = kNew 2 3 3 4 true g := ⟨_, rfl⟩
 rw [← hK] at hT hqm
 refine J_pick (A := coA g.p _) PC ?_
 refine J_asTo (B := coA g.p (SE K g n 0)) (by unfold SE; rw [show rcvW 0 = [] from rfl, ← hT.ep, hK]) <| ag rfl rfl <| nxx <| mv rfl rfl <| L_pur rfl (p_eqNilPtr Tryz.underlying24 rfl) <| mv rfl rfl <| J_bool (t := 23) (c := false) rfl (rfl) <| L_op <| G_on rfl rfl rfl ?_
 refine J_pur (p_move rfl) rfl rfl rfl <| L_op <| G_on rfl rfl rfl <| x_call Tryz.func27 nm27 bd27 (.cons rfl (.cons rfl .nil)) rfl (coReply (s := (SE K g n 0)) (u := 7) PC) fun _ => ?_
 refine J_slot (t := 25) (v := .pointer (some ⟨(g.bs 0).2, 0, none⟩)) rfl (by rw [show KS.rp (SE K g n 0) = K.rp from rfl, hT.rp]; rfl) <| L_op <| G_on rfl rfl rfl <| J_pur (p_eqNilPtr Tryz.underlying68 rfl) rfl rfl rfl <| L_pur rfl (p_pick_f rfl rfl) <| nq <| J_bool (t := 27) (c := false) rfl (rfl) <| C_false rfl ?_
 refine J_skip <| qx <| mv rfl rfl <| L_op <| x_call Tryz.func13 nm13 bd13 (.cons rfl (.cons rfl .nil)) rfl (number (by omega) (by omega)) fun _ => J_slot (t := 29) (v := .int .i64 0) rfl (by rw [hk]; rfl) <| ag rfl rfl <| nxx ?_
 refine ag rfl rfl <| J_slot (t := 8) (v := .int .i64 (((0 : Nat) : Int) + 1)) rfl rfl <| nq <| J_block <| J_loop (α := Nat) (fun j => j ≤ n) (fun j => [coA g.p (SE K g n j), old W]) (fun j => [(8, .int .i64 ((j : Int) + 1)), (0, .int .i64 (n : Int)), (7, .int .i64 0), (6, .pointer (some ⟨g.p, 0, none⟩)), (5, .bool true)]) (fun j => n - j) 0 (by omega) SU KE ?_
 intro j hj
 refine J_seq <| sr <| mv rfl rfl <| mv rfl rfl <| L_pur rfl (p_leq rfl rfl) <| nq ?_
 refine C_dec rfl (fun h32 => ?_) (fun h32 => ?_)
 ·
  refine J_skip <| Q_then <| J_seq <| J_block <| sr <| mv rfl rfl <| L_pur rfl (bld36 (.cons rfl (.cons rfl .nil)) (by repeat constructor)) <| J_slot (t := 36) (v := .agg (encI (4, (j : Int) + 1)).toArray) rfl rfl ?_
  refine L_op <| x_alloc ty36 rfl fun b9 => L_op <| x_store rfl rfl ty36 rfl SM SM RO PT ?_
  refine J_pick (A := blk b9 _ _) PC ?_
  refine J_asTo (B := blk b9 36 (encI (4, (j : Int) + 1))) (by rfl) <| nx <| mv rfl rfl <| nq <| J_block <| sr <| L_pur rfl (p_eql rfl rfl) <| ag rfl rfl ?_
  refine nq <| J_bool (t := 44) (c := true) rfl (rfl) <| C_true rfl <| J_drawL (some 4) mixed <| ip 0 rfl rfl rfl rfl (p_move rfl) <| iv 2 rfl rfl rfl rfl (fun _ => v_loadA rfl ty36 HS CT) ?_
  refine i1 1 rfl <| x_call Tryz.func28 nm28 bd28 (.cons rfl (.cons rfl .nil)) rfl (coEp (s := (SE K g n j)) (u := 21) PC) fun _ => ?_
  refine J_slot (t := 47) (v := .pointer (some ⟨g.be, 0, none⟩)) rfl rfl <| i1 3 rfl <| x_call Tryz.func30 nm30 bd30 (.cons rfl .nil) rfl (recvC (i := (4, (j : Int) + 1))) fun _ => i1 4 rfl <| x_call Tryz.func29 nm29 bd29 (.cons rfl (.cons rfl .nil)) rfl (coEpRecv (s := (SE K g n j)) (u := 21) (inn := rcvW j) (y := ((4, (j : Int) + 1), 0)) PC rfl (by rw [rcvW_len]; omega)) fun _ => ?_
  refine J_pick (A := coA g.p _) PC ?_
  refine J_asTo (B := coA g.p (SE K g n (j + 1))) (by unfold SE; rw [rcvW_snoc]; rfl) <| i0 <| Q_blk_normal <| Q_blk_normal <| qr <| mv rfl rfl <| L_pur rfl (p_add64 rfl rfl (by omega)) <| ag rfl rfl ?_
  refine nq <| J_slot (t := 8) (v := .int .i64 (((j + 1 : Nat) : Int) + 1)) rfl (by first | rfl | push_cast) ?_
  exact J_again (j + 1) (by omega) (by omega) SU KE
 ·
  have hjn : j = n := by omega
  rw [hjn]
  refine J_exit <| Q_then_exit <| Q_then_exit <| Q_blk_this <| qx <| mv rfl rfl <| ag rfl rfl <| nx ?_
  refine L_pur rfl (bld82 (.cons rfl (.cons rfl .nil)) (by repeat constructor)) <| L_op <| x_alloc ty82 rfl fun b11 => L_op <| x_store rfl rfl ty82 rfl SM SM RO PT ?_
  refine J_pick (A := blk b11 _ _) PC ?_
  refine J_asTo (B := blk b11 82 (encI (4, 21))) (by rfl) <| nxx <| mv rfl rfl <| L_pur rfl (p_eql rfl rfl) <| nq <| J_bool (t := 60) (c := false) rfl (rfl) <| C_false rfl <| J_skip ?_
  refine Q_then <| J_seq <| sr <| mv rfl rfl <| L_pur rfl (p_eql rfl rfl) <| nq <| J_bool (t := 63) (c := false) rfl (rfl) <| C_false rfl ?_
  refine J_skip <| qx <| mv rfl rfl ?_
  have hF0 : Fits (SE K g n n) 20 60 := SE_fits hT (by omega) (by omega)
  have hWt : ∀ (E : World) (l m : List As), Pick (coA g.p (SE K g n n)) l m → Con Tryz.prog 82 #[.pointer (some ⟨g.p, 0, none⟩), .agg (encI (4, 21)).toArray] E l (fun v : Value => v) (fun v => row 36 2 v ((idsW n).map encI) :: coA g.p (SE K g n n) :: m) := fun E l m hp => by
   have h := coWaitsEp (s := (SE K g n n)) (u := 21) (b := g.be) (out := []) (inn := rcvW n) (E := E) hp rfl (by decide) (by rw [rcvW_len]; omega)
   rw [rcvW_ids] at h
   exact h
  refine L_val rfl (v_loadA rfl ty82 HS CT) ?_
  refine L_op <| x_lit (vals := [_]) Tryz.underlying151 ty82 rfl (.cons rfl .nil) (.agg .nil) (Wf.cons rfl rfl Wf.nil) rfl (by decide) rfl rfl <| JE ([encI (4, 21)]) (by rfl) fun a69 c69 hw69 hl69 hm69 hz69 => L_op <| x_call Tryz.func32 nm32 bd32 (.cons rfl (.cons rfl .nil)) rfl (coDestroy (s := (SE K g n n)) (k := 4) (u := 21) (ws := (idsW n)) PX (by decide) hWt hF0 hqm.1 hqm.2) fun _ => ?_
  obtain ⟨S1, hS1⟩ : ∃ S1, S1 = kEnds (SE K g n n) (idsW n) := ⟨_, rfl⟩
  obtain ⟨S2, hS2⟩ : ∃ S2, S2 = kGone S1 4 21 := ⟨_, rfl⟩
  have hF1 : Fits S1 20 60 := by rw [hS1]; exact hF0.ends
  refine J_pick (A := coA g.p _) PC ?_
  refine J_asTo (B := coA g.p S2) (by rw [hS2, hS1]) ?_
  have g1 : S2.jn = S1.jn := by rw [hS2]; rfl
  have g2 : S2.rt = S1.rt := by rw [hS2]; rfl
  have g3 : look S2.ep 21 = none := by rw [hS2]; exact look_rem
  have hE := (SE_pe hT n).ends hT (j := n) (by omega)
  rw [← hS1] at hE
  have hjn2 : S2.jn = ((List.range n).map deedE) := by rw [g1, hE.jn]
  have hlen : S2.jn.length = n := by rw [hjn2]; simp
  refine nx <| mv rfl rfl <| L_op <| x_call Tryz.func11 nm11 bd11 (.cons rfl .nil) rfl (coJournal) fun _ => L_op <| x_call Tryz.func15 nm15 bd15 (.cons rfl .nil) rfl (coJAll (s := S2) PC (by omega)) <| JE (((List.range n).map deedE).map encD) (by rw [hjn2]) fun a73 c73 hw73 hl73 hm73 hz73 => ?_
  have hmd : (((List.range n).map deedE).map encD).length = n := by rw [List.length_map, List.length_map, List.length_range]
  refine ag rfl rfl <| nxx <| mv rfl rfl <| L_pur rfl (p_len rfl Tryz.underlying44) <| mv rfl rfl <| L_pur rfl (p_lss rfl rfl) <| J_bool (t := 77) (c := false) rfl (by rw [hmd]; simp) <| nq ?_
  refine J_bool (t := 77) (c := false) rfl (rfl) <| C_false rfl <| J_skip <| Q_then <| J_seq <| sr <| mv rfl rfl <| L_pur rfl (p_neq rfl rfl) ?_
  refine mv rfl rfl <| J_bool (t := 80) (c := true) rfl (rfl) <| L_op <| G_on rfl rfl rfl <| J_pur (p_move rfl) rfl rfl rfl <| L_op <| G_on rfl rfl rfl <| J_pur (p_len rfl Tryz.underlying44) rfl rfl rfl ?_
  refine L_op <| G_on rfl rfl rfl <| J_pur (p_move rfl) rfl rfl rfl <| L_op <| G_on rfl rfl rfl <| J_pur (p_neq rfl rfl) rfl rfl rfl <| J_bool (t := 84) (c := false) rfl (by rw [hmd]; simp) <| L_pur rfl (p_pick_t rfl rfl) ?_
  refine nq <| J_bool (t := 85) (c := false) rfl (rfl) <| C_false rfl <| J_skip <| Q_then <| J_seq <| sr <| ag rfl rfl ?_
  refine nq <| J_block <| J_loop (α := Nat) (fun i => i ≤ n) (fun _ => [row 50 7 (.slice a73 (((List.range n).map deedE).map encD).length c73) (((List.range n).map deedE).map encD), coA g.p S2, old W]) (fun i => [(13, .int .i64 (i : Int)), (12, .slice a73 (((List.range n).map deedE).map encD).length c73), (10, .int .i64 ((n : Nat) : Int)), (0, .int .i64 (n : Int)), (7, .int .i64 0), (6, .pointer (some ⟨g.p, 0, none⟩)), (5, .bool true)]) (fun i => n - i) 0 (by omega) SU KE ?_
  intro i hi
  refine J_seq <| sr <| mv rfl rfl <| mv rfl rfl <| L_pur rfl (p_lss rfl rfl) <| nq ?_
  refine C_dec rfl (fun h88 => ?_) (fun h88 => ?_)
  ·
   have hlt : i < n := by omega
   obtain ⟨bx, ox, rfl⟩ := hz73 (by intro h; rw [h] at hmd; simp at hmd; omega)
   have hcc : ((List.range n).map deedE)[i]? = some (deedE i) := by rw [List.getElem?_map, List.getElem?_range hlt]; rfl
   refine J_skip <| Q_then <| J_seq <| J_block <| sr <| mv rfl rfl <| L_pur rfl (p_neq rfl rfl) <| mv rfl rfl ?_
   refine J_bool (t := 93) (c := true) rfl (rfl) <| L_op <| G_on rfl rfl rfl <| J_pur (p_move rfl) rfl rfl rfl <| L_op <| G_on rfl rfl rfl <| J_pur (p_move rfl) rfl rfl rfl <| L_op <| G_on rfl rfl rfl ?_
   refine J_pur (p_indexAddr rfl rfl Tryz.underlying44 ty50 (by omega) (by omega)) rfl rfl rfl <| L_op <| G_on rfl rfl rfl <| J_pur (p_fieldAddr rfl fa50_0) rfl rfl rfl <| L_op <| G_on rfl rfl rfl ?_
   refine J_val (v_loadFA rfl ty36 HS (by first | (simp only [Int.toNat_natCast, List.getElem?_map, hcc]; rfl) | (simp only [Int.toNat_natCast, List.getElem?_map, hcd]; rfl) | simp | rfl) CT) rfl rfl rfl ?_
   refine L_op <| G_on rfl rfl rfl <| J_pur (p_move rfl) rfl rfl rfl <| L_op <| G_on rfl rfl rfl <| J_pur (p_add64 rfl rfl (by omega)) rfl rfl rfl <| L_op <| G_on rfl rfl rfl ?_
   refine J_pur (bld36 (.cons rfl (.cons rfl .nil)) (by repeat constructor)) rfl rfl rfl <| J_slot (t := 101) (v := .agg (encI (4, (i : Int) + 1)).toArray) rfl rfl <| L_op <| G_on rfl rfl rfl <| J_pur (p_nev rfl rfl (fun w => eg36 _ _ _ _ _ w) (fun w => nev36 _ _ _ _ w)) rfl rfl rfl <| J_bool (t := 102) (c := false) rfl (by simp [deedE, encI]) <| L_op <| G_on rfl rfl rfl ?_
   refine J_pur (p_move rfl) rfl rfl rfl <| J_bool (t := 103) (c := false) rfl (rfl) <| L_op <| G_on rfl rfl rfl <| J_pur (p_move rfl) rfl rfl rfl <| L_op <| G_on rfl rfl rfl <| J_pur (p_move rfl) rfl rfl rfl ?_
   refine L_op <| G_on rfl rfl rfl <| J_pur (p_indexAddr rfl rfl Tryz.underlying44 ty50 (by omega) (by omega)) rfl rfl rfl <| L_op <| G_on rfl rfl rfl <| J_pur (p_fieldAddr rfl fa50_3) rfl rfl rfl <| L_op <| G_on rfl rfl rfl ?_
   refine J_val (v_loadF rfl ty3 HS (by first | (simp only [Int.toNat_natCast, List.getElem?_map, hcc]; rfl) | (simp only [Int.toNat_natCast, List.getElem?_map, hcd]; rfl) | simp | rfl) (by exact rfl)) rfl rfl rfl ?_
   refine L_op <| G_on rfl rfl rfl <| J_pur (p_neq rfl rfl) rfl rfl rfl <| J_bool (t := 109) (c := false) rfl (by simp [deedE]) <| L_op <| G_on rfl rfl rfl <| J_pur (p_pick_f rfl rfl) rfl rfl rfl <| L_pur rfl (p_pick_t rfl rfl) ?_
   refine nq <| J_bool (t := 111) (c := false) rfl (rfl) <| C_false rfl <| J_skip <| Q_blk_normal <| qr <| mv rfl rfl <| L_pur rfl (p_add64 rfl rfl (by omega)) ?_
   refine ag rfl rfl <| nq ?_
   exact J_again (i + 1) (by omega) (by omega) SU KE
  ·
   refine J_exit <| Q_then_exit <| Q_then_exit <| Q_blk_this <| qx <| mv rfl rfl <| mv rfl rfl <| J_bool (t := 113) (c := true) rfl (rfl) ?_
   refine L_op <| G_on rfl rfl rfl <| J_pur (p_move rfl) rfl rfl rfl <| L_op <| G_on rfl rfl rfl <| J_pur (p_neq rfl rfl) rfl rfl rfl <| L_op <| G_on rfl rfl rfl ?_
   refine J_pur (p_move rfl) rfl rfl rfl <| J_bool (t := 116) (c := false) rfl (rfl) <| L_op <| G_on rfl rfl rfl <| J_pur (p_move rfl) rfl rfl rfl <| L_op <| G_on rfl rfl rfl <| x_call Tryz.func28 nm28 bd28 (.cons rfl (.cons rfl .nil)) rfl (coEp (s := S2) (u := 21) PC) fun _ => ?_
   refine J_slot (t := 118) (v := .pointer none) rfl (by rw [look_ptrs, g3]; rfl) <| L_op <| G_on rfl rfl rfl <| J_pur (p_eqNilPtr Tryz.underlying73 rfl) rfl rfl rfl <| L_op <| G_on rfl rfl rfl <| J_pur (p_pick_f rfl rfl) rfl rfl rfl <| L_pur rfl (p_pick_t rfl rfl) ?_
   refine mv rfl rfl <| J_bool (t := 122) (c := true) rfl (rfl) <| L_op <| G_on rfl rfl rfl <| J_pur (p_move rfl) rfl rfl rfl <| L_op <| G_on rfl rfl rfl <| J_pur (p_neq rfl rfl) rfl rfl rfl ?_
   refine L_op <| G_on rfl rfl rfl <| J_pur (p_move rfl) rfl rfl rfl <| J_bool (t := 125) (c := true) rfl (rfl) <| L_op <| G_off rfl rfl rfl rfl rfl rfl <| L_op <| G_off rfl rfl rfl rfl rfl rfl ?_
   refine L_op <| G_off rfl rfl rfl rfl rfl rfl <| L_op <| G_on rfl rfl rfl <| J_pur (p_pick_t rfl rfl) rfl rfl rfl <| L_pur rfl (p_pick_t rfl rfl) <| mv rfl rfl <| L_op <| G_on rfl rfl rfl ?_
   refine J_pur (p_move rfl) rfl rfl rfl <| L_op <| G_on rfl rfl rfl <| J_pur (p_neq rfl rfl) rfl rfl rfl <| L_op <| G_on rfl rfl rfl <| J_pur (p_move rfl) rfl rfl rfl <| J_bool (t := 134) (c := true) rfl (rfl) ?_
   refine L_op <| G_off rfl rfl rfl rfl rfl rfl <| L_op <| G_off rfl rfl rfl rfl rfl rfl <| L_op <| G_off rfl rfl rfl rfl rfl rfl <| L_op <| G_on rfl rfl rfl ?_
   refine J_pur (p_pick_t rfl rfl) rfl rfl rfl <| L_pur rfl (p_pick_t rfl rfl) <| mv rfl rfl <| L_op <| G_on rfl rfl rfl <| J_pur (p_move rfl) rfl rfl rfl <| L_op <| G_on rfl rfl rfl ?_
   refine x_call Tryz.func9 nm9 bd9 (.cons rfl .nil) rfl (coReqs) fun _ => L_op <| G_on rfl rfl rfl <| x_call Tryz.func16 nm16 bd16 (.cons rfl (.cons rfl .nil)) rfl (coRqOf (s := S2) (g := 4) PC (by rw [g2]; exact hF1.ids) (by rw [g2]; have := hF1.jn; omega)) <| JR fun a143 c143 hw143 hl143 hm143 hz143 => L_op <| G_on rfl rfl rfl <| J_pur (p_len rfl Tryz.underlying46) rfl rfl rfl ?_
   refine L_op <| G_on rfl rfl rfl <| J_pur (p_move rfl) rfl rfl rfl <| L_op <| G_on rfl rfl rfl <| J_pur (p_move rfl) rfl rfl rfl <| L_op <| G_on rfl rfl rfl ?_
   refine J_pur (p_sub64 rfl rfl (by omega)) rfl rfl rfl <| L_op <| G_on rfl rfl rfl <| J_pur (p_eql rfl rfl) rfl rfl rfl <| J_bool (t := 148) (c := true) rfl (by rw [List.length_map, g2, hE.rt, rtD_of, rtD_len (by omega), decide_eq_true_eq]; omega) <| L_pur rfl (p_pick_t rfl rfl) <| ag rfl rfl <| nq ?_
   refine J_ret ?_
   exact J_return (()) Tryz.results6 (.tmp rfl .nil) rfl SU

set_option maxRecDepth 100000 in
set_option maxHeartbeats 4000000 in
theorem decideGone1 {E W : World} {z y : Int} (hk : num y (3 : Int) = 1) :
  Con Tryz.prog 6 #[.int .i64 z, .int .i64 y] E [old W] (fun _ : Unit => .bool true) (fun _ => [old W]) := by
 refine Con.body (vs := [.int .i64 z, .int .i64 y]) (n := 150) Tryz.func6 rfl rfl [(0, .int .i64 z), (1, .int .i64 y)] (env_ok 2 rfl) <| sr <| ag rfl rfl <| nx <| L_op <| x_call Tryz.func7 nm7 bd7 .nil rfl (first24) fun _ => ag rfl rfl <| nxx ?_
 refine mv rfl rfl <| L_pur rfl (p_not rfl) <| nq <| J_bool (t := 16) (c := false) rfl (rfl) <| C_false rfl <| J_skip <| qx <| mv rfl rfl ?_
 refine L_op <| x_call Tryz.func13 nm13 bd13 (.cons rfl (.cons rfl .nil)) rfl (number (by omega) (by omega)) fun _ => ?_
 obtain ⟨n, hn⟩ : ∃ n, n = num z (10 : Nat) := ⟨_, rfl⟩
 have hn10 : n < 10 := by rw [hn]; exact num_lt' (by omega)
 refine J_slot (t := 18) (v := .int .i64 (n : Int)) rfl (by rw [hn]; rfl) <| ag rfl rfl <| nx <| mv rfl rfl <| L_op <| x_call Tryz.func18 nm18 bd18 (.cons rfl .nil) rfl (made24 (n := n) (by omega)) fun g => ?_
 have hT := duo_is g
 have hqm := duo_q g
 obtain ⟨K, hK⟩ : ∃ K, K = kNew 2 3 3 4 true g := ⟨_, rfl⟩
 rw [← hK] at hT hqm
 refine J_pick (A := coA g.p _) PC ?_
 refine J_asTo (B := coA g.p (SN K g n 0)) (by unfold SN; rw [show idsW 0 = [] from rfl, ← hT.nt, hK]) <| ag rfl rfl <| nxx <| mv rfl rfl <| L_pur rfl (p_eqNilPtr Tryz.underlying24 rfl) <| mv rfl rfl <| J_bool (t := 23) (c := false) rfl (rfl) <| L_op <| G_on rfl rfl rfl ?_
 refine J_pur (p_move rfl) rfl rfl rfl <| L_op <| G_on rfl rfl rfl <| x_call Tryz.func27 nm27 bd27 (.cons rfl (.cons rfl .nil)) rfl (coReply (s := (SN K g n 0)) (u := 7) PC) fun _ => ?_
 refine J_slot (t := 25) (v := .pointer (some ⟨(g.bs 0).2, 0, none⟩)) rfl (by rw [show KS.rp (SN K g n 0) = K.rp from rfl, hT.rp]; rfl) <| L_op <| G_on rfl rfl rfl <| J_pur (p_eqNilPtr Tryz.underlying68 rfl) rfl rfl rfl <| L_pur rfl (p_pick_f rfl rfl) <| nq <| J_bool (t := 27) (c := false) rfl (rfl) <| C_false rfl ?_
 refine J_skip <| qx <| mv rfl rfl <| L_op <| x_call Tryz.func13 nm13 bd13 (.cons rfl (.cons rfl .nil)) rfl (number (by omega) (by omega)) fun _ => J_slot (t := 29) (v := .int .i64 1) rfl (by rw [hk]; rfl) <| ag rfl rfl <| nxx ?_
 refine ag rfl rfl <| J_slot (t := 8) (v := .int .i64 (((0 : Nat) : Int) + 1)) rfl rfl <| nq <| J_block <| J_loop (α := Nat) (fun j => j ≤ n) (fun j => [coA g.p (SN K g n j), old W]) (fun j => [(8, .int .i64 ((j : Int) + 1)), (0, .int .i64 (n : Int)), (7, .int .i64 1), (6, .pointer (some ⟨g.p, 0, none⟩)), (5, .bool true)]) (fun j => n - j) 0 (by omega) SU KE ?_
 intro j hj
 refine J_seq <| sr <| mv rfl rfl <| mv rfl rfl <| L_pur rfl (p_leq rfl rfl) <| nq ?_
 refine C_dec rfl (fun h32 => ?_) (fun h32 => ?_)
 ·
  refine J_skip <| Q_then <| J_seq <| J_block <| sr <| mv rfl rfl <| L_pur rfl (bld36 (.cons rfl (.cons rfl .nil)) (by repeat constructor)) <| J_slot (t := 36) (v := .agg (encI (4, (j : Int) + 1)).toArray) rfl rfl ?_
  refine L_op <| x_alloc ty36 rfl fun b9 => L_op <| x_store rfl rfl ty36 rfl SM SM RO PT ?_
  refine J_pick (A := blk b9 _ _) PC ?_
  refine J_asTo (B := blk b9 36 (encI (4, (j : Int) + 1))) (by rfl) <| nx <| mv rfl rfl <| nq <| J_block <| sr <| L_pur rfl (p_eql rfl rfl) <| ag rfl rfl ?_
  refine nq <| J_bool (t := 44) (c := false) rfl (rfl) <| C_false rfl <| sr <| L_pur rfl (p_eql rfl rfl) <| ag rfl rfl <| nq <| J_bool (t := 51) (c := true) rfl (rfl) ?_
  refine C_true rfl <| J_drawL (some 3) mixed <| ip 0 rfl rfl rfl rfl (p_move rfl) <| iv 2 rfl rfl rfl rfl (fun _ => v_loadA rfl ty36 HS CT) ?_
  refine i1 1 rfl <| x_call Tryz.func19 nm19 bd19 (.cons rfl (.cons rfl .nil)) rfl (coNotif (s := (SN K g n j)) (u := 22) PC) fun _ => ?_
  refine J_slot (t := 54) (v := .pointer (some ⟨g.bn, 0, none⟩)) rfl rfl <| i1 3 rfl <| x_call Tryz.func20 nm20 bd20 (.cons rfl (.cons rfl .nil)) rfl (coNtWait (s := (SN K g n j)) (u := 22) (w0 := 0) (xs := idsW j) (i := (4, (j : Int) + 1)) PC rfl (by rw [idsW_len]; omega)) fun _ => ?_
  refine J_pick (A := coA g.p _) PC ?_
  refine J_asTo (B := coA g.p (SN K g n (j + 1))) (by unfold SN; rw [← idsW_wait]; rfl) <| i0 <| Q_blk_normal <| Q_blk_normal <| qr <| mv rfl rfl <| L_pur rfl (p_add64 rfl rfl (by omega)) <| ag rfl rfl ?_
  refine nq <| J_slot (t := 8) (v := .int .i64 (((j + 1 : Nat) : Int) + 1)) rfl (by first | rfl | push_cast) ?_
  exact J_again (j + 1) (by omega) (by omega) SU KE
 ·
  have hjn : j = n := by omega
  rw [hjn]
  refine J_exit <| Q_then_exit <| Q_then_exit <| Q_blk_this <| qx <| mv rfl rfl <| ag rfl rfl <| nx ?_
  refine L_pur rfl (bld82 (.cons rfl (.cons rfl .nil)) (by repeat constructor)) <| L_op <| x_alloc ty82 rfl fun b11 => L_op <| x_store rfl rfl ty82 rfl SM SM RO PT ?_
  refine nxx <| mv rfl rfl <| L_pur rfl (p_eql rfl rfl) <| nq <| J_bool (t := 60) (c := true) rfl (rfl) <| C_true rfl <| J_region <| L_pur rfl (bld82 (.cons rfl (.cons rfl .nil)) (by repeat constructor)) ?_
  refine L_op <| x_store rfl rfl ty82 rfl SM SM RO PT ?_
  refine J_pick (A := blk b11 _ _) PC ?_
  refine J_asTo (B := blk b11 82 (encI (5, 22))) (by rfl) <| nxx <| mv rfl rfl <| L_pur rfl (p_eql rfl rfl) <| nq <| J_bool (t := 63) (c := false) rfl (rfl) <| C_false rfl <| J_skip ?_
  refine qx <| mv rfl rfl ?_
  have hF0 : Fits (SN K g n n) 20 60 := SN_fits hT (by omega) (by omega)
  have hWt : ∀ (E : World) (l m : List As), Pick (coA g.p (SN K g n n)) l m → Con Tryz.prog 82 #[.pointer (some ⟨g.p, 0, none⟩), .agg (encI (5, 22)).toArray] E l (fun v : Value => v) (fun v => row 36 2 v ((idsW n).map encI) :: coA g.p (SN K g n n) :: m) := fun E l m hp => coWaitsNt (s := (SN K g n n)) (u := 22) (b := g.bn) (w0 := 0) (xs := idsW n) (E := E) hp rfl (by rw [idsW_len]; omega)
  refine L_val rfl (v_loadA rfl ty82 HS CT) ?_
  refine L_op <| x_lit (vals := [_]) Tryz.underlying151 ty82 rfl (.cons rfl .nil) (.agg .nil) (Wf.cons rfl rfl Wf.nil) rfl (by decide) rfl rfl <| JE ([encI (5, 22)]) (by rfl) fun a69 c69 hw69 hl69 hm69 hz69 => L_op <| x_call Tryz.func32 nm32 bd32 (.cons rfl (.cons rfl .nil)) rfl (coDestroy (s := (SN K g n n)) (k := 5) (u := 22) (ws := (idsW n)) PX (by decide) hWt hF0 hqm.1 hqm.2) fun _ => ?_
  obtain ⟨S1, hS1⟩ : ∃ S1, S1 = kEnds (SN K g n n) (idsW n) := ⟨_, rfl⟩
  obtain ⟨S2, hS2⟩ : ∃ S2, S2 = kGone S1 5 22 := ⟨_, rfl⟩
  have hF1 : Fits S1 20 60 := by rw [hS1]; exact hF0.ends
  refine J_pick (A := coA g.p _) PC ?_
  refine J_asTo (B := coA g.p S2) (by rw [hS2, hS1]) ?_
  have g1 : S2.jn = S1.jn := by rw [hS2]; rfl
  have g2 : S2.rt = S1.rt := by rw [hS2]; rfl
  have g3 : look S2.nt 22 = none := by rw [hS2]; exact look_rem
  have hE := nt_ends (s := (SN K g n n)) (n := n) rfl hT.jn
  rw [← hS1] at hE
  have hlen : S2.jn.length = n := by rw [g1, hE.2]
  refine nx <| mv rfl rfl <| L_op <| x_call Tryz.func11 nm11 bd11 (.cons rfl .nil) rfl (coJournal) fun _ => L_op <| x_call Tryz.func15 nm15 bd15 (.cons rfl .nil) rfl (coJAll (s := S2) PC (by omega)) <| JR fun a73 c73 hw73 hl73 hm73 hz73 => ?_
  have hmd : (S2.jn.map encD).length = n := by rw [List.length_map, hlen]
  refine ag rfl rfl <| nxx <| mv rfl rfl <| L_pur rfl (p_len rfl Tryz.underlying44) <| mv rfl rfl <| L_pur rfl (p_lss rfl rfl) <| J_bool (t := 77) (c := false) rfl (by rw [hmd]; simp) <| nq ?_
  refine J_bool (t := 77) (c := false) rfl (rfl) <| C_false rfl <| J_skip <| Q_then <| J_seq <| sr <| mv rfl rfl <| L_pur rfl (p_neq rfl rfl) ?_
  refine mv rfl rfl <| J_bool (t := 80) (c := false) rfl (rfl) <| L_op <| G_off rfl rfl rfl rfl rfl rfl <| L_op <| G_off rfl rfl rfl rfl rfl rfl <| L_op <| G_off rfl rfl rfl rfl rfl rfl ?_
  refine L_op <| G_off rfl rfl rfl rfl rfl rfl <| L_pur rfl (p_pick_f rfl rfl) <| nq <| C_false rfl <| J_skip <| Q_then <| J_seq ?_
  refine sr <| ag rfl rfl <| nq <| J_block <| J_loop (α := Nat) (fun i => i ≤ n) (fun _ => [row 50 7 (.slice a73 (S2.jn.map encD).length c73) (S2.jn.map encD), coA g.p S2, old W]) (fun i => [(13, .int .i64 (i : Int)), (12, .slice a73 (S2.jn.map encD).length c73), (10, .int .i64 ((n : Nat) : Int)), (0, .int .i64 (n : Int)), (7, .int .i64 1), (6, .pointer (some ⟨g.p, 0, none⟩)), (5, .bool true)]) (fun i => n - i) 0 (by omega) SU KE ?_
  intro i hi
  refine J_seq <| sr <| mv rfl rfl <| mv rfl rfl <| L_pur rfl (p_lss rfl rfl) <| nq ?_
  refine C_dec rfl (fun h88 => ?_) (fun h88 => ?_)
  ·
   have hlt : i < n := by omega
   obtain ⟨bx, ox, rfl⟩ := hz73 (by intro h; rw [h] at hmd; simp at hmd; omega)
   refine J_skip <| Q_then <| J_seq <| J_block <| sr <| mv rfl rfl <| L_pur rfl (p_neq rfl rfl) <| mv rfl rfl ?_
   refine J_bool (t := 93) (c := false) rfl (rfl) <| L_op <| G_off rfl rfl rfl rfl rfl rfl <| L_op <| G_off rfl rfl rfl rfl rfl rfl <| L_op <| G_off rfl rfl rfl rfl rfl rfl <| L_op <| G_off rfl rfl rfl rfl rfl rfl ?_
   refine L_op <| G_off rfl rfl rfl rfl rfl rfl <| L_op <| G_off rfl rfl rfl rfl rfl rfl <| L_op <| G_off rfl rfl rfl rfl rfl rfl <| L_op <| G_off rfl rfl rfl rfl rfl rfl ?_
   refine L_op <| G_off rfl rfl rfl rfl rfl rfl <| L_op <| G_off rfl rfl rfl rfl rfl rfl <| L_op <| G_offU rfl rfl rfl rfl rfl <| L_op <| G_offU rfl rfl rfl rfl rfl ?_
   refine L_op <| G_offU rfl rfl rfl rfl rfl <| L_op <| G_offU rfl rfl rfl rfl rfl <| L_op <| G_offU rfl rfl rfl rfl rfl <| L_op <| G_offU rfl rfl rfl rfl rfl ?_
   refine L_op <| G_off rfl rfl rfl rfl rfl rfl <| L_pur rfl (p_pick_f rfl rfl) <| nq <| C_false rfl <| J_skip <| Q_blk_normal <| qr ?_
   refine mv rfl rfl <| L_pur rfl (p_add64 rfl rfl (by omega)) <| ag rfl rfl <| nq ?_
   exact J_again (i + 1) (by omega) (by omega) SU KE
  ·
   refine J_exit <| Q_then_exit <| Q_then_exit <| Q_blk_this <| qx <| mv rfl rfl <| mv rfl rfl <| J_bool (t := 113) (c := true) rfl (rfl) ?_
   refine L_op <| G_on rfl rfl rfl <| J_pur (p_move rfl) rfl rfl rfl <| L_op <| G_on rfl rfl rfl <| J_pur (p_neq rfl rfl) rfl rfl rfl <| L_op <| G_on rfl rfl rfl ?_
   refine J_pur (p_move rfl) rfl rfl rfl <| J_bool (t := 116) (c := true) rfl (rfl) <| L_op <| G_off rfl rfl rfl rfl rfl rfl <| L_op <| G_off rfl rfl rfl rfl rfl rfl <| L_op <| G_off rfl rfl rfl rfl rfl rfl ?_
   refine L_op <| G_on rfl rfl rfl <| J_pur (p_pick_t rfl rfl) rfl rfl rfl <| L_pur rfl (p_pick_t rfl rfl) <| mv rfl rfl <| L_op <| G_on rfl rfl rfl <| J_pur (p_move rfl) rfl rfl rfl ?_
   refine L_op <| G_on rfl rfl rfl <| J_pur (p_neq rfl rfl) rfl rfl rfl <| L_op <| G_on rfl rfl rfl <| J_pur (p_move rfl) rfl rfl rfl <| J_bool (t := 125) (c := false) rfl (rfl) <| L_op <| G_on rfl rfl rfl ?_
   refine J_pur (p_move rfl) rfl rfl rfl <| L_op <| G_on rfl rfl rfl <| x_call Tryz.func19 nm19 bd19 (.cons rfl (.cons rfl .nil)) rfl (coNotif (s := S2) (u := 22) PC) fun _ => ?_
   refine J_slot (t := 127) (v := .pointer none) rfl (by rw [look_ptrs, g3]; rfl) <| L_op <| G_on rfl rfl rfl <| J_pur (p_eqNilPtr Tryz.underlying54 rfl) rfl rfl rfl <| L_op <| G_on rfl rfl rfl <| J_pur (p_pick_f rfl rfl) rfl rfl rfl <| L_pur rfl (p_pick_t rfl rfl) ?_
   refine mv rfl rfl <| J_bool (t := 131) (c := true) rfl (rfl) <| L_op <| G_on rfl rfl rfl <| J_pur (p_move rfl) rfl rfl rfl <| L_op <| G_on rfl rfl rfl <| J_pur (p_neq rfl rfl) rfl rfl rfl ?_
   refine L_op <| G_on rfl rfl rfl <| J_pur (p_move rfl) rfl rfl rfl <| J_bool (t := 134) (c := true) rfl (rfl) <| L_op <| G_off rfl rfl rfl rfl rfl rfl <| L_op <| G_off rfl rfl rfl rfl rfl rfl ?_
   refine L_op <| G_off rfl rfl rfl rfl rfl rfl <| L_op <| G_on rfl rfl rfl <| J_pur (p_pick_t rfl rfl) rfl rfl rfl <| L_pur rfl (p_pick_t rfl rfl) <| mv rfl rfl <| L_op <| G_on rfl rfl rfl ?_
   refine J_pur (p_move rfl) rfl rfl rfl <| L_op <| G_on rfl rfl rfl <| x_call Tryz.func9 nm9 bd9 (.cons rfl .nil) rfl (coReqs) fun _ => L_op <| G_on rfl rfl rfl <| x_call Tryz.func16 nm16 bd16 (.cons rfl (.cons rfl .nil)) rfl (coRqOf (s := S2) (g := 4) PC (by rw [g2]; exact hF1.ids) (by rw [g2]; have := hF1.jn; omega)) <| JR fun a143 c143 hw143 hl143 hm143 hz143 => ?_
   refine L_op <| G_on rfl rfl rfl <| J_pur (p_len rfl Tryz.underlying46) rfl rfl rfl <| L_op <| G_on rfl rfl rfl <| J_pur (p_move rfl) rfl rfl rfl <| L_op <| G_on rfl rfl rfl ?_
   refine J_pur (p_move rfl) rfl rfl rfl <| L_op <| G_on rfl rfl rfl <| J_pur (p_sub64 rfl rfl (by omega)) rfl rfl rfl <| L_op <| G_on rfl rfl rfl <| J_pur (p_eql rfl rfl) rfl rfl rfl <| J_bool (t := 148) (c := true) rfl (by rw [List.length_map, g2, hE.1]; simp [ofQ_nil]) ?_
   refine L_pur rfl (p_pick_t rfl rfl) <| ag rfl rfl <| nq <| J_ret ?_
   exact J_return (()) Tryz.results6 (.tmp rfl .nil) rfl SU

set_option maxRecDepth 100000 in
set_option maxHeartbeats 4000000 in
theorem decideGone2 {E W : World} {z y : Int} (hk : num y (3 : Int) = 2) :
  Con Tryz.prog 6 #[.int .i64 z, .int .i64 y] E [old W] (fun _ : Unit => .bool true) (fun _ => [old W]) := by
 refine Con.body (vs := [.int .i64 z, .int .i64 y]) (n := 150) Tryz.func6 rfl rfl [(0, .int .i64 z), (1, .int .i64 y)] (env_ok 2 rfl) <| sr <| ag rfl rfl <| nx <| L_op <| x_call Tryz.func7 nm7 bd7 .nil rfl (first24) fun _ => ag rfl rfl <| nxx ?_
 refine mv rfl rfl <| L_pur rfl (p_not rfl) <| nq <| J_bool (t := 16) (c := false) rfl (rfl) <| C_false rfl <| J_skip <| qx <| mv rfl rfl ?_
 refine L_op <| x_call Tryz.func13 nm13 bd13 (.cons rfl (.cons rfl .nil)) rfl (number (by omega) (by omega)) fun _ => ?_
 obtain ⟨n, hn⟩ : ∃ n, n = num z (10 : Nat) := ⟨_, rfl⟩
 have hn10 : n < 10 := by rw [hn]; exact num_lt' (by omega)
 refine J_slot (t := 18) (v := .int .i64 (n : Int)) rfl (by rw [hn]; rfl) <| ag rfl rfl <| nx <| mv rfl rfl <| L_op <| x_call Tryz.func18 nm18 bd18 (.cons rfl .nil) rfl (made24 (n := n) (by omega)) fun g => ?_
 have hT := duo_is g
 have hqm := duo_q g
 obtain ⟨K, hK⟩ : ∃ K, K = kNew 2 3 3 4 true g := ⟨_, rfl⟩
 rw [← hK] at hT hqm
 refine J_pick (A := coA g.p _) PC ?_
 refine J_asTo (B := coA g.p (SR K g n 0)) (by unfold SR; rw [show cR 0 = ((0, 0), false) from rfl, ← hT.rp, hK]) <| ag rfl rfl <| nxx <| mv rfl rfl <| L_pur rfl (p_eqNilPtr Tryz.underlying24 rfl) <| mv rfl rfl <| J_bool (t := 23) (c := false) rfl (rfl) <| L_op <| G_on rfl rfl rfl ?_
 refine J_pur (p_move rfl) rfl rfl rfl <| L_op <| G_on rfl rfl rfl <| x_call Tryz.func27 nm27 bd27 (.cons rfl (.cons rfl .nil)) rfl (coReply (s := (SR K g n 0)) (u := 7) PC) fun _ => ?_
 refine J_slot (t := 25) (v := .pointer (some ⟨(g.bs 0).2, 0, none⟩)) rfl (by rfl) <| L_op <| G_on rfl rfl rfl <| J_pur (p_eqNilPtr Tryz.underlying68 rfl) rfl rfl rfl <| L_pur rfl (p_pick_f rfl rfl) <| nq <| J_bool (t := 27) (c := false) rfl (rfl) <| C_false rfl ?_
 refine J_skip <| qx <| mv rfl rfl <| L_op <| x_call Tryz.func13 nm13 bd13 (.cons rfl (.cons rfl .nil)) rfl (number (by omega) (by omega)) fun _ => J_slot (t := 29) (v := .int .i64 2) rfl (by rw [hk]; rfl) <| ag rfl rfl <| nxx ?_
 refine ag rfl rfl <| J_slot (t := 8) (v := .int .i64 (((0 : Nat) : Int) + 1)) rfl rfl <| nq <| J_block <| J_loop (α := Nat) (fun j => j ≤ n) (fun j => [coA g.p (SR K g n j), old W]) (fun j => [(8, .int .i64 ((j : Int) + 1)), (0, .int .i64 (n : Int)), (7, .int .i64 2), (6, .pointer (some ⟨g.p, 0, none⟩)), (5, .bool true)]) (fun j => n - j) 0 (by omega) SU KE ?_
 intro j hj
 refine J_seq <| sr <| mv rfl rfl <| mv rfl rfl <| L_pur rfl (p_leq rfl rfl) <| nq ?_
 refine C_dec rfl (fun h32 => ?_) (fun h32 => ?_)
 ·
  refine J_skip <| Q_then <| J_seq <| J_block <| sr <| mv rfl rfl <| L_pur rfl (bld36 (.cons rfl (.cons rfl .nil)) (by repeat constructor)) <| J_slot (t := 36) (v := .agg (encI (4, (j : Int) + 1)).toArray) rfl rfl ?_
  refine L_op <| x_alloc ty36 rfl fun b9 => L_op <| x_store rfl rfl ty36 rfl SM SM RO PT ?_
  refine J_pick (A := blk b9 _ _) PC ?_
  refine J_asTo (B := blk b9 36 (encI (4, (j : Int) + 1))) (by rfl) <| nx <| mv rfl rfl <| nq <| J_block <| sr <| L_pur rfl (p_eql rfl rfl) <| ag rfl rfl ?_
  refine nq <| J_bool (t := 44) (c := false) rfl (rfl) <| C_false rfl <| sr <| L_pur rfl (p_eql rfl rfl) <| ag rfl rfl <| nq <| J_bool (t := 51) (c := false) rfl (rfl) ?_
  refine C_false rfl <| sr <| mv rfl rfl <| L_pur rfl (p_eql rfl rfl) <| nq ?_
  refine C_dec rfl (fun h39 => ?_) (fun h39 => ?_)
  ·
   have hj0 : j = 0 := by omega
   refine J_drawL (some 3) mixed <| ip 0 rfl rfl rfl rfl (p_move rfl) <| iv 2 rfl rfl rfl rfl (fun _ => v_loadA rfl ty36 HS CT) ?_
   refine i1 1 rfl <| x_call Tryz.func27 nm27 bd27 (.cons rfl (.cons rfl .nil)) rfl (coReply (s := (SR K g n j)) (u := 7) PC) fun _ => ?_
   refine J_slot (t := 41) (v := .pointer (some ⟨(g.bs 0).2, 0, none⟩)) rfl rfl <| i1 3 rfl <| x_call Tryz.func31 nm31 bd31 (.cons rfl (.cons rfl .nil)) rfl (coRpBind (s := (SR K g n j)) (u := 7) (c := cR j) (i := (4, (j : Int) + 1)) PC rfl) fun _ => ?_
   refine J_pick (A := coA g.p _) PC ?_
   refine J_asTo (B := coA g.p (SR K g n (j + 1))) (by rw [hj0]; rfl) <| i0 <| Q_blk_normal <| Q_blk_normal <| qr <| mv rfl rfl <| L_pur rfl (p_add64 rfl rfl (by omega)) <| ag rfl rfl ?_
   refine nq <| J_slot (t := 8) (v := .int .i64 (((j + 1 : Nat) : Int) + 1)) rfl (by first | rfl | push_cast) ?_
   exact J_again (j + 1) (by omega) (by omega) SU KE
  ·
   refine J_skip <| Q_blk_normal <| Q_blk_normal <| qr <| mv rfl rfl <| L_pur rfl (p_add64 rfl rfl (by omega)) <| ag rfl rfl <| nq ?_
   refine J_slot (t := 8) (v := .int .i64 (((j + 1 : Nat) : Int) + 1)) rfl (by first | rfl | push_cast) <| J_pick (A := coA g.p _) PC ?_
   refine J_asTo (B := coA g.p (SR K g n (j + 1))) (by unfold SR; rw [show cR (j + 1) = cR j from by unfold cR; rw [if_neg (by omega), if_neg (by omega)]]) ?_
   exact J_again (j + 1) (by omega) (by omega) SU KE
 ·
  have hjn : j = n := by omega
  rw [hjn]
  refine J_exit <| Q_then_exit <| Q_then_exit <| Q_blk_this <| qx <| mv rfl rfl <| ag rfl rfl <| nx ?_
  refine L_pur rfl (bld82 (.cons rfl (.cons rfl .nil)) (by repeat constructor)) <| L_op <| x_alloc ty82 rfl fun b11 => L_op <| x_store rfl rfl ty82 rfl SM SM RO PT ?_
  refine nxx <| mv rfl rfl <| L_pur rfl (p_eql rfl rfl) <| nq <| J_bool (t := 60) (c := false) rfl (rfl) <| C_false rfl <| J_skip <| Q_then ?_
  refine J_seq <| sr <| mv rfl rfl <| L_pur rfl (p_eql rfl rfl) <| nq <| J_bool (t := 63) (c := true) rfl (rfl) <| C_true rfl <| sr ?_
  refine mv rfl rfl <| L_pur rfl (p_min rfl rfl) <| J_slot (t := 65) (v := .int .i64 ((min n 1 : Nat) : Int)) rfl (by first | (congr 1; omega) | (congr 1; simp; omega)) <| ag rfl rfl <| ny <| L_pur rfl (bld82 (.cons rfl (.cons rfl .nil)) (by repeat constructor)) <| L_op <| x_store rfl rfl ty82 rfl SM SM RO PT ?_
  refine J_pick (A := blk b11 _ _) PC ?_
  refine J_asTo (B := blk b11 82 (encI (7, 7))) (by rfl) <| nx <| mv rfl rfl ?_
  have hF0 : Fits (SR K g n n) 20 60 := SR_fits hT (by omega)
  have hWt : ∀ (E : World) (l m : List As), Pick (coA g.p (SR K g n n)) l m → Con Tryz.prog 82 #[.pointer (some ⟨g.p, 0, none⟩), .agg (encI (7, 7)).toArray] E l (fun v : Value => v) (fun v => row 36 2 v ((idsW (min n 1)).map encI) :: coA g.p (SR K g n n) :: m) := fun E l m hp => by
   have h := coWaitsRp (s := (SR K g n n)) (u := 7) (b := (g.bs 0).2) (c := cR n) (E := E) hp rfl
   rw [cR_ids] at h
   exact h
  refine L_val rfl (v_loadA rfl ty82 HS CT) ?_
  refine L_op <| x_lit (vals := [_]) Tryz.underlying151 ty82 rfl (.cons rfl .nil) (.agg .nil) (Wf.cons rfl rfl Wf.nil) rfl (by decide) rfl rfl <| JE ([encI (7, 7)]) (by rfl) fun a69 c69 hw69 hl69 hm69 hz69 => L_op <| x_call Tryz.func32 nm32 bd32 (.cons rfl (.cons rfl .nil)) rfl (coDestroy (s := (SR K g n n)) (k := 7) (u := 7) (ws := (idsW (min n 1))) PX (by decide) hWt hF0 hqm.1 hqm.2) fun _ => ?_
  obtain ⟨S1, hS1⟩ : ∃ S1, S1 = kEnds (SR K g n n) (idsW (min n 1)) := ⟨_, rfl⟩
  obtain ⟨S2, hS2⟩ : ∃ S2, S2 = kGone S1 7 7 := ⟨_, rfl⟩
  have hF1 : Fits S1 20 60 := by rw [hS1]; exact hF0.ends
  refine J_pick (A := coA g.p _) PC ?_
  refine J_asTo (B := coA g.p S2) (by rw [hS2, hS1]) ?_
  have g1 : S2.jn = S1.jn := by rw [hS2]; rfl
  have g2 : S2.rt = S1.rt := by rw [hS2]; rfl
  have g3 : look S2.rp 7 = none := by rw [hS2]; exact look_rem
  have hE := (SR_pe hT n n).ends hT (j := (min n 1)) (by omega)
  rw [← hS1] at hE
  have hjn2 : S2.jn = ((List.range (min n 1)).map deedE) := by rw [g1, hE.jn]
  have hlen : S2.jn.length = (min n 1) := by rw [hjn2]; simp
  refine nx <| mv rfl rfl <| L_op <| x_call Tryz.func11 nm11 bd11 (.cons rfl .nil) rfl (coJournal) fun _ => L_op <| x_call Tryz.func15 nm15 bd15 (.cons rfl .nil) rfl (coJAll (s := S2) PC (by omega)) <| JE (((List.range (min n 1)).map deedE).map encD) (by rw [hjn2]) fun a73 c73 hw73 hl73 hm73 hz73 => ?_
  have hmd : (((List.range (min n 1)).map deedE).map encD).length = (min n 1) := by rw [List.length_map, List.length_map, List.length_range]
  refine ag rfl rfl <| nxx <| mv rfl rfl <| L_pur rfl (p_len rfl Tryz.underlying44) <| mv rfl rfl <| L_pur rfl (p_lss rfl rfl) <| J_bool (t := 77) (c := false) rfl (by rw [hmd]; simp) <| nq ?_
  refine J_bool (t := 77) (c := false) rfl (rfl) <| C_false rfl <| J_skip <| Q_then <| J_seq <| sr <| mv rfl rfl <| L_pur rfl (p_neq rfl rfl) ?_
  refine mv rfl rfl <| J_bool (t := 80) (c := true) rfl (rfl) <| L_op <| G_on rfl rfl rfl <| J_pur (p_move rfl) rfl rfl rfl <| L_op <| G_on rfl rfl rfl <| J_pur (p_len rfl Tryz.underlying44) rfl rfl rfl ?_
  refine L_op <| G_on rfl rfl rfl <| J_pur (p_move rfl) rfl rfl rfl <| L_op <| G_on rfl rfl rfl <| J_pur (p_neq rfl rfl) rfl rfl rfl <| J_bool (t := 84) (c := false) rfl (by rw [hmd]; simp) <| L_pur rfl (p_pick_t rfl rfl) ?_
  refine nq <| J_bool (t := 85) (c := false) rfl (rfl) <| C_false rfl <| J_skip <| Q_then <| J_seq <| sr <| ag rfl rfl ?_
  refine nq <| J_block <| J_loop (α := Nat) (fun i => i ≤ (min n 1)) (fun _ => [row 50 7 (.slice a73 (((List.range (min n 1)).map deedE).map encD).length c73) (((List.range (min n 1)).map deedE).map encD), coA g.p S2, old W]) (fun i => [(13, .int .i64 (i : Int)), (12, .slice a73 (((List.range (min n 1)).map deedE).map encD).length c73), (10, .int .i64 (((min n 1) : Nat) : Int)), (0, .int .i64 (n : Int)), (7, .int .i64 2), (6, .pointer (some ⟨g.p, 0, none⟩)), (5, .bool true)]) (fun i => (min n 1) - i) 0 (by omega) SU KE ?_
  intro i hi
  refine J_seq <| sr <| mv rfl rfl <| mv rfl rfl <| L_pur rfl (p_lss rfl rfl) <| nq ?_
  refine C_dec rfl (fun h88 => ?_) (fun h88 => ?_)
  ·
   have hlt : i < (min n 1) := by omega
   obtain ⟨bx, ox, rfl⟩ := hz73 (by intro h; rw [h] at hmd; simp at hmd; omega)
   have hcc : ((List.range (min n 1)).map deedE)[i]? = some (deedE i) := by rw [List.getElem?_map, List.getElem?_range hlt]; rfl
   refine J_skip <| Q_then <| J_seq <| J_block <| sr <| mv rfl rfl <| L_pur rfl (p_neq rfl rfl) <| mv rfl rfl ?_
   refine J_bool (t := 93) (c := true) rfl (rfl) <| L_op <| G_on rfl rfl rfl <| J_pur (p_move rfl) rfl rfl rfl <| L_op <| G_on rfl rfl rfl <| J_pur (p_move rfl) rfl rfl rfl <| L_op <| G_on rfl rfl rfl ?_
   refine J_pur (p_indexAddr rfl rfl Tryz.underlying44 ty50 (by omega) (by omega)) rfl rfl rfl <| L_op <| G_on rfl rfl rfl <| J_pur (p_fieldAddr rfl fa50_0) rfl rfl rfl <| L_op <| G_on rfl rfl rfl ?_
   refine J_val (v_loadFA rfl ty36 HS (by first | (simp only [Int.toNat_natCast, List.getElem?_map, hcc]; rfl) | (simp only [Int.toNat_natCast, List.getElem?_map, hcd]; rfl) | simp | rfl) CT) rfl rfl rfl ?_
   refine L_op <| G_on rfl rfl rfl <| J_pur (p_move rfl) rfl rfl rfl <| L_op <| G_on rfl rfl rfl <| J_pur (p_add64 rfl rfl (by omega)) rfl rfl rfl <| L_op <| G_on rfl rfl rfl ?_
   refine J_pur (bld36 (.cons rfl (.cons rfl .nil)) (by repeat constructor)) rfl rfl rfl <| J_slot (t := 101) (v := .agg (encI (4, (i : Int) + 1)).toArray) rfl rfl <| L_op <| G_on rfl rfl rfl <| J_pur (p_nev rfl rfl (fun w => eg36 _ _ _ _ _ w) (fun w => nev36 _ _ _ _ w)) rfl rfl rfl <| J_bool (t := 102) (c := false) rfl (by simp [deedE, encI]) <| L_op <| G_on rfl rfl rfl ?_
   refine J_pur (p_move rfl) rfl rfl rfl <| J_bool (t := 103) (c := false) rfl (rfl) <| L_op <| G_on rfl rfl rfl <| J_pur (p_move rfl) rfl rfl rfl <| L_op <| G_on rfl rfl rfl <| J_pur (p_move rfl) rfl rfl rfl ?_
   refine L_op <| G_on rfl rfl rfl <| J_pur (p_indexAddr rfl rfl Tryz.underlying44 ty50 (by omega) (by omega)) rfl rfl rfl <| L_op <| G_on rfl rfl rfl <| J_pur (p_fieldAddr rfl fa50_3) rfl rfl rfl <| L_op <| G_on rfl rfl rfl ?_
   refine J_val (v_loadF rfl ty3 HS (by first | (simp only [Int.toNat_natCast, List.getElem?_map, hcc]; rfl) | (simp only [Int.toNat_natCast, List.getElem?_map, hcd]; rfl) | simp | rfl) (by exact rfl)) rfl rfl rfl ?_
   refine L_op <| G_on rfl rfl rfl <| J_pur (p_neq rfl rfl) rfl rfl rfl <| J_bool (t := 109) (c := false) rfl (by simp [deedE]) <| L_op <| G_on rfl rfl rfl <| J_pur (p_pick_f rfl rfl) rfl rfl rfl <| L_pur rfl (p_pick_t rfl rfl) ?_
   refine nq <| J_bool (t := 111) (c := false) rfl (rfl) <| C_false rfl <| J_skip <| Q_blk_normal <| qr <| mv rfl rfl <| L_pur rfl (p_add64 rfl rfl (by omega)) ?_
   refine ag rfl rfl <| nq ?_
   exact J_again (i + 1) (by omega) (by omega) SU KE
  ·
   refine J_exit <| Q_then_exit <| Q_then_exit <| Q_blk_this <| qx <| mv rfl rfl <| mv rfl rfl <| J_bool (t := 113) (c := true) rfl (rfl) ?_
   refine L_op <| G_on rfl rfl rfl <| J_pur (p_move rfl) rfl rfl rfl <| L_op <| G_on rfl rfl rfl <| J_pur (p_neq rfl rfl) rfl rfl rfl <| L_op <| G_on rfl rfl rfl ?_
   refine J_pur (p_move rfl) rfl rfl rfl <| J_bool (t := 116) (c := true) rfl (rfl) <| L_op <| G_off rfl rfl rfl rfl rfl rfl <| L_op <| G_off rfl rfl rfl rfl rfl rfl <| L_op <| G_off rfl rfl rfl rfl rfl rfl ?_
   refine L_op <| G_on rfl rfl rfl <| J_pur (p_pick_t rfl rfl) rfl rfl rfl <| L_pur rfl (p_pick_t rfl rfl) <| mv rfl rfl <| L_op <| G_on rfl rfl rfl <| J_pur (p_move rfl) rfl rfl rfl ?_
   refine L_op <| G_on rfl rfl rfl <| J_pur (p_neq rfl rfl) rfl rfl rfl <| L_op <| G_on rfl rfl rfl <| J_pur (p_move rfl) rfl rfl rfl <| J_bool (t := 125) (c := true) rfl (rfl) <| L_op <| G_off rfl rfl rfl rfl rfl rfl ?_
   refine L_op <| G_off rfl rfl rfl rfl rfl rfl <| L_op <| G_off rfl rfl rfl rfl rfl rfl <| L_op <| G_on rfl rfl rfl <| J_pur (p_pick_t rfl rfl) rfl rfl rfl <| L_pur rfl (p_pick_t rfl rfl) ?_
   refine mv rfl rfl <| L_op <| G_on rfl rfl rfl <| J_pur (p_move rfl) rfl rfl rfl <| L_op <| G_on rfl rfl rfl <| J_pur (p_neq rfl rfl) rfl rfl rfl <| L_op <| G_on rfl rfl rfl ?_
   refine J_pur (p_move rfl) rfl rfl rfl <| J_bool (t := 134) (c := false) rfl (rfl) <| L_op <| G_on rfl rfl rfl <| J_pur (p_move rfl) rfl rfl rfl <| L_op <| G_on rfl rfl rfl <| x_call Tryz.func27 nm27 bd27 (.cons rfl (.cons rfl .nil)) rfl (coReply (s := S2) (u := 7) PC) fun _ => ?_
   refine J_slot (t := 136) (v := .pointer none) rfl (by rw [look_ptrs, g3]; rfl) <| L_op <| G_on rfl rfl rfl <| J_pur (p_eqNilPtr Tryz.underlying68 rfl) rfl rfl rfl <| L_op <| G_on rfl rfl rfl <| J_pur (p_pick_f rfl rfl) rfl rfl rfl <| L_pur rfl (p_pick_t rfl rfl) ?_
   refine mv rfl rfl <| J_bool (t := 140) (c := true) rfl (rfl) <| L_op <| G_on rfl rfl rfl <| J_pur (p_move rfl) rfl rfl rfl <| L_op <| G_on rfl rfl rfl <| x_call Tryz.func9 nm9 bd9 (.cons rfl .nil) rfl (coReqs) fun _ => ?_
   refine L_op <| G_on rfl rfl rfl <| x_call Tryz.func16 nm16 bd16 (.cons rfl (.cons rfl .nil)) rfl (coRqOf (s := S2) (g := 4) PC (by rw [g2]; exact hF1.ids) (by rw [g2]; have := hF1.jn; omega)) <| JR fun a143 c143 hw143 hl143 hm143 hz143 => L_op <| G_on rfl rfl rfl <| J_pur (p_len rfl Tryz.underlying46) rfl rfl rfl <| L_op <| G_on rfl rfl rfl ?_
   refine J_pur (p_move rfl) rfl rfl rfl <| L_op <| G_on rfl rfl rfl <| J_pur (p_move rfl) rfl rfl rfl <| L_op <| G_on rfl rfl rfl <| J_pur (p_sub64 rfl rfl (by omega)) rfl rfl rfl <| L_op <| G_on rfl rfl rfl ?_
   refine J_pur (p_eql rfl rfl) rfl rfl rfl <| J_bool (t := 148) (c := true) rfl (by rw [List.length_map, g2, hE.rt, rtD_of, rtD_len (by omega), decide_eq_true_eq]; omega) <| L_pur rfl (p_pick_t rfl rfl) <| ag rfl rfl <| nq <| J_ret ?_
   exact J_return (()) Tryz.results6 (.tmp rfl .nil) rfl SU

theorem decideGone {E W : World} {z y : Int} : Con Tryz.prog 6 #[.int .i64 z, .int .i64 y] E [old W] (fun _ : Unit => .bool true) (fun _ => [old W]) := by
  have h := num_lt' (x := y) (b := 3) (by omega)
  have h3 : num y (3 : Int) = 0 ∨ num y (3 : Int) = 1 ∨ num y (3 : Int) = 2 := by
    have : num y ((3 : Nat) : Int) = num y (3 : Int) := rfl
    omega
  rcases h3 with h3 | h3 | h3
  · exact decideGone0 h3
  · exact decideGone1 h3
  · exact decideGone2 h3
end Go.Pse
