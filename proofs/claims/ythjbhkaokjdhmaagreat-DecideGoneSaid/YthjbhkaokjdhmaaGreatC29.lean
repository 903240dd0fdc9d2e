/-
  Two threads that share: how they begin.
-/
import Derived.Test.YthjbhkaokjdhmaaGreatC28
namespace Go.Pse
open Go.RowKit Go.Proofs

set_option maxHeartbeats 4000000 in
theorem coNtWord {E : World} {l m : List As} {p : Nat} {s : KS} (hp : Pick (coA p s) l m) {u : Int} {b : Nat} {w0 : Int} {xs : List ID} (hl : look s.nt u = some (b, w0, xs)) (hb : xs.length ≤ 100000) :
  Con Tryz.prog 21 #[.pointer (some ⟨b, 0, none⟩)] E l (fun _ : Unit => .int .u32 w0) (fun _ => coA p s :: m) := fun w H => by
 refine (?_ : Jk E l 0 [] fun _ w => Calls Tryz.prog 21 #[.pointer (some ⟨b, 0, none⟩)] w fun e w' => ∃ x, e = .returned ((fun _ : Unit => .int .u32 w0) x) ∧ Sep E w' ((fun _ : Unit => coA p s :: m) x)) w _ H fr0
 obtain ⟨j, hj⟩ := look_ix hl
 have hjl := (List.getElem?_eq_some_iff.1 hj).1
 refine J_pick hp <| J_coO fun bn be br bg bt bs bp bl bk _ => J_keyd (ps := ptrs s.nt) HS fun hK => ?_
 refine J_pick (A := each ntF s.nt) PC ?_
 refine J_eachOut hj ?_
 skip
 refine J_asTo (B := ntA b 0 w0 xs) (by rfl) <| J_con (ntWord (w := w0) (xs := xs) PC hb) fun x => ?_
 refine J_pick (A := ntA b 0 w0 xs) PC ?_
 refine J_asTo (B := ntF (u, b, w0, xs)) (by rfl) <| J_pick (A := each ntF _) PC ?_
 refine J_pick (A := ntF (u, b, _)) PC ?_
 refine J_eachIn (u, b, w0, xs) hjl ?_
 skip
 refine J_asTo (B := each ntF s.nt) (by rw [lset_same hj]) <| J_coS (p := p) (s := s) bn be br bg bt bs bp bl bk PX trivial ?_
 exact J_end SU
set_option maxHeartbeats 4000000 in
theorem coNtWaits {E : World} {l m : List As} {p : Nat} {s : KS} (hp : Pick (coA p s) l m) {u : Int} {b : Nat} {w0 : Int} {xs : List ID} (hl : look s.nt u = some (b, w0, xs)) (hb : xs.length ≤ 100000) :
  Con Tryz.prog 26 #[.pointer (some ⟨b, 0, none⟩)] E l (fun x : Value => x) (fun x => row 36 2 x (xs.map encI) :: coA p s :: m) := fun w H => by
 refine (?_ : Jk E l 0 [] fun _ w => Calls Tryz.prog 26 #[.pointer (some ⟨b, 0, none⟩)] w fun e w' => ∃ x, e = .returned ((fun x : Value => x) x) ∧ Sep E w' ((fun x : Value => row 36 2 x (xs.map encI) :: coA p s :: m) x)) w _ H fr0
 obtain ⟨j, hj⟩ := look_ix hl
 have hjl := (List.getElem?_eq_some_iff.1 hj).1
 refine J_pick hp <| J_coO fun bn be br bg bt bs bp bl bk _ => J_keyd (ps := ptrs s.nt) HS fun hK => ?_
 refine J_pick (A := each ntF s.nt) PC ?_
 refine J_eachOut hj ?_
 skip
 refine J_asTo (B := ntA b 0 w0 xs) (by rfl) <| J_con (ntWaits (w := w0) (xs := xs) PC hb) fun x => ?_
 refine J_pick (A := ntA b 0 w0 xs) PC ?_
 refine J_asTo (B := ntF (u, b, w0, xs)) (by rfl) <| J_pick (A := each ntF _) PC ?_
 refine J_pick (A := ntF (u, b, _)) PC ?_
 refine J_eachIn (u, b, w0, xs) hjl ?_
 skip
 refine J_asTo (B := each ntF s.nt) (by rw [lset_same hj]) <| J_coS (p := p) (s := s) bn be br bg bt bs bp bl bk PX trivial ?_
 exact J_end SU
def ntW (i : ID) (a : Int × List ID) : Int × List ID := (0, waitL a.1 a.2 i)
set_option maxHeartbeats 4000000 in
theorem coNtWait {E : World} {l m : List As} {p : Nat} {s : KS} (hp : Pick (coA p s) l m) {u : Int} {b : Nat} {w0 : Int} {xs : List ID} (hl : look s.nt u = some (b, w0, xs)) (hb : xs.length ≤ 100000) {i : ID} :
  Con Tryz.prog 20 #[.pointer (some ⟨b, 0, none⟩), .agg (encI i).toArray] E l (fun _ : Unit => .tuple #[.int .u32 w0, .bool (!decide (w0 = 0))]) (fun _ => coA p { s with nt := updO s.nt u (ntW i) } :: m) := fun w H => by
 refine (?_ : Jk E l 0 [] fun _ w => Calls Tryz.prog 20 #[.pointer (some ⟨b, 0, none⟩), .agg (encI i).toArray] w fun e w' => ∃ x, e = .returned ((fun _ : Unit => .tuple #[.int .u32 w0, .bool (!decide (w0 = 0))]) x) ∧ Sep E w' ((fun _ : Unit => coA p { s with nt := updO s.nt u (ntW i) } :: m) x)) w _ H fr0
 obtain ⟨j, hj⟩ := look_ix hl
 have hjl := (List.getElem?_eq_some_iff.1 hj).1
 refine J_pick hp <| J_coO fun bn be br bg bt bs bp bl bk _ => J_keyd (ps := ptrs s.nt) HS fun hK => ?_
 refine J_pick (A := each ntF s.nt) PC ?_
 refine J_eachOut hj ?_
 skip
 refine J_asTo (B := ntA b 0 w0 xs) (by rfl) <| J_con (ntWait (w := w0) (xs := xs) (i := i) PC hb) fun x => ?_
 refine J_pick (A := ntA b 0 0 (waitL w0 xs i)) PC ?_
 refine J_asTo (B := ntF (u, b, ((ntW i)) (w0, xs))) (by rfl) <| J_pick (A := each ntF _) PC ?_
 refine J_pick (A := ntF (u, b, _)) PC ?_
 refine J_eachIn (u, b, ((ntW i)) (w0, xs)) hjl ?_
 skip
 refine J_asTo (B := each ntF (updO s.nt u (ntW i))) (by rw [updO_set hK hj]) <| J_pick (A := mapV kZ evA (.map (some bn)) (ptrs s.nt)) PC ?_
 refine J_mapEq (qs := ptrs (updO s.nt u (ntW i))) ptrs_updO.symm <| J_coS (p := p) (s := { s with nt := updO s.nt u (ntW i) }) bn be br bg bt bs bp bl bk PX trivial ?_
 exact J_end SU
/-! ### plain: two threads that share; the first ring's requests -/
structure Duo (K : KS) (g : NewG) : Prop where
  rt : K.rt = []
  jn : K.jn = []
  tm : K.tm = []
  nt : K.nt = [(22, g.bn, 0, [])]
  ep : K.ep = [(21, g.be, [], [])]
  rp : K.rp = [(7, (g.bs 0).2, (0, 0), false), (17, (g.bs 1).2, (0, 0), false)]
  rg : K.rg = [(4, (g.bs 0).1, rgNew 5 6 3 4), (14, (g.bs 1).1, rgNew 15 16 3 4)]
  be4 : look K.be 4 = some (22, 1)
  be14 : look K.be 14 = some (22, 2)
  mem : K.mem = List.replicate 64 zrow
  fit : Fits K 20 40
theorem rgNew_ok {a : Int} (h : 1 ≤ a ∧ a ≤ 63) : RgOk (rgNew a (a + 1) 3 4) := ⟨⟨by show 1 ≤ a; omega, by show a ≤ 64; omega⟩, ⟨by show 1 ≤ a + 1; omega, by show a + 1 ≤ 64; omega⟩, ⟨by show 0 ≤ cutI 4 0 4; decide, by show cutI 4 0 4 ≤ 4; decide⟩, ⟨by show (0 : Int) ≤ 0; omega, by show (0 : Int) < _; omega⟩⟩
set_option maxRecDepth 100000 in
theorem duo_is (g : NewG) : Duo (kNew 2 3 3 4 true g) g := by
  refine ⟨rfl, rfl, rfl, rfl, rfl, rfl, rfl, rfl, rfl, rfl, by omega, by omega, Ids.nil, by show 0 ≤ 40; omega, by show 0 ≤ 20; omega, fun x hx => ?_, fun x hx => ?_, fun x hx => ?_, fun x hx => ?_, zrow_ok⟩
  · obtain rfl := List.mem_singleton.1 (show x ∈ [(21, g.be, [], [])] from hx)
    exact ⟨⟨by show (1 : Int) ≤ 21; omega, by show (21 : Int) ≤ 64; omega⟩, by show 0 ≤ 20; omega, by show 0 ≤ 20; omega⟩
  · obtain rfl := List.mem_singleton.1 (show x ∈ [(22, g.bn, 0, [])] from hx)
    exact ⟨⟨by show (1 : Int) ≤ 22; omega, by show (22 : Int) ≤ 64; omega⟩, by show 0 ≤ 20; omega⟩
  · have h : x ∈ [(7, (g.bs 0).2, (0, 0), false), (17, (g.bs 1).2, (0, 0), false)] := hx
    rcases List.mem_cons.1 h with rfl | h
    · exact ⟨by show (1 : Int) ≤ 7; omega, by show (7 : Int) ≤ 64; omega⟩
    · obtain rfl := List.mem_singleton.1 h
      exact ⟨by show (1 : Int) ≤ 17; omega, by show (17 : Int) ≤ 64; omega⟩
  · have h : x ∈ [(4, (g.bs 0).1, rgNew 5 6 3 4), (14, (g.bs 1).1, rgNew 15 16 3 4)] := hx
    rcases List.mem_cons.1 h with rfl | h
    · exact ⟨rgNew_ok (a := 5) (by omega), by show 0 ≤ 40; omega⟩
    · obtain rfl := List.mem_singleton.1 h
      exact ⟨rgNew_ok (a := 15) (by omega), by show 0 ≤ 40; omega⟩
theorem Duo.fits {K : KS} {g : NewG} (h : Duo K g) {ps : List (ID × Rq)} (hI : Ids ps) (hl : ps.length ≤ 13) : Fits { K with rt := ps } 20 60 :=
  ⟨h.fit.n, by omega, hI, by show K.jn.length + ps.length ≤ 60; rw [h.jn]; simp; omega, h.fit.tm, h.fit.ep, h.fit.nt, h.fit.rp, fun x hx => by
    have := h.fit.rg x hx
    exact ⟨this.1, by have := this.2; rw [h.rt] at this; simp at this; show _ + ps.length ≤ 60; omega⟩, h.fit.mem⟩
def rqW (k : Nat) : Rq := ⟨(4, (k : Int) + 1), ⟨15, 0, (k : Int) + 1, 0, 0, 0, 0, 0⟩, 0, false, false⟩
def rtW (n : Nat) : List (ID × Rq) := (List.range n).map fun k : Nat => ((4, (k : Int) + 1), rqW k)
theorem rtW_mem {n : Nat} {e : ID × Rq} : e ∈ rtW n ↔ ∃ k : Nat, k < n ∧ e = ((4, (k : Int) + 1), rqW k) := by
  unfold rtW
  rw [List.mem_map]
  constructor
  · rintro ⟨k, hk, rfl⟩; exact ⟨k, by simpa using hk, rfl⟩
  · rintro ⟨k, h1, rfl⟩; exact ⟨k, by simpa using h1, rfl⟩
theorem rtW_len (n : Nat) : (rtW n).length = n := by simp [rtW]
theorem rtW_ids (n : Nat) : Ids (rtW n) := fun e he => by obtain ⟨k, _, rfl⟩ := rtW_mem.1 he; rfl
theorem rtW_keyd (n : Nat) : Keyd (rtW n) := by
  unfold Keyd rtW List.Nodup
  rw [List.map_map, List.pairwise_map]
  exact (List.nodup_range (n := n)).imp fun hne h => hne (by have := congrArg Prod.snd h; simp at this; omega)
theorem rtW_no {n : Nat} {i : ID} (h : i.1 ≠ 4 ∨ ∀ k : Nat, k < n → i.2 ≠ (k : Int) + 1) : look (rtW n) i = none := by
  rw [look_none_iff]
  intro hm
  obtain ⟨e, he, h3⟩ := List.mem_map.1 hm
  obtain ⟨k, g1, rfl⟩ := rtW_mem.1 he
  subst h3
  rcases h with h | h
  · exact h rfl
  · exact h k g1 rfl
theorem rtW_snoc (n : Nat) : rtW n ++ [((4, (n : Int) + 1), rqW n)] = rtW (n + 1) := by
  unfold rtW; rw [List.range_succ, List.map_append]; rfl
theorem add_new {ps : List (ID × Rq)} {q : Rq} (h : look ps q.id = none) (hl : (ofQ ps q.id.1).length < 16) : addOk ps q = true ∧ addQ ps q = ps ++ [(q.id, q)] := by
  have h2 : addOk ps q = true := by unfold addOk; rw [h]; simp; omega
  refine ⟨h2, ?_⟩
  unfold addQ
  rw [if_pos h2]
  unfold Go.Pse.ins
  rw [h]; rfl
theorem rtW_add {n : Nat} (h : n < 13) : addOk (rtW n) (rqW n) = true ∧ addQ (rtW n) (rqW n) = rtW (n + 1) := by
  have h1 := add_new (ps := rtW n) (q := rqW n) (rtW_no (.inr fun k hk => by show (n : Int) + 1 ≠ _; omega)) (by have := ofQ_len (rtW n) (rqW n).id.1; rw [rtW_len] at this; omega)
  exact ⟨h1.1, by rw [h1.2]; exact rtW_snoc n⟩
theorem kTell_sleeps {D : KS → ID → Int → Int → KS} {s : KS} {d : Deed} {u x : Int} {b : Nat} {w : Int} {xs : List ID} (hb : look s.be d.1.1 = some (u, x)) (hn : look s.nt u = some (b, w, xs)) (hw : woke w xs x = false) : kTell D s d = { kSaid s d with nt := updO s.nt u (ntS x) } := by
  have e : kBell (kSaid s d) d.1.1 = (u, x) := by unfold kBell; rw [kSaid_be, hb]; rfl
  unfold kTell
  rw [e, kSaid_nt]
  simp only [hn, hw]
  unfold kRung
  rw [e, kSaid_nt]; rfl
theorem kTell_wakes {D : KS → ID → Int → Int → KS} {s : KS} {d : Deed} {u x : Int} {b : Nat} {w : Int} {xs : List ID} (hb : look s.be d.1.1 = some (u, x)) (hn : look s.nt u = some (b, w, xs)) (hw : woke w xs x = true) : kTell D s d = D { kSaid s d with nt := updO s.nt u (ntS x) } (sigI w xs x) 0 (sigV w xs x) := by
  have e : kBell (kSaid s d) d.1.1 = (u, x) := by unfold kBell; rw [kSaid_be, hb]; rfl
  unfold kTell
  rw [e, kSaid_nt]
  simp only [hn, hw, if_true]
  unfold kRung
  rw [e, kSaid_nt]
set_option maxRecDepth 100000 in
set_option maxHeartbeats 4000000 in
theorem made24 {E : World} {l : List As} {n : Nat} (hn : n ≤ 12) :
  Con Tryz.prog 18 #[.int .i64 (n : Int)] E l (fun g : NewG => .pointer (some ⟨g.p, 0, none⟩)) (fun g => coA g.p { kNew 2 3 3 4 true g with rt := rtW n } :: l) := by
 refine Con.body (vs := [.int .i64 (n : Int)]) (n := 60) Tryz.func18 rfl rfl [(0, .int .i64 (n : Int))] (env_ok 1 rfl) <| sr <| ag rfl rfl <| nx <| L_pur rfl (bld27 (.cons rfl (.cons rfl (.cons rfl (.cons rfl (.cons rfl .nil))))) (by repeat constructor)) <| J_slot (t := 5) (v := .agg (encG 2 3 3 4 true).toArray) rfl rfl <| L_op <| x_call Tryz.func8 nm8 bd8 (.cons rfl .nil) rfl (coNew (ct := 2) (cu := 3) (cs := 3) (cc := 4) (sh := true)) fun g => ?_
 have hT := duo_is g
 obtain ⟨K, hK⟩ : ∃ K, K = kNew 2 3 3 4 true g := ⟨_, rfl⟩
 rw [← hK] at hT
 refine J_pick (A := coA g.p _) PC ?_
 refine J_asTo (B := coA g.p K) (by rw [hK]) <| ag rfl rfl <| nxx <| mv rfl rfl <| L_pur rfl (p_eqNilPtr Tryz.underlying24 rfl) <| mv rfl rfl <| J_bool (t := 9) (c := false) rfl (rfl) <| L_op <| G_on rfl rfl rfl ?_
 refine J_pur (p_move rfl) rfl rfl rfl <| L_op <| G_on rfl rfl rfl <| x_call Tryz.func9 nm9 bd9 (.cons rfl .nil) rfl (coReqs) fun _ => L_op <| G_on rfl rfl rfl <| J_pur (p_eqNilPtr Tryz.underlying28 rfl) rfl rfl rfl <| L_pur rfl (p_pick_f rfl rfl) ?_
 refine mv rfl rfl <| J_bool (t := 14) (c := false) rfl (rfl) <| L_op <| G_on rfl rfl rfl <| J_pur (p_move rfl) rfl rfl rfl <| L_op <| G_on rfl rfl rfl <| x_call Tryz.func11 nm11 bd11 (.cons rfl .nil) rfl (coJournal) fun _ => ?_
 refine L_op <| G_on rfl rfl rfl <| J_pur (p_eqNilPtr Tryz.underlying32 rfl) rfl rfl rfl <| L_pur rfl (p_pick_f rfl rfl) <| mv rfl rfl <| J_bool (t := 19) (c := false) rfl (rfl) <| L_op <| G_on rfl rfl rfl ?_
 refine J_pur (p_move rfl) rfl rfl rfl <| L_op <| G_on rfl rfl rfl <| x_call Tryz.func22 nm22 bd22 (.cons rfl .nil) rfl (coTimers) fun _ => L_op <| G_on rfl rfl rfl <| J_pur (p_eqNilPtr Tryz.underlying59 rfl) rfl rfl rfl <| L_pur rfl (p_pick_f rfl rfl) ?_
 refine mv rfl rfl <| J_bool (t := 24) (c := false) rfl (rfl) <| L_op <| G_on rfl rfl rfl <| J_pur (p_move rfl) rfl rfl rfl <| L_op <| G_on rfl rfl rfl <| x_call Tryz.func19 nm19 bd19 (.cons rfl (.cons rfl .nil)) rfl (coNotif (s := K) (u := 22) PC) fun _ => ?_
 refine J_slot (t := 26) (v := .pointer (some ⟨g.bn, 0, none⟩)) rfl (by rw [hT.nt]; rfl) <| L_op <| G_on rfl rfl rfl <| J_pur (p_eqNilPtr Tryz.underlying54 rfl) rfl rfl rfl <| L_pur rfl (p_pick_f rfl rfl) <| mv rfl rfl <| J_bool (t := 29) (c := false) rfl (rfl) <| L_op <| G_on rfl rfl rfl ?_
 refine J_pur (p_move rfl) rfl rfl rfl <| L_op <| G_on rfl rfl rfl <| x_call Tryz.func28 nm28 bd28 (.cons rfl (.cons rfl .nil)) rfl (coEp (s := K) (u := 21) PC) fun _ => ?_
 refine J_slot (t := 31) (v := .pointer (some ⟨g.be, 0, none⟩)) rfl (by rw [hT.ep]; rfl) <| L_op <| G_on rfl rfl rfl <| J_pur (p_eqNilPtr Tryz.underlying73 rfl) rfl rfl rfl <| L_pur rfl (p_pick_f rfl rfl) <| mv rfl rfl <| J_bool (t := 34) (c := false) rfl (rfl) <| L_op <| G_on rfl rfl rfl ?_
 refine J_pur (p_move rfl) rfl rfl rfl <| L_op <| G_on rfl rfl rfl <| x_call Tryz.func10 nm10 bd10 (.cons rfl (.cons rfl .nil)) rfl (coRing (s := K) (u := 4) PC) fun _ => ?_
 refine J_slot (t := 36) (v := .pointer (some ⟨(g.bs 0).1, 0, none⟩)) rfl (by rw [hT.rg]; rfl) <| L_op <| G_on rfl rfl rfl <| J_pur (p_eqNilPtr Tryz.underlying30 rfl) rfl rfl rfl <| L_pur rfl (p_pick_f rfl rfl) <| mv rfl rfl <| J_bool (t := 39) (c := false) rfl (rfl) <| L_op <| G_on rfl rfl rfl ?_
 refine J_pur (p_move rfl) rfl rfl rfl <| L_op <| G_on rfl rfl rfl <| x_call Tryz.func10 nm10 bd10 (.cons rfl (.cons rfl .nil)) rfl (coRing (s := K) (u := 14) PC) fun _ => ?_
 refine J_slot (t := 41) (v := .pointer (some ⟨(g.bs 1).1, 0, none⟩)) rfl (by rw [hT.rg]; rfl) <| L_op <| G_on rfl rfl rfl <| J_pur (p_eqNilPtr Tryz.underlying30 rfl) rfl rfl rfl <| L_pur rfl (p_pick_f rfl rfl) <| nq <| J_bool (t := 43) (c := false) rfl (rfl) <| C_false rfl ?_
 refine J_skip <| Q_then <| J_seq <| sr <| ag rfl rfl <| J_slot (t := 4) (v := .int .i64 (((0 : Nat) : Int) + 1)) rfl rfl <| J_pick (A := coA g.p _) PC ?_
 refine J_asTo (B := coA g.p { K with rt := rtW 0 }) (by rw [show rtW 0 = K.rt from hT.rt.symm]) <| nq <| J_block <| J_loop (α := Nat) (fun k => k ≤ n) (fun k => coA g.p { K with rt := rtW k } :: l) (fun k => [(4, .int .i64 ((k : Int) + 1)), (0, .int .i64 (n : Int)), (3, .pointer (some ⟨g.p, 0, none⟩))]) (fun k => n - k) 0 (by omega) SU KE ?_
 intro k hk
 refine J_seq <| sr <| mv rfl rfl <| mv rfl rfl <| L_pur rfl (p_leq rfl rfl) <| nq ?_
 refine C_dec rfl (fun h46 => ?_) (fun h46 => ?_)
 ·
  have hadd := rtW_add (n := k) (by omega)
  refine J_skip <| Q_then <| J_seq <| J_block <| sr <| mv rfl rfl <| L_op <| x_call Tryz.func9 nm9 bd9 (.cons rfl .nil) rfl (coReqs) fun _ => ?_
  refine mv rfl rfl <| L_pur rfl (bld36 (.cons rfl (.cons rfl .nil)) (by repeat constructor)) <| mv rfl rfl <| L_pur rfl (p_conv rfl Tryz.underlying3 Tryz.underlying37) <| L_pur rfl (bld39 (.cons rfl (.cons rfl .nil)) (by repeat constructor)) <| L_pur rfl (bld41 (.cons rfl (.cons rfl .nil)) (by repeat constructor)) <| J_slot (t := 56) (v := .agg (encQ (rqW k)).toArray) rfl (by unfold encQ rqW; rw [wrap32u_of (by omega)]) <| L_op <| x_call Tryz.func12 nm12 bd12 (.cons rfl (.cons rfl .nil)) rfl (coRqAdd (s := { K with rt := rtW k }) (q := rqW k) PC (rtW_ids k) (by show (rtW k).length ≤ 100000; rw [rtW_len]; omega)) fun _ => ?_
  refine J_bool (t := 57) (c := true) rfl (by rw [hadd.1]) <| J_pick (A := coA g.p _) PC ?_
  refine J_asTo (B := coA g.p { K with rt := rtW (k + 1) }) (by rw [hadd.2]) <| L_pur rfl (p_not rfl) <| nq <| J_bool (t := 58) (c := false) rfl (rfl) <| C_false rfl <| J_skip <| Q_blk_normal <| qr ?_
  refine mv rfl rfl <| L_pur rfl (p_add64 rfl rfl (by omega)) <| ag rfl rfl <| nq <| J_slot (t := 4) (v := .int .i64 (((k + 1 : Nat) : Int) + 1)) rfl (by first | rfl | push_cast) ?_
  exact J_again (k + 1) (by omega) (by omega) SU KE
 ·
  have hkn : k = n := by omega
  subst hkn
  refine J_exit <| Q_then_exit <| Q_then_exit <| Q_blk_this <| qx <| mv rfl rfl <| ag rfl rfl <| nq ?_
  refine J_ret <| J_pick (A := coA g.p _) PC ?_
  refine J_asTo (B := coA g.p { kNew 2 3 3 4 true g with rt := rtW k }) (by rw [← hK]) ?_
  exact J_return (g) Tryz.results18 (.tmp rfl .nil) rfl SU

end Go.Pse
