/-
  A ring is torn down.
-/
import Derived.Test.YthjbhkaokjdhmaaGreatC31
namespace Go.Pse
open Go.RowKit Go.Proofs

set_option maxHeartbeats 4000000 in
theorem coClear {E : World} {l m : List As} {p : Nat} {s : KS} (hp : Pick (coA p s) l m) {u : Int} {b : Nat} {r : Rg} (hl : look s.rg u = some (b, r)) :
  Con Tryz.prog 52 #[.pointer (some ⟨b, 0, none⟩)] E l (fun _ : Unit => .int .i64 (r.over.length : Int)) (fun _ => coA p { s with rg := updO s.rg u (fun r => { r with over := [] }) } :: m) := fun w H => by
 refine (?_ : Jk E l 0 [] fun _ w => Calls Tryz.prog 52 #[.pointer (some ⟨b, 0, none⟩)] w fun e w' => ∃ x, e = .returned ((fun _ : Unit => .int .i64 (r.over.length : Int)) x) ∧ Sep E w' ((fun _ : Unit => coA p { s with rg := updO s.rg u (fun r => { r with over := [] }) } :: m) x)) w _ H fr0
 obtain ⟨j, hj⟩ := look_ix hl
 have hjl := (List.getElem?_eq_some_iff.1 hj).1
 refine J_pick hp <| J_coO fun bn be br bg bt bs bp bl bk _ => J_keyd (ps := ptrs s.rg) HS fun hK => ?_
 refine J_pick (A := each (rgF s.mb) s.rg) PC ?_
 refine J_eachOut hj ?_
 skip
 refine J_asTo (B := rgA b s.mb r) (by rfl) <| J_con (ringClear (r := r) PC) fun x => ?_
 refine J_pick (A := rgA b s.mb { r with over := [] }) PC ?_
 refine J_asTo (B := (rgF s.mb) (u, b, ((fun r => { r with over := [] })) (r))) (by rfl) <| J_pick (A := each (rgF s.mb) _) PC ?_
 refine J_pick (A := (rgF s.mb) (u, b, _)) PC ?_
 refine J_eachIn (u, b, ((fun r => { r with over := [] })) (r)) hjl ?_
 skip
 refine J_asTo (B := each (rgF s.mb) (updO s.rg u (fun r => { r with over := [] }))) (by rw [updO_set hK hj]) <| J_pick (A := mapV kZ evA (.map (some bg)) (ptrs s.rg)) PC ?_
 refine J_mapEq (qs := ptrs (updO s.rg u (fun r => { r with over := [] }))) ptrs_updO.symm <| J_coS (p := p) (s := { s with rg := updO s.rg u (fun r => { r with over := [] }) }) bn be br bg bt bs bp bl bk PX trivial ?_
 exact J_end SU
theorem rem_erase {α : Type} {xs : List (Int × Nat × α)} {u : Int} {i b : Nat} {a : α} (hK : Keyd (ptrs xs)) (hi : xs[i]? = some (u, b, a)) : rem xs u = xs.eraseIdx i := by
  have hK' : Keyd xs := by
    unfold Keyd at hK ⊢
    rw [show (ptrs xs).map Prod.fst = xs.map Prod.fst by unfold ptrs; rw [List.map_map]; rfl] at hK
    exact hK
  exact del_at (ps := xs) hK' hi rfl
/-! ### plain: a ring is torn down -/
def deedG (q : Rq) : Deed := (q.id, q.e.tag, q.e.op, 0, 0, true)
def kTear1 (s : KS) (q : Rq) : KS := { kForget { s with rt := del s.rt q.id } q.id with jn := s.jn ++ [deedG q] }
def kTearL (s : KS) (l : List Rq) : KS := l.foldl kTear1 s
def kCleared (s : KS) (g : Int) : KS := { s with rg := updO s.rg g (fun r => { r with over := [] }) }
def kTear (s : KS) (g : Int) : KS := if (look s.rg g).isSome then kGone (kCleared (kTearL s (ofQ s.rt g)) g) 9 g else s
theorem kTearL_snoc {s : KS} {l : List Rq} {q : Rq} : kTearL s (l ++ [q]) = kTear1 (kTearL s l) q := by unfold kTearL; rw [List.foldl_append]; rfl
theorem kTearL_rg : ∀ {l : List Rq} {s : KS}, (kTearL s l).rg = s.rg ∧ (kTearL s l).mb = s.mb ∧ (kTearL s l).ep = (kTearL s l).ep
  | [], s => ⟨rfl, rfl, rfl⟩
  | q :: l, s => by
    have h := kTearL_rg (l := l) (s := kTear1 s q)
    exact ⟨h.1, h.2.1, rfl⟩
theorem Fits.delAny {s : KS} {N M : Nat} (h : Fits s N M) (i : ID) : Fits { s with rt := del s.rt i } N M := by
  have hl := del_le (ps := s.rt) (i := i)
  exact ⟨h.n, h.mm, h.ids.del i, by have := h.jn; show s.jn.length + (del s.rt i).length ≤ M; omega, h.tm, h.ep, h.nt, h.rp, fun x hx => ⟨(h.rg x hx).1, by have := (h.rg x hx).2; show _ + (del s.rt i).length ≤ M; omega⟩, h.mem⟩
theorem cleared_look {s : KS} {g : Int} {b : Nat} {r : Rg} (h : look s.rg g = some (b, r)) : look (kCleared s g).rg g = some (b, { r with over := [] }) := by
  have e : (kCleared s g).rg = updO s.rg g (fun r => { r with over := [] }) := rfl
  rw [e, look_updO, h]; simp
theorem Fits.tear1 {s : KS} {N M : Nat} (h : Fits s N M) (hm : M + 1 ≤ 90000) (q : Rq) : Fits (kTear1 s q) N (M + 1) := by
  have h1 := h.delAny q.id
  exact (h1.forget q.id).jnl hm (deedG q)
theorem Fits.tearL {N : Nat} : ∀ {l : List Rq} {s : KS} {M : Nat}, Fits s N M → M + l.length ≤ 90000 → Fits (kTearL s l) N (M + l.length)
  | [], s, M, h, _ => h
  | q :: l, s, M, h, hm => by
    have := Fits.tearL (l := l) (h.tear1 (by simp at hm; omega) q) (by simp at hm; omega)
    rw [List.length_cons, show M + (l.length + 1) = M + 1 + l.length by omega]
    exact this
set_option maxRecDepth 100000 in
set_option maxHeartbeats 4000000 in
theorem coGoneRing {E : World} {l m : List As} {p : Nat} {s : KS} (hp : Pick (coA p s) l m) {u : Int} {b : Nat} {r : Rg} (hl : look s.rg u = some (b, r)) :
  Con Tryz.prog 53 #[.pointer (some ⟨p, 0, none⟩), .agg (encI (9, u)).toArray] E l (fun _ : Unit => .tuple #[]) (fun _ => coA p (kGone s 9 u) :: rgA b s.mb r :: m) := by
 refine Con.body (vs := [.pointer (some ⟨p, 0, none⟩), .agg (encI (9, u)).toArray]) (n := 74) Tryz.func53 rfl rfl [(0, .pointer (some ⟨p, 0, none⟩)), (1, .agg (encI (9, u)).toArray)] (env_ok 2 rfl) <| J_pick hp <| J_coO fun bn be br bg bt bs bp bl bk _ => ?_
 obtain ⟨j, hj⟩ := look_ix hl
 refine J_keyd (ps := ptrs s.rg) HS fun hK => ?_
 refine J_pick (A := each (rgF s.mb) s.rg) PC ?_
 refine J_eachOut hj ?_
 skip
 refine J_asTo (B := rgA b s.mb r) (by rfl) <| sr <| L_op <| x_box rfl rfl rfl fun b3 => nx <| fa rfl rfl fa82_0 <| L_val rfl (v_load rfl ty3 HS (by exact rfl)) ?_
 refine nq <| J_block <| sr <| L_pur rfl (p_eql rfl rfl) <| ag rfl rfl <| nq <| J_bool (t := 6) (c := false) rfl (rfl) <| C_false rfl ?_
 refine sr <| L_pur rfl (p_eql rfl rfl) <| ag rfl rfl <| nq <| J_bool (t := 14) (c := false) rfl (rfl) <| C_false rfl <| sr <| L_pur rfl (p_eql rfl rfl) ?_
 refine ag rfl rfl <| nq <| J_bool (t := 22) (c := false) rfl (rfl) <| C_false rfl <| sr <| L_pur rfl (p_eql rfl rfl) <| ag rfl rfl <| nq ?_
 refine J_bool (t := 30) (c := false) rfl (rfl) <| C_false rfl <| sr <| L_pur rfl (p_eql rfl rfl) <| ag rfl rfl <| nq <| J_bool (t := 38) (c := false) rfl (rfl) <| C_false rfl ?_
 refine sr <| L_pur rfl (p_eql rfl rfl) <| ag rfl rfl <| nq <| J_bool (t := 52) (c := false) rfl (rfl) <| C_false rfl <| sr <| L_pur rfl (p_eql rfl rfl) ?_
 refine ag rfl rfl <| nq <| J_bool (t := 66) (c := true) rfl (rfl) <| C_true rfl <| J_drawT 6 mixed (by kernel_rfl) <| sm rfl rfl <| sp rfl (p_nilCheck rfl) <| sp rfl (p_fieldAddr rfl fa117_12) ?_
 refine S_val rfl (v_loadL (o := 13) (i := 3) rfl ty91 HS rfl (by exact rfl)) ?_
 refine sp rfl (p_fieldAddr rfl fa82_1) <| S_val rfl (v_load rfl ty3 HS (by exact rfl)) ?_
 refine S_nil <| L_op <| x_delete (ek := kZ) (ev := evA) (a := u) rfl rfl ky3 Tryz.underlying91 PC ?_
 refine L_nil <| Q_blk_normal <| J_endnormal <| J_pick (A := each (rgF s.mb) (s.rg.eraseIdx j)) PC ?_
 refine J_asTo (B := each (rgF s.mb) (rem s.rg u)) (by rw [rem_erase hK hj]) <| J_pick (A := mapV kZ evA (.map (some bg)) _) PC ?_
 refine J_mapEq (qs := ptrs (rem s.rg u)) ptrs_rem <| J_coS (p := p) (s := { s with rg := rem s.rg u }) bn be br bg bt bs bp bl bk PX trivial ?_
 refine J_asTo (B := coA p (kGone s 9 u)) (by rfl) ?_
 exact J_return (()) Tryz.results53 .nil rfl SU

set_option maxRecDepth 100000 in
set_option maxHeartbeats 4000000 in
theorem coTearNo {E : World} {l m : List As} {p : Nat} {s : KS} (hp : Pick (coA p s) l m) {g : Int} (hl : look s.rg g = none) :
    Con Tryz.prog 24 #[.pointer (some ⟨p, 0, none⟩), .int .i64 g] E l (fun _ : Unit => .bool false) (fun _ => coA p s :: m) := by
  refine Con.body (vs := [.pointer (some ⟨p, 0, none⟩), .int .i64 g]) (n := 50) Tryz.func24 rfl rfl [(0, .pointer (some ⟨p, 0, none⟩)), (1, .int .i64 g)] (env_ok 2 rfl) <| J_pick hp <| sr <| ag rfl rfl <| nx <| mv rfl rfl <| mv rfl rfl <| L_op <| x_call Tryz.func10 nm10 bd10 (.cons rfl (.cons rfl .nil)) rfl (coRing (s := s) (u := g) PC) fun _ => ?_
  refine J_slot (t := 10) (v := .pointer none) rfl (by rw [look_ptrs, hl]; rfl) <| ag rfl rfl <| nxx <| mv rfl rfl <| L_pur rfl (p_eqNilPtr Tryz.underlying30 rfl) <| nq <| J_bool (t := 12) (c := true) rfl (rfl) <| C_true rfl ?_
  refine sr <| ag rfl rfl <| nq <| J_ret <| Q_then_ret ?_
  exact J_return (()) Tryz.results24 (.tmp rfl .nil) rfl SU

set_option maxRecDepth 100000 in
set_option maxHeartbeats 4000000 in
theorem coTear {E : World} {l m : List As} {p : Nat} {s : KS} (hp : Pick (coA p s) l m) {g : Int} {b : Nat} {r : Rg} {N M : Nat} (hl : look s.rg g = some (b, r)) (hF : Fits s N M) (hm : M + s.rt.length ≤ 90000) :
  Con Tryz.prog 24 #[.pointer (some ⟨p, 0, none⟩), .int .i64 g] E l (fun _ : Unit => .bool true) (fun _ => coA p (kTear s g) :: rgA b s.mb { r with over := [] } :: m) := by
 refine Con.body (vs := [.pointer (some ⟨p, 0, none⟩), .int .i64 g]) (n := 50) Tryz.func24 rfl rfl [(0, .pointer (some ⟨p, 0, none⟩)), (1, .int .i64 g)] (env_ok 2 rfl) <| J_pick hp <| sr <| ag rfl rfl <| nx <| mv rfl rfl <| mv rfl rfl <| L_op <| x_call Tryz.func10 nm10 bd10 (.cons rfl (.cons rfl .nil)) rfl (coRing (s := s) (u := g) PC) fun _ => ?_
 refine J_slot (t := 10) (v := .pointer (some ⟨b, 0, none⟩)) rfl (by rw [look_is hl]; rfl) <| ag rfl rfl <| nxx <| mv rfl rfl <| L_pur rfl (p_eqNilPtr Tryz.underlying30 rfl) <| nq <| J_bool (t := 12) (c := false) rfl (rfl) <| C_false rfl ?_
 refine J_skip <| Q_then <| J_seq <| sr <| mv rfl rfl <| L_op <| x_call Tryz.func9 nm9 bd9 (.cons rfl .nil) rfl (coReqs) fun _ => mv rfl rfl ?_
 refine L_op <| x_call Tryz.func16 nm16 bd16 (.cons rfl (.cons rfl .nil)) rfl (coRqOf (s := s) (g := g) PC hF.ids (by have := hF.jn; have := hF.mm; omega)) <| JR fun a16 c16 hw16 hl16 hm16 hz16 => ?_
 have hol := ofQ_len s.rt g
 obtain ⟨xs, hxs⟩ : ∃ xs, xs = ofQ s.rt g := ⟨_, rfl⟩
 refine J_pick (A := row 41 13 _ _) PC ?_
 refine J_rowTo (ys := xs.map encQ) (v' := .slice a16 (xs.map encQ).length c16) (by rw [hxs]) (by rw [hxs]) <| J_slot (t := 16) (v := .slice a16 (xs.map encQ).length c16) rfl (by rw [hxs]) ?_
 rw [← hxs] at hol hz16
 have hmcap : c16 ≤ 9223372036854775807 := hm16
 have hml : (xs.map encQ).length = xs.length := List.length_map _
 refine J_pick (A := coA p s) PC ?_
 refine J_asTo (B := coA p (kTearL s (xs.take 0))) (by rw [List.take_zero]; rfl) <| L_pur rfl (p_len rfl Tryz.underlying46) <| mv rfl rfl <| nq <| J_block <| J_loop (α := Nat) (fun k => k ≤ xs.length) (fun k => row 41 13 (.slice a16 (xs.map encQ).length c16) (xs.map encQ) :: coA p (kTearL s (xs.take k)) :: m) (fun k => [(18, .int .i64 (k : Int)), (16, .slice a16 (xs.map encQ).length c16), (17, .int .i64 ((xs.map encQ).length : Int)), (0, .pointer (some ⟨p, 0, none⟩)), (1, .int .i64 g), (5, .pointer (some ⟨b, 0, none⟩))]) (fun k => xs.length - k) 0 (by omega) SU KE ?_
 intro k hk
 refine sr <| L_pur rfl (p_lss rfl rfl) <| nq <| J_seq ?_
 refine C_dec rfl (fun h19 => ?_) (fun h19 => ?_)
 ·
  have hlt : k < xs.length := by omega
  obtain ⟨bx, ox, rfl⟩ := hz16 (by intro h; rw [h] at hml; simp at hml; omega)
  obtain ⟨c, hcc⟩ : ∃ c, xs[k]? = some c := ⟨_, List.getElem?_eq_getElem hlt⟩
  have hFk : Fits (kTearL s (xs.take k)) N (M + k) := by have := hF.tearL (l := xs.take k) (by simp; omega); rwa [List.length_take, Nat.min_eq_left (by omega)] at this
  have hFd : Fits { (kTearL s (xs.take k)) with rt := del (kTearL s (xs.take k)).rt c.id } N (M + k) := hFk.delAny c.id
  refine J_skip <| Q_then <| J_seq <| J_block <| sr <| L_pur rfl (p_indexAddr rfl rfl Tryz.underlying46 ty41 (by omega) (by omega)) ?_
  refine L_val rfl (v_loadE rfl ty41 HS (by first | (simp only [Int.toNat_natCast, List.getElem?_map, hcc]; rfl) | (simp only [Int.toNat_natCast, List.getElem?_map, hcd]; rfl) | simp | rfl)) ?_
  refine L_op <| x_alloc ty41 rfl fun b7 => L_op <| x_store rfl rfl ty41 rfl SM SM RO PT ?_
  refine J_pick (A := blk b7 _ _) PC ?_
  refine J_asTo (B := blk b7 41 (encQ c)) (by rfl) <| nq <| J_seq <| J_drawL (some 4) mixed <| ip 0 rfl rfl rfl rfl (p_move rfl) <| ip 2 rfl rfl rfl rfl (p_fieldAddr rfl fa41_0) <| iv 3 rfl rfl rfl rfl (fun _ => v_loadA rfl ty36 HS CT) ?_
  refine i1 1 rfl <| x_call Tryz.func9 nm9 bd9 (.cons rfl .nil) rfl (coReqs) fun _ => i1 4 rfl <| x_call Tryz.func38 nm38 bd38 (.cons rfl (.cons rfl .nil)) rfl (coRqDrop (s := (kTearL s (xs.take k))) (i := c.id) PC) fun _ => ?_
  refine i0 <| qx <| mv rfl rfl <| fa rfl rfl fa41_0 <| L_val rfl (v_loadA rfl ty36 HS CT) ?_
  refine L_op <| x_call Tryz.func39 nm39 bd39 (.cons rfl (.cons rfl .nil)) rfl (coForget (s := { (kTearL s (xs.take k)) with rt := del (kTearL s (xs.take k)).rt c.id }) (i := c.id) PC hFd) fun _ => ?_
  refine nq <| J_drawL (some 11) mixed <| ip 0 rfl rfl rfl rfl (p_move rfl) <| ip 2 rfl rfl rfl rfl (p_fieldAddr rfl fa41_0) <| iv 3 rfl rfl rfl rfl (fun _ => v_loadA rfl ty36 HS CT) ?_
  refine ip 4 rfl rfl rfl rfl (p_fieldAddr rfl fa41_1) <| ip 5 rfl rfl rfl rfl (p_fieldAddr rfl fa39_2) <| iv 6 rfl rfl rfl rfl (fun _ => v_load rfl ty37 HS (by exact rfl)) ?_
  refine ip 7 rfl rfl rfl rfl (p_fieldAddr rfl fa41_1) <| ip 8 rfl rfl rfl rfl (p_fieldAddr rfl fa39_0) <| iv 9 rfl rfl rfl rfl (fun _ => v_load rfl ty3 HS (by exact rfl)) ?_
  refine ip 10 rfl rfl rfl rfl (bld50 (.cons rfl (.cons rfl (.cons rfl (.cons rfl .nil)))) (by repeat constructor)) <| J_slot (t := 41) (v := .agg (encD (deedG c)).toArray) rfl rfl <| i1 1 rfl <| x_call Tryz.func11 nm11 bd11 (.cons rfl .nil) rfl (coJournal) fun _ => i1 11 rfl <| x_call Tryz.func51 nm51 bd51 (.cons rfl (.cons rfl .nil)) rfl (coJAdd (s := kForget { (kTearL s (xs.take k)) with rt := del (kTearL s (xs.take k)).rt c.id } c.id) (d := deedG c) PC (by have := hFk.jn; have := hFk.mm; show (kTearL s (xs.take k)).jn.length ≤ 200000; omega)) fun _ => ?_
  refine J_pick (A := coA p _) PC ?_
  refine J_asTo (B := coA p (kTearL s (xs.take (k + 1)))) (by rw [List.take_add_one, hcc, Option.toList_some, kTearL_snoc]; rfl) <| i0 <| Q_blk_normal <| qr <| L_pur rfl (p_add64 rfl rfl (by omega)) <| mv rfl rfl <| nq ?_
  exact J_again (k + 1) (by omega) (by omega) SU KE
 ·
  have hkx : k = xs.length := by omega
  subst hkx
  rw [List.take_length]
  have hl2 : look (kTearL s xs).rg g = some (b, r) := by rw [kTearL_rg.1]; exact hl
  refine J_exit <| Q_then_exit <| Q_then_exit <| Q_blk_this <| qx <| mv rfl rfl <| L_op <| x_call Tryz.func52 nm52 bd52 (.cons rfl .nil) rfl (coClear (s := kTearL s xs) (u := g) (r := r) PC hl2) fun _ => ?_
  refine J_pick (A := coA p _) PC ?_
  refine J_asTo (B := coA p (kCleared (kTearL s xs) g)) (by rfl) <| nx <| mv rfl rfl <| mv rfl rfl <| L_pur rfl (bld82 (.cons rfl (.cons rfl .nil)) (by repeat constructor)) <| J_slot (t := 48) (v := .agg (encI (9, g)).toArray) rfl rfl <| L_op <| x_call Tryz.func53 nm53 bd53 (.cons rfl (.cons rfl .nil)) rfl (coGoneRing (s := kCleared (kTearL s xs) g) (u := g) (b := b) (r := { r with over := [] }) PC (cleared_look hl2)) fun _ => ?_
  refine nx <| ag rfl rfl <| nq <| J_ret <| J_pick (A := coA p _) PC ?_
  refine J_asTo (B := coA p (kTear s g)) (by unfold kTear; rw [hl, ← hxs]; rfl) <| J_pick (A := rgA b _ _) PC ?_
  refine J_asTo (B := rgA b s.mb { r with over := [] }) (by rw [show (kCleared (kTearL s xs) g).mb = s.mb from kTearL_rg.2.1]) ?_
  exact J_return (()) Tryz.results24 (.tmp rfl .nil) rfl SU

end Go.Pse
