/-
  Own texts, merged: C66, C67, C68, C69, C70, C71, C72, C73, C54, C74a, C74, C80, C81, Facts.
-/
import Derived.Test.YtjhbhjenmijmfaaGreatBC3
import Derived.Test.YtjhbhjenmijmfaaGreatRows
import Derived.ProofKit
import Derived.WalkKit
set_option linter.unusedVariables false
set_option linter.unusedSimpArgs false
set_option maxRecDepth 100000
set_option maxHeartbeats 4000000
namespace Go.Pse
open Go.RowKit Go.Proofs
theorem kSaid_rglen (s : KS) (d : Deed) : (kSaid s d).rg.length = s.rg.length := by
  unfold kSaid kPost
  split
  · rfl
  · simp [updO]
theorem tell_rglen {D : KS → ID → Int → Int → KS} (hD : ∀ s i r v, (D s i r v).rg.length = s.rg.length) (s : KS) (d : Deed) : (kTell D s d).rg.length = s.rg.length := by
  unfold kTell
  split
  · exact kSaid_rglen s d
  · split
    · exact (hD _ _ _ _).trans (kSaid_rglen s d)
    · exact kSaid_rglen s d
theorem dec_rglen : ∀ n (s : KS) (i : ID) (r v : Int), (kDec n s i r v).rg.length = s.rg.length
  | 0, s, _, _, _ => rfl
  | n + 1, s, i, r, v => by
    cases hq : look s.rt i with
    | none => rw [kDec_none hq]
    | some q =>
      rw [kDec_some hq]
      have h := tell_rglen (D := kDec n) (fun s i r v => dec_rglen n s i r v) (kForget { s with rt := del s.rt i } i) (i, q.e.tag, q.e.op, r, v, false)
      unfold kNext
      split
      · exact h
      · split
        · exact (dec_rglen n _ _ _ _).trans h
        · exact h
theorem ends_rglen : ∀ (l : List ID) (s : KS), (kEnds s l).rg.length = s.rg.length
  | [], s => rfl
  | i :: l, s => (ends_rglen l _).trans (dec_rglen _ _ _ _ _)
theorem nodup_take {l : List Int} (h : l.Nodup) {j : Nat} {x : Int} (hx : l[j]? = some x) : x ∉ l.take j := fun hm => by
  obtain ⟨i, hi⟩ := List.getElem?_of_mem hm
  have hil : i < j := by
    have := (List.getElem?_eq_some_iff.1 hi).1
    rw [List.length_take] at this; omega
  rw [List.getElem?_take_of_lt hil] at hi
  have := nodup_idx h hi hx
  omega
theorem kTear_rglen (s : KS) (g : Int) : (kTear s g).rg.length ≤ s.rg.length := by
  unfold kTear
  split
  · have e : (kGone (kCleared (kTearL s (ofQ s.rt g)) g) 9 g).rg = rem (updO (kTearL s (ofQ s.rt g)).rg g (fun r => { r with over := [] })) g := rfl
    rw [e, kTearL_rg.1]
    unfold rem
    refine Nat.le_trans (List.length_filter_le _ _) ?_
    unfold updO; rw [List.length_map]; exact Nat.le_refl _
  · exact Nat.le_refl _
theorem torn_rglen (u : Int) : ∀ (l : List Int) (s : KS), (kTorn s u l).rg.length ≤ s.rg.length
  | [], s => Nat.le_refl _
  | g :: l, s => by
    refine Nat.le_trans (torn_rglen u l (tornStep u s g)) ?_
    unfold tornStep
    split
    · exact Nat.le_refl _
    · split
      · exact kTear_rglen s g
      · exact Nat.le_refl _
theorem gone_rglen (s : KS) (k u : Int) : (kGone s k u).rg.length ≤ s.rg.length := by
  unfold kGone
  (repeat' split) <;> first | exact Nat.le_refl _ | exact List.length_filter_le _ _
theorem destroy_rglen (s : KS) (o : Obj2) : (kDestroy s o).rg.length ≤ s.rg.length := by
  unfold kDestroy
  refine Nat.le_trans (gone_rglen _ _ _) ?_
  split
  · exact Nat.le_trans (torn_rglen _ _ _) (Nat.le_of_eq (ends_rglen _ _))
  · split
    · exact Nat.le_trans (kTear_rglen _ _) (Nat.le_of_eq (ends_rglen _ _))
    · exact Nat.le_of_eq (ends_rglen _ _)
theorem destroyL_rglen : ∀ (l : List Obj2) (s : KS), (kDestroyL s l).rg.length ≤ s.rg.length
  | [], s => Nat.le_refl _
  | o :: l, s => Nat.le_trans (destroyL_rglen l _) (destroy_rglen s o)
theorem coDestroy1 {E : World} {l m : List As} {p : Nat} {s : KS} (hp : Pick (coA p s) l m) {k u : Int} {N M : Nat} (hF : Fits s N M) (hM : M ≤ 45000) (hq : s.q.length ≤ 90000) (hz : s.mp.length ≤ 1000000) (hg0 : s.rg.length ≤ 1000) :
  Con Tryz.prog 269 #[.pointer (some ⟨p, 0, none⟩), .agg (encI (k, u)).toArray] E l (fun _ : Unit => .tuple #[]) (fun _ => coA p (kDestroy s (k, u)) :: m) := by
 refine Con.body (vs := [.pointer (some ⟨p, 0, none⟩), .agg (encI (k, u)).toArray]) (n := 63) Tryz.func269 rfl rfl [(0, .pointer (some ⟨p, 0, none⟩)), (1, .agg (encI (k, u)).toArray)] (env_ok 2 rfl) <| J_pick hp <| sr <| L_op <| x_box rfl rfl rfl fun b3 => nxx <| mv rfl rfl <| L_val rfl (v_loadA rfl ty418 HS CT) ?_
 refine L_op <| xc fc286 (.cons rfl (.cons rfl .nil)) rfl (coWaits (s := s) (k := k) (u := u) PC hF) <| JR fun a12 c12 hw12 hl12 hm12 hz12 => ?_
 have hml : ((kWaits s k u).map encI).length = (kWaits s k u).length := List.length_map _
 have hmcap : c12 ≤ 9223372036854775807 := hm12
 refine J_pick (A := coA p s) PC ?_
 refine J_asTo (B := coA p (kEnds s ((kWaits s k u).take 0))) (by rw [List.take_zero]; rfl) <| L_pur rfl (p_len rfl Tryz.underlying208) <| mv rfl rfl <| nq <| J_block <| J_loop (α := Nat) (fun j => j ≤ (kWaits s k u).length) (fun j => row 39 2 (.slice a12 ((kWaits s k u).map encI).length c12) ((kWaits s k u).map encI) :: blk b3 418 [.int .i64 k, .int .i64 u] :: coA p (kEnds s ((kWaits s k u).take j)) :: m) (fun j => [(14, .int .i64 (j : Int)), (12, .slice a12 ((kWaits s k u).map encI).length c12), (13, .int .i64 (((kWaits s k u).map encI).length : Int)), (0, .pointer (some ⟨p, 0, none⟩)), (3, .pointer (some ⟨b3, 0, none⟩))]) (fun j => (kWaits s k u).length - j) 0 (by omega) SU KE ?_
 intro j hj
 refine sr <| L_pur rfl (p_lss rfl rfl) <| nq <| J_seq ?_
 refine C_dec rfl (fun h15 => ?_) (fun h15 => ?_)
 have hlt : j < (kWaits s k u).length := by omega
 obtain ⟨bx, ox, rfl⟩ := hz12 (by intro h; rw [h] at hml; simp at hml; omega)
 obtain ⟨c, hcc⟩ : ∃ c, (kWaits s k u)[j]? = some c := ⟨_, List.getElem?_eq_getElem hlt⟩
 refine J_skip <| Q_then <| J_seq <| J_block <| sr <| L_pur rfl (p_indexAddr rfl rfl Tryz.underlying208 ty39 (by omega) (by omega)) ?_
 refine L_val rfl (v_loadE rfl ty39 HS (by first | (simp only [Int.toNat_natCast, List.getElem?_map, hcc]; rfl) | (simp only [Int.toNat_natCast, List.getElem?_map, hcd]; rfl) | simp | rfl)) ?_
 refine L_op <| x_alloc ty39 rfl fun b5 => L_op <| x_store rfl rfl ty39 rfl SM SM RO PT ?_
 refine J_pick (A := blk b5 _ _) PC ?_
 refine J_asTo (B := blk b5 39 (encI c)) (by rfl) <| ny <| mv rfl rfl <| L_val rfl (v_loadA rfl ty39 HS CT) ?_
 refine L_op <| xc fc54 (.cons rfl (.cons rfl (.cons rfl (.cons rfl .nil)))) rfl (coDecide (s := (kEnds s ((kWaits s k u).take j))) (i := c) (r := -9) (v := 0) PC (hF.ends (l := (kWaits s k u).take j))) fun _ => ?_
 refine J_pick (A := coA p _) PC ?_
 refine J_asTo (B := coA p (kEnds s ((kWaits s k u).take (j + 1)))) (by rw [List.take_add_one, hcc, Option.toList_some, kEnds_snoc]) <| L_nil <| Q_blk_normal <| qr <| L_pur rfl (p_add64 rfl rfl (by omega)) <| mv rfl rfl <| nq ?_
 exact J_again (j + 1) (by omega) (by omega) SU KE
 have hjw : j = (kWaits s k u).length := by omega
 rw [hjw, List.take_length]
 obtain ⟨S, hS⟩ : ∃ S, S = (kEnds s (kWaits s k u)) := ⟨_, rfl⟩
 rw [← hS]
 have hFS : Fits S N M := by rw [hS]; exact hF.ends
 have hkS : Kept s S := by rw [hS]; exact Kept.ends _ _
 have hgS : S.rg.length = s.rg.length := by rw [hS]; exact ends_rglen _ _
 refine J_pick (A := coA p S) PC ?_
 refine J_coRgKeyd fun hKg => J_coRtKeyd fun hKr => J_exit <| Q_then_exit <| Q_then_exit <| Q_blk_this <| Q_then <| J_seq ?_
 refine sr <| fa rfl rfl fa418_0 <| L_val rfl (v_load rfl ty3 HS (by exact rfl)) ?_
 refine nq <| J_block <| sr <| L_pur rfl (p_eql rfl rfl) <| ag rfl rfl <| nq ?_
 refine C_dec rfl (fun h24 => ?_) (fun h24 => ?_)
 have hk3 : k = 3 := h24
 refine sr <| mv rfl rfl <| L_op <| xc fc287 (.cons rfl .nil) rfl (coRings (s := S) PC (by omega)) <| JR fun a27 c27 hw27 hl27 hm27 hz27 => ?_
 obtain ⟨zs, hzs⟩ : ∃ zs, zs = sortZ (S.rg.map Prod.fst) := ⟨_, rfl⟩
 refine J_pick (A := row 3 1 _ _) PC ?_
 refine J_rowTo (ys := zs.map encN) (v' := .slice a27 (zs.map encN).length c27) (by rw [hzs]) (by rw [hzs]) <| J_slot (t := 27) (v := .slice a27 (zs.map encN).length c27) rfl (by rw [hzs]) ?_
 rw [← hzs] at hz27
 have hmc : c27 ≤ 9223372036854775807 := hm27
 have hmlz : (zs.map encN).length = zs.length := List.length_map _
 have hzl : zs.length = s.rg.length := by rw [hzs, sortZ_len, List.length_map, hgS]
 have hzp : zs.Perm (S.rg.map Prod.fst) := by rw [hzs]; exact sortZ_isPerm _
 have hzn : zs.Nodup := hzp.nodup_iff.2 (by unfold Keyd at hKg; rwa [show (ptrs S.rg).map Prod.fst = S.rg.map Prod.fst by unfold ptrs; rw [List.map_map]; rfl] at hKg)
 refine J_pick (A := coA p S) PC ?_
 refine J_asTo (B := coA p (kTorn S u (zs.take 0))) (by rfl) <| L_pur rfl (p_len rfl Tryz.underlying73) <| mv rfl rfl <| nq <| J_block <| J_loop (α := Nat) (fun j => j ≤ zs.length) (fun j => row 3 1 (.slice a27 (zs.map encN).length c27) (zs.map encN) :: blk b3 418 [.int .i64 k, .int .i64 u] :: coA p (kTorn S u (zs.take j)) :: m) (fun j => [(29, .int .i64 (j : Int)), (27, .slice a27 (zs.map encN).length c27), (28, .int .i64 ((zs.map encN).length : Int)), (0, .pointer (some ⟨p, 0, none⟩)), (3, .pointer (some ⟨b3, 0, none⟩))]) (fun j => zs.length - j) 0 (by omega) SU KE ?_
 intro j hj
 refine sr <| L_pur rfl (p_lss rfl rfl) <| nq <| J_seq ?_
 refine C_dec rfl (fun h30 => ?_) (fun h30 => ?_)
 have hlt : j < zs.length := by omega
 obtain ⟨bx, ox, rfl⟩ := hz27 (by intro h; rw [h] at hmlz; simp at hmlz; omega)
 obtain ⟨c, hcc⟩ : ∃ c, zs[j]? = some c := ⟨_, List.getElem?_eq_getElem hlt⟩
 have hFT : Fits (kTorn S u (zs.take j)) N M := hFS.torn u hKr
 have hnot : c ∉ zs.take j := nodup_take hzn hcc
 obtain ⟨x, hx⟩ : ∃ x, look (kTorn S u (zs.take j)).rg c = some x := by
  rw [torn_rg u hnot]
  cases hq : look S.rg c with
  | none => exact absurd (hzp.mem_iff.1 (List.mem_of_getElem? hcc)) (look_none_iff.1 hq)
  | some y => exact ⟨y, rfl⟩
 obtain ⟨bR, r⟩ := x
 obtain ⟨nn, hnn⟩ := look_ix hx
 refine J_skip <| Q_then <| J_seq <| J_block <| sr <| L_pur rfl (p_indexAddr rfl rfl Tryz.underlying73 ty3 (by omega) (by omega)) ?_
 refine L_val rfl (v_loadE1 rfl ty3 HS (by first | (simp only [Int.toNat_natCast, List.getElem?_map, hcc]; rfl) | (simp only [Int.toNat_natCast, List.getElem?_map, hcd]; rfl) | simp | rfl)) ?_
 refine ag rfl rfl <| nx <| mv rfl rfl <| mv rfl rfl <| L_op <| xc fc135 (.cons rfl (.cons rfl .nil)) rfl (coRing (s := (kTorn S u (zs.take j))) (u := c) PC) fun _ => ?_
 refine J_slot (t := 36) (v := .pointer (some ⟨bR, 0, none⟩)) rfl (by rw [look_is hx]; rfl) <| L_op <| xc fc288 (.cons rfl .nil) rfl (coUnits (s := (kTorn S u (zs.take j))) (n := nn) (u := c) (r := r) PC hnn) fun _ => ?_
 refine mv rfl rfl <| L_pur rfl (p_extract rfl rfl) <| L_pur rfl (p_extract rfl rfl) <| ag rfl rfl <| ag rfl rfl <| nx <| mv rfl rfl <| fa rfl rfl fa418_1 ?_
 refine L_val rfl (v_load rfl ty3 HS (by exact rfl)) ?_
 refine L_pur rfl (p_eql rfl rfl) <| mv rfl rfl ?_
 refine J_gsplit (t := 44) rfl (fun h44 => ?_) (fun h44 => ?_)
 refine L_op <| G_off rfl rfl rfl rfl rfl rfl <| L_op <| G_off rfl rfl rfl rfl rfl rfl <| L_op <| G_off rfl rfl rfl rfl rfl rfl <| L_op <| G_off rfl rfl rfl rfl rfl rfl ?_
 refine L_pur rfl (p_pick_t rfl rfl) <| nq <| C_true rfl ?_
 have hor : r.sq = u ∨ r.cq = u := by first | exact .inl (by simpa using h44) | exact .inr (by simpa using h49)
 refine J_region <| mv rfl rfl <| mv rfl rfl <| L_op <| xc fc289 (.cons rfl (.cons rfl .nil)) rfl (coTearG (s := (kTorn S u (zs.take j))) (g := c) PC hFT hM) fun _ => ?_
 refine J_pick (A := coA p _) PC ?_
 refine J_asTo (B := coA p (kTorn S u (zs.take (j + 1)))) (by rw [List.take_add_one, hcc, Option.toList_some, kTorn_snoc]; unfold tornStep; rw [hx]; dsimp only; rw [if_pos hor]) <| L_nil <| Q_blk_normal <| qr <| L_pur rfl (p_add64 rfl rfl (by omega)) <| mv rfl rfl <| nq ?_
 exact J_again (j + 1) (by omega) (by omega) SU KE
 refine L_op <| G_on rfl rfl rfl <| J_pur (p_move rfl) rfl rfl rfl <| L_op <| G_on rfl rfl rfl <| J_pur (p_fieldAddr rfl fa418_1) rfl rfl rfl <| L_op <| G_on rfl rfl rfl ?_
 refine J_val (v_load rfl ty3 HS (by exact rfl)) rfl rfl rfl ?_
 refine L_op <| G_on rfl rfl rfl <| J_pur (p_eql rfl rfl) rfl rfl rfl <| L_pur rfl (p_pick_f rfl rfl) <| nq ?_
 refine C_dec rfl (fun h49 => ?_) (fun h49 => ?_)
 have hor : r.sq = u ∨ r.cq = u := by first | exact .inl (by simpa using h44) | exact .inr (by simpa using h49)
 refine J_region <| mv rfl rfl <| mv rfl rfl <| L_op <| xc fc289 (.cons rfl (.cons rfl .nil)) rfl (coTearG (s := (kTorn S u (zs.take j))) (g := c) PC hFT hM) fun _ => ?_
 refine J_pick (A := coA p _) PC ?_
 refine J_asTo (B := coA p (kTorn S u (zs.take (j + 1)))) (by rw [List.take_add_one, hcc, Option.toList_some, kTorn_snoc]; unfold tornStep; rw [hx]; dsimp only; rw [if_pos hor]) <| L_nil <| Q_blk_normal <| qr <| L_pur rfl (p_add64 rfl rfl (by omega)) <| mv rfl rfl <| nq ?_
 exact J_again (j + 1) (by omega) (by omega) SU KE
 have hor : ¬ (r.sq = u ∨ r.cq = u) := fun e => e.elim (by simpa using h44) (by simpa using h49)
 refine J_pick (A := coA p _) PC ?_
 refine J_asTo (B := coA p (kTorn S u (zs.take (j + 1)))) (by rw [List.take_add_one, hcc, Option.toList_some, kTorn_snoc]; unfold tornStep; rw [hx]; dsimp only; rw [if_neg hor]) <| J_skip <| Q_blk_normal <| qr <| L_pur rfl (p_add64 rfl rfl (by omega)) <| mv rfl rfl <| nq ?_
 exact J_again (j + 1) (by omega) (by omega) SU KE
 have hjz : j = zs.length := by omega
 rw [hjz, List.take_length, hzs]
 have hfin : kDestroy s (k, u) = kGone (kTorn S u (sortZ (S.rg.map Prod.fst))) k u := by unfold kDestroy; dsimp only; rw [← hS, if_pos hk3]
 refine J_exit <| Q_then_exit <| Q_then_exit <| Q_blk_this <| Q_blk_normal <| qr <| mv rfl rfl <| L_val rfl (v_loadA rfl ty418 HS CT) ?_
 refine L_op <| xc fc290 (.cons rfl (.cons rfl .nil)) rfl (coGone (k := k) (u := u) PC (by first | (rw [(Kept.torn u _ S).q, hkS.q]; exact hq) | (rw [(Kept.tear S u).q, hkS.q]; exact hq) | (rw [hkS.q]; exact hq)) (by first | (rw [(Kept.torn u _ S).mp, hkS.mp]; exact hz) | (rw [(Kept.tear S u).mp, hkS.mp]; exact hz) | (rw [hkS.mp]; exact hz))) fun _ => ?_
 refine L_nil <| J_endnormal <| J_pick (A := coA p _) PC ?_
 refine J_asTo (B := coA p (kDestroy s (k, u))) (by rw [hfin]) ?_
 exact J_return (()) Tryz.results269 .nil rfl SU
 have hk3 : ¬ k = 3 := h24
 refine sr <| L_pur rfl (p_eql rfl rfl) <| ag rfl rfl <| nq ?_
 refine C_dec rfl (fun h54 => ?_) (fun h54 => ?_)
 have hfin : kDestroy s (k, u) = kGone (kTear S u) k u := by unfold kDestroy; dsimp only; rw [← hS, if_neg hk3, if_pos h54]
 refine J_region <| mv rfl rfl <| fa rfl rfl fa418_1 <| L_val rfl (v_load rfl ty3 HS (by exact rfl)) ?_
 refine L_op <| xc fc289 (.cons rfl (.cons rfl .nil)) rfl (coTearG (s := S) (g := u) PC hFS hM) fun _ => ?_
 refine L_nil <| Q_blk_normal <| qr <| mv rfl rfl <| L_val rfl (v_loadA rfl ty418 HS CT) ?_
 refine L_op <| xc fc290 (.cons rfl (.cons rfl .nil)) rfl (coGone (k := k) (u := u) PC (by first | (rw [(Kept.torn u _ S).q, hkS.q]; exact hq) | (rw [(Kept.tear S u).q, hkS.q]; exact hq) | (rw [hkS.q]; exact hq)) (by first | (rw [(Kept.torn u _ S).mp, hkS.mp]; exact hz) | (rw [(Kept.tear S u).mp, hkS.mp]; exact hz) | (rw [hkS.mp]; exact hz))) fun _ => ?_
 refine L_nil <| J_endnormal <| J_pick (A := coA p _) PC ?_
 refine J_asTo (B := coA p (kDestroy s (k, u))) (by rw [hfin]) ?_
 exact J_return (()) Tryz.results269 .nil rfl SU
 have hfin : kDestroy s (k, u) = kGone S k u := by unfold kDestroy; dsimp only; rw [← hS, if_neg hk3, if_neg h54]
 refine J_skip <| Q_blk_normal <| qr <| mv rfl rfl <| L_val rfl (v_loadA rfl ty418 HS CT) ?_
 refine L_op <| xc fc290 (.cons rfl (.cons rfl .nil)) rfl (coGone (k := k) (u := u) PC (by first | (rw [(Kept.torn u _ S).q, hkS.q]; exact hq) | (rw [(Kept.tear S u).q, hkS.q]; exact hq) | (rw [hkS.q]; exact hq)) (by first | (rw [(Kept.torn u _ S).mp, hkS.mp]; exact hz) | (rw [(Kept.tear S u).mp, hkS.mp]; exact hz) | (rw [hkS.mp]; exact hz))) fun _ => ?_
 refine L_nil <| J_endnormal <| J_pick (A := coA p _) PC ?_
 refine J_asTo (B := coA p (kDestroy s (k, u))) (by rw [hfin]) ?_
 exact J_return (()) Tryz.results269 .nil rfl SU
theorem coDestroyG {E : World} {l m : List As} {p : Nat} {s : KS} {v : Value} {os : List Obj2} (hp : Picks [coA p s, row 418 2 v (os.map encI)] l m) {N M : Nat} (hF : Fits s N M) (hM : M ≤ 45000) (hq : s.q.length ≤ 90000) (hz : s.mp.length ≤ 1000000) (hg0 : s.rg.length ≤ 1000) :
  Con Tryz.prog 231 #[.pointer (some ⟨p, 0, none⟩), v] E l (fun _ : Unit => .tuple #[]) (fun _ => coA p (kDestroyL s os) :: m) := by
 refine Con.body (vs := [.pointer (some ⟨p, 0, none⟩), v]) (n := 16) Tryz.func231 rfl rfl [(0, .pointer (some ⟨p, 0, none⟩)), (1, v)] (env_ok 2 rfl) <| J_picks2 hp <| J_coRtKeyd fun hKr => J_row (.there .here) fun hw a6 c6 hv h1 h2 hz6 => ?_
 subst hv
 have hmc : c6 ≤ 9223372036854775807 := h2
 have hml : (os.map encI).length = os.length := List.length_map _
 refine sr <| mv rfl rfl <| L_pur rfl (p_len rfl Tryz.underlying326) <| mv rfl rfl <| J_pick (A := coA p s) PC ?_
 refine J_asTo (B := coA p (kDestroyL s (os.take 0))) (by rw [List.take_zero]; rfl) <| nq <| J_block <| J_loop (α := Nat) (fun j => j ≤ os.length) (fun j => row 418 2 (.slice a6 (os.map encI).length c6) (os.map encI) :: coA p (kDestroyL s (os.take j)) :: m) (fun j => [(8, .int .i64 (j : Int)), (6, .slice a6 (os.map encI).length c6), (7, .int .i64 ((os.map encI).length : Int)), (0, .pointer (some ⟨p, 0, none⟩))]) (fun j => os.length - j) 0 (by omega) SU KE ?_
 intro j hj
 refine sr <| L_pur rfl (p_lss rfl rfl) <| nq <| J_seq ?_
 refine C_dec rfl (fun h9 => ?_) (fun h9 => ?_)
 have hlt : j < os.length := by omega
 obtain ⟨bx, ox, rfl⟩ := hz6 (by intro h; rw [h] at hml; simp at hml; omega)
 obtain ⟨c, hcc⟩ : ∃ c, os[j]? = some c := ⟨_, List.getElem?_eq_getElem hlt⟩
 have hFj : Fits (kDestroyL s (os.take j)) N M := hF.destroyL hKr
 have hlj := destroyL_len (os.take j) s
 have hrj := destroyL_rglen (os.take j) s
 refine J_skip <| Q_then <| J_seq <| J_block <| sr <| L_pur rfl (p_indexAddr rfl rfl Tryz.underlying326 ty418 (by omega) (by omega)) ?_
 refine L_val rfl (v_loadE rfl ty418 HS (by first | (simp only [Int.toNat_natCast, List.getElem?_map, hcc]; rfl) | (simp only [Int.toNat_natCast, List.getElem?_map, hcd]; rfl) | simp | rfl)) ?_
 refine L_op <| x_alloc ty418 rfl fun b5 => L_op <| x_store rfl rfl ty418 rfl SM SM RO PT ?_
 refine ny <| mv rfl rfl <| L_val rfl (v_loadA rfl ty418 HS CT) ?_
 refine L_op <| xc fc269 (.cons rfl (.cons rfl .nil)) rfl (coDestroy1 (s := (kDestroyL s (os.take j))) (k := c.1) (u := c.2) PC hFj hM (by omega) (by omega) (by omega)) fun _ => ?_
 refine J_pick (A := coA p _) PC ?_
 refine J_asTo (B := coA p (kDestroyL s (os.take (j + 1)))) (by rw [List.take_add_one, hcc, Option.toList_some, kDestroyL_snoc]) <| L_nil <| Q_blk_normal <| qr <| L_pur rfl (p_add64 rfl rfl (by omega)) <| mv rfl rfl <| nq ?_
 exact J_again (j + 1) (by omega) (by omega) SU KE
 have hjo : j = os.length := by omega
 refine J_pick (A := coA p _) PC ?_
 refine J_asTo (B := coA p (kDestroyL s os)) (by rw [hjo, List.take_length]) <| J_exit <| Q_then_exit <| Q_then_exit <| Q_blk_this <| J_endnormal ?_
 exact J_return (()) Tryz.results231 .nil rfl SU
end Go.Pse
namespace Go.Pse
open Go.RowKit Go.Proofs
theorem coFindG {E : World} {l m : List As} {p : Nat} {s : KS} (hp : Pick (coA p s) l m) {root : Cap} {a : Int} (ha : 0 ≤ a ∧ a < 4294967296) :
    Con Tryz.prog 267 #[.pointer (some ⟨p, 6, none⟩), .agg (encC root).toArray, .int .u32 a] E l (fun _ : Unit => .tuple #[.agg (encI ((kFind s.sl root a).getD (0, 0))).toArray, .int .i64 (if (kFind s.sl root a).isSome then 0 else 2)]) (fun _ => coA p s :: m) := fun w H => by
  refine (?_ : Jk E l 0 [] fun _ w => Calls Tryz.prog 267 #[.pointer (some ⟨p, 6, none⟩), .agg (encC root).toArray, .int .u32 a] w fun e w' => ∃ x, e = .returned ((fun _ : Unit => .tuple #[.agg (encI ((kFind s.sl root a).getD (0, 0))).toArray, .int .i64 (if (kFind s.sl root a).isSome then 0 else 2)]) x) ∧ Sep E w' ((fun _ : Unit => coA p s :: m) x)) w _ H fr0
  refine J_pick hp <| J_coO fun bn be br bg bt bs bp bl bk _ => J_con (findG (ps := s.sl) (root := root) (a := a) PC ha) fun x => ?_
  refine J_coS (p := p) (s := s) bn be br bg bt bs bp bl bk PX trivial ?_
  exact J_end SU
theorem coCapG {E : World} {l m : List As} {p : Nat} {s : KS} (hp : Pick (coA p s) l m) {root : Cap} {a kind : Int} (ha : 0 ≤ a ∧ a < 4294967296) :
    Con Tryz.prog 240 #[.pointer (some ⟨p, 6, none⟩), .agg (encC root).toArray, .int .u32 a, .int .i64 kind] E l (fun _ : Unit => .tuple #[.agg (encC (kCap s.sl root a kind).1).toArray, .agg (encI (kCap s.sl root a kind).2.1).toArray, .int .i64 (kCap s.sl root a kind).2.2]) (fun _ => coA p s :: m) := fun w H => by
  refine (?_ : Jk E l 0 [] fun _ w => Calls Tryz.prog 240 #[.pointer (some ⟨p, 6, none⟩), .agg (encC root).toArray, .int .u32 a, .int .i64 kind] w fun e w' => ∃ x, e = .returned ((fun _ : Unit => .tuple #[.agg (encC (kCap s.sl root a kind).1).toArray, .agg (encI (kCap s.sl root a kind).2.1).toArray, .int .i64 (kCap s.sl root a kind).2.2]) x) ∧ Sep E w' ((fun _ : Unit => coA p s :: m) x)) w _ H fr0
  refine J_pick hp <| J_coO fun bn be br bg bt bs bp bl bk _ => J_con (capG (ps := s.sl) (root := root) (a := a) (kind := kind) PC ha) fun x => ?_
  refine J_coS (p := p) (s := s) bn be br bg bt bs bp bl bk PX trivial ?_
  exact J_end SU
theorem coDeleteG {E : World} {l m : List As} {p : Nat} {s : KS} (hp : Pick (coA p s) l m) {xp : Place} (hsl : s.sl.length ≤ 100000) :
    Con Tryz.prog 167 #[.pointer (some ⟨p, 6, none⟩), .agg (encI xp).toArray] E l (fun v : Value => .tuple #[v, .int .i64 (deleteS s.sl xp).2]) (fun v => row 418 2 v (((deleteS s.sl xp).1.2).map encI) :: coA p { s with sl := (deleteS s.sl xp).1.1 } :: m) := fun w H => by
  refine (?_ : Jk E l 0 [] fun _ w => Calls Tryz.prog 167 #[.pointer (some ⟨p, 6, none⟩), .agg (encI xp).toArray] w fun e w' => ∃ x, e = .returned ((fun v : Value => .tuple #[v, .int .i64 (deleteS s.sl xp).2]) x) ∧ Sep E w' ((fun v : Value => row 418 2 v (((deleteS s.sl xp).1.2).map encI) :: coA p { s with sl := (deleteS s.sl xp).1.1 } :: m) x)) w _ H fr0
  refine J_pick hp <| J_coO fun bn be br bg bt bs bp bl bk _ => J_con (deleteG (ps := s.sl) (p := xp) PC hsl) fun x => ?_
  refine J_coS (p := p) (s := { s with sl := (deleteS s.sl xp).1.1 }) bn be br bg bt bs bp bl bk PX trivial ?_
  exact J_end SU
theorem J_picks3 {E : World} {A B C : As} {l m : List As} {n : Nat} {F : Env} {K : Act → World → Prop} (hp : Picks [A, B, C] l m) (k : Jk E (A :: B :: C :: m) n F K) : Jk E l n F K := fun w a H hF => k w a (hp.sep H) hF
/-! ### plain: what an entry asks of slots -/
def in32 (n : Int) : Prop := 0 ≤ n ∧ n < 4294967296
structure SqeOk (e : Sqe) : Prop where
  cap : in32 e.cap
  a : in32 e.a
  b : in32 e.b
  c : in32 e.c
def twoAt (s : KS) (T : Th) (e : Sqe) : Option (Place × Place) := match kFind s.sl T.root e.cap with
  | none => none
  | some x => match kFind s.sl T.root e.a with
    | none => none
    | some y => some (x, y)
def twoS (s : KS) (F : Place → Place → KS × Int) : Option (Place × Place) → KS × Int
  | none => (s, 2)
  | some x => F x.1 x.2
def killS (s : KS) (F : Place → (List (Place × SV) × List Obj2) × Int) : Option Place → KS × Int
  | none => (s, 2)
  | some x => (kDestroyL { s with sl := (F x).1.1 } (F x).1.2, (F x).2)
def mayS (s : KS) (T : Th) (e : Sqe) (kind r : Int) : Cap × Int :=
  if (kCap s.sl T.root e.cap kind).2.2 = 0 ∧ bits .and .i64 (kCap s.sl T.root e.cap kind).1.rights r ≠ r then (c0, 6) else ((kCap s.sl T.root e.cap kind).1, (kCap s.sl T.root e.cap kind).2.2)
theorem kCap_code {sl : List (Place × SV)} {root : Cap} {a kind : Int} : 0 ≤ (kCap sl root a kind).2.2 ∧ (kCap sl root a kind).2.2 ≤ 5 := by
  unfold kCap
  split
  · simp
  · split
    · simp
    · split <;> simp
theorem mayS_code {s : KS} {T : Th} {e : Sqe} {kind r : Int} : 0 ≤ (mayS s T e kind r).2 ∧ (mayS s T e kind r).2 ≤ 6 := by
  unfold mayS
  split
  · simp
  · have := kCap_code (sl := s.sl) (root := T.root) (a := e.cap) (kind := kind)
    simp only; omega
theorem deleteS_code {ps : List (Place × SV)} {p : Place} : 0 ≤ (deleteS ps p).2 ∧ (deleteS ps p).2 ≤ 100 := by
  unfold deleteS; split <;> simp
theorem placeG {E : World} {l m : List As} {a p : Nat} {s : KS} {T : Th} {q : Rq} {i : ID} (hp : Picks [actA a p T q i, coA p s] l m) {a_ : Int} (ha : in32 a_) :
    Con Tryz.prog 226 #[.pointer (some ⟨a, 0, none⟩), .int .u32 a_] E l (fun _ : Unit => .tuple #[.agg (encI ((kFind s.sl T.root a_).getD (0, 0))).toArray, .int .i64 (if (kFind s.sl T.root a_).isSome then 0 else 2)]) (fun _ => actA a p T q i :: coA p s :: m) := by
  refine Con.body (vs := [.pointer (some ⟨a, 0, none⟩), .int .u32 a_]) (n := 20) Tryz.func226 rfl rfl [(0, .pointer (some ⟨a, 0, none⟩)), (1, .int .u32 a_)] (env_ok 2 rfl) <| J_picks2 hp <| J_asTo (B := blk a 250 [.pointer (some ⟨p, 0, none⟩), .int .i64 T.unit, .int .i64 T.space, .int .i64 T.ring, .int .i64 T.root.kind, .int .i64 T.root.obj, .int .i64 T.root.size, .int .i64 T.root.badge, .int .i64 T.root.rights, .int .i64 q.id.1, .int .i64 q.id.2, .int .i64 q.e.op, .int .i64 q.e.flags, .int .u32 q.e.tag, .int .u32 q.e.cap, .int .u32 q.e.a, .int .u32 q.e.b, .int .u32 q.e.c, .int .u32 q.e.time, .int .i64 q.prev, .bool q.soft, .bool q.started, .int .i64 i.1, .int .i64 i.2]) (by rfl) <| sr <| L_op <| x_alloc ty67 rfl fun b4 => ag rfl rfl <| nq ?_
  refine J_seq <| J_drawL (some 14) mixed <| ip 0 rfl rfl rfl rfl (p_move rfl) <| ip 1 rfl rfl rfl rfl (p_nilCheck rfl) <| ip 2 rfl rfl rfl rfl (p_fieldAddr rfl fa250_0) <| iv 3 rfl rfl rfl rfl (fun _ => v_load rfl ty25 HS (by exact rfl)) ?_
  refine ip 5 rfl rfl rfl rfl (p_move rfl) <| ip 6 rfl rfl rfl rfl (p_nilCheck rfl) <| ip 7 rfl rfl rfl rfl (p_fieldAddr rfl fa250_1) <| ip 8 rfl rfl rfl rfl (p_fieldAddr rfl fa193_3) <| iv 9 rfl rfl rfl rfl (fun _ => v_loadA rfl ty69 HS CT) ?_
  refine J_slot (t := 15) (v := .agg (encC T.root).toArray) rfl rfl <| ip 10 rfl rfl rfl rfl (p_move rfl) <| i1 4 rfl <| xc fc29 (.cons rfl .nil) rfl (coSlots) fun _ => i1 11 rfl <| xc fc267 (.cons rfl (.cons rfl (.cons rfl .nil))) rfl (coFindG (s := s) (root := T.root) (a := a_) PC ha) fun _ => ?_
  refine ip 12 rfl rfl rfl rfl (p_extract rfl rfl) <| ip 13 rfl rfl rfl rfl (p_extract rfl rfl) <| i1 14 rfl <| x_store rfl rfl ty67 rfl SM SM RO PT ?_
  refine ip 15 rfl rfl rfl rfl (p_assign rfl) <| i0 <| Q_then <| J_ret <| J_pick (A := blk a _ _) PC ?_
  refine J_asTo (B := actA a p T q i) (by rfl) ?_
  refine J_return (()) Tryz.results226 (.cellA rfl ty67 HS CT (.tmp rfl .nil)) ?_ ?_
  · rfl
  · exact SU
theorem foundG {E : World} {l m : List As} {a p : Nat} {s : KS} {T : Th} {q : Rq} {i : ID} (hp : Picks [actA a p T q i, coA p s] l m) {a_ kind : Int} (ha : in32 a_) :
    Con Tryz.prog 174 #[.pointer (some ⟨a, 0, none⟩), .int .u32 a_, .int .i64 kind] E l (fun _ : Unit => .tuple #[.agg (encC (kCap s.sl T.root a_ kind).1).toArray, .int .i64 (kCap s.sl T.root a_ kind).2.2]) (fun _ => actA a p T q i :: coA p s :: m) := by
  refine Con.body (vs := [.pointer (some ⟨a, 0, none⟩), .int .u32 a_, .int .i64 kind]) (n := 30) Tryz.func174 rfl rfl [(0, .pointer (some ⟨a, 0, none⟩)), (1, .int .u32 a_), (2, .int .i64 kind)] (env_ok 3 rfl) <| J_picks2 hp <| J_asTo (B := blk a 250 [.pointer (some ⟨p, 0, none⟩), .int .i64 T.unit, .int .i64 T.space, .int .i64 T.ring, .int .i64 T.root.kind, .int .i64 T.root.obj, .int .i64 T.root.size, .int .i64 T.root.badge, .int .i64 T.root.rights, .int .i64 q.id.1, .int .i64 q.id.2, .int .i64 q.e.op, .int .i64 q.e.flags, .int .u32 q.e.tag, .int .u32 q.e.cap, .int .u32 q.e.a, .int .u32 q.e.b, .int .u32 q.e.c, .int .u32 q.e.time, .int .i64 q.prev, .bool q.soft, .bool q.started, .int .i64 i.1, .int .i64 i.2]) (by rfl) <| sr <| L_op <| x_alloc ty69 rfl fun b6 => ag rfl rfl <| nq ?_
  refine J_seq <| J_drawL none mixed <| ip 0 rfl rfl rfl rfl (p_move rfl) <| ip 1 rfl rfl rfl rfl (p_nilCheck rfl) <| ip 2 rfl rfl rfl rfl (p_fieldAddr rfl fa250_0) <| iv 3 rfl rfl rfl rfl (fun _ => v_load rfl ty25 HS (by exact rfl)) ?_
  refine ip 5 rfl rfl rfl rfl (p_move rfl) <| ip 6 rfl rfl rfl rfl (p_nilCheck rfl) <| ip 7 rfl rfl rfl rfl (p_fieldAddr rfl fa250_1) <| ip 8 rfl rfl rfl rfl (p_fieldAddr rfl fa193_3) <| iv 9 rfl rfl rfl rfl (fun _ => v_loadA rfl ty69 HS CT) ?_
  refine J_slot (t := 21) (v := .agg (encC T.root).toArray) rfl rfl <| ip 10 rfl rfl rfl rfl (p_move rfl) <| ip 11 rfl rfl rfl rfl (p_move rfl) <| I_ready (rs := [4, 17, 18]) SI (by kernel_rfl) (by simp) ?_
  refine (I_cons rfl ?_ (I_cons rfl ?_ (I_cons rfl ?_ I_nil)))
  refine xc fc29 (.cons rfl .nil) rfl (coSlots) fun _ => I_ready (rs := [12, 17, 18]) SI (by kernel_rfl) (by simp) ?_
  refine (I_cons rfl ?_ (I_cons rfl ?_ (I_cons rfl ?_ I_nil)))
  refine xc fc240 (.cons rfl (.cons rfl (.cons rfl (.cons rfl .nil)))) rfl (coCapG (s := s) (root := T.root) (a := a_) (kind := kind) PC ha) fun _ => ?_
  refine ip 13 rfl rfl rfl rfl (p_move rfl) <| ip 14 rfl rfl rfl rfl (p_extract rfl rfl) <| ip 15 rfl rfl rfl rfl (p_extract rfl rfl) <| ip 16 rfl rfl rfl rfl (p_extract rfl rfl) <| I_ready (rs := [17, 18]) SI (by kernel_rfl) (by simp) ?_
  refine (I_cons rfl ?_ (I_cons rfl ?_ I_nil))
  refine x_alloc ty69 rfl fun b8 => i1 18 rfl <| x_alloc ty67 rfl fun b9 => i1 19 rfl <| x_store rfl rfl ty69 rfl SM SM RO PT ?_
  refine i1 20 rfl <| x_store rfl rfl ty67 rfl SM SM RO PT ?_
  refine ip 21 rfl rfl rfl rfl (p_assign rfl) <| i0 <| qx <| L_val rfl (v_loadA rfl ty69 HS CT) ?_
  refine mv rfl rfl <| L_op <| x_store rfl rfl ty69 rfl SM SM RO PT ?_
  refine ag rfl rfl <| nq <| J_ret <| J_pick (A := blk a _ _) PC ?_
  refine J_asTo (B := actA a p T q i) (by rfl) ?_
  refine J_return (()) Tryz.results174 (.cellA rfl ty69 HS CT (.tmp rfl .nil)) ?_ ?_
  · rfl
  · exact SU
  refine x_alloc ty67 rfl fun b9 => i1 17 rfl <| x_alloc ty69 rfl fun b8 => i1 19 rfl <| x_store rfl rfl ty69 rfl SM SM RO PT ?_
  refine i1 20 rfl <| x_store rfl rfl ty67 rfl SM SM RO PT ?_
  refine ip 21 rfl rfl rfl rfl (p_assign rfl) <| i0 <| qx <| L_val rfl (v_loadA rfl ty69 HS CT) ?_
  refine mv rfl rfl <| L_op <| x_store rfl rfl ty69 rfl SM SM RO PT ?_
  refine ag rfl rfl <| nq <| J_ret <| J_pick (A := blk a _ _) PC ?_
  refine J_asTo (B := actA a p T q i) (by rfl) ?_
  refine J_return (()) Tryz.results174 (.cellA rfl ty69 HS CT (.tmp rfl .nil)) ?_ ?_
  · rfl
  · exact SU
  refine x_alloc ty69 rfl fun b8 => I_ready (rs := [12, 18]) SI (by kernel_rfl) (by simp) ?_
  refine (I_cons rfl ?_ (I_cons rfl ?_ I_nil))
  refine xc fc240 (.cons rfl (.cons rfl (.cons rfl (.cons rfl .nil)))) rfl (coCapG (s := s) (root := T.root) (a := a_) (kind := kind) PC ha) fun _ => ?_
  refine ip 13 rfl rfl rfl rfl (p_move rfl) <| ip 14 rfl rfl rfl rfl (p_extract rfl rfl) <| ip 15 rfl rfl rfl rfl (p_extract rfl rfl) <| ip 16 rfl rfl rfl rfl (p_extract rfl rfl) <| i1 18 rfl <| x_alloc ty67 rfl fun b9 => i1 19 rfl <| x_store rfl rfl ty69 rfl SM SM RO PT ?_
  refine i1 20 rfl <| x_store rfl rfl ty67 rfl SM SM RO PT ?_
  refine ip 21 rfl rfl rfl rfl (p_assign rfl) <| i0 <| qx <| L_val rfl (v_loadA rfl ty69 HS CT) ?_
  refine mv rfl rfl <| L_op <| x_store rfl rfl ty69 rfl SM SM RO PT ?_
  refine ag rfl rfl <| nq <| J_ret <| J_pick (A := blk a _ _) PC ?_
  refine J_asTo (B := actA a p T q i) (by rfl) ?_
  refine J_return (()) Tryz.results174 (.cellA rfl ty69 HS CT (.tmp rfl .nil)) ?_ ?_
  · rfl
  · exact SU
  refine x_alloc ty67 rfl fun b9 => i1 12 rfl <| xc fc240 (.cons rfl (.cons rfl (.cons rfl (.cons rfl .nil)))) rfl (coCapG (s := s) (root := T.root) (a := a_) (kind := kind) PC ha) fun _ => ?_
  refine ip 13 rfl rfl rfl rfl (p_move rfl) <| ip 14 rfl rfl rfl rfl (p_extract rfl rfl) <| ip 15 rfl rfl rfl rfl (p_extract rfl rfl) <| ip 16 rfl rfl rfl rfl (p_extract rfl rfl) <| i1 19 rfl <| x_store rfl rfl ty69 rfl SM SM RO PT ?_
  refine i1 20 rfl <| x_store rfl rfl ty67 rfl SM SM RO PT ?_
  refine ip 21 rfl rfl rfl rfl (p_assign rfl) <| i0 <| qx <| L_val rfl (v_loadA rfl ty69 HS CT) ?_
  refine mv rfl rfl <| L_op <| x_store rfl rfl ty69 rfl SM SM RO PT ?_
  refine ag rfl rfl <| nq <| J_ret <| J_pick (A := blk a _ _) PC ?_
  refine J_asTo (B := actA a p T q i) (by rfl) ?_
  refine J_return (()) Tryz.results174 (.cellA rfl ty69 HS CT (.tmp rfl .nil)) ?_ ?_
  · rfl
  · exact SU
  refine x_alloc ty67 rfl fun b9 => I_ready (rs := [12, 17]) SI (by kernel_rfl) (by simp) ?_
  refine (I_cons rfl ?_ (I_cons rfl ?_ I_nil))
  refine xc fc240 (.cons rfl (.cons rfl (.cons rfl (.cons rfl .nil)))) rfl (coCapG (s := s) (root := T.root) (a := a_) (kind := kind) PC ha) fun _ => ?_
  refine ip 13 rfl rfl rfl rfl (p_move rfl) <| ip 14 rfl rfl rfl rfl (p_extract rfl rfl) <| ip 15 rfl rfl rfl rfl (p_extract rfl rfl) <| ip 16 rfl rfl rfl rfl (p_extract rfl rfl) <| i1 17 rfl <| x_alloc ty69 rfl fun b8 => i1 19 rfl <| x_store rfl rfl ty69 rfl SM SM RO PT ?_
  refine i1 20 rfl <| x_store rfl rfl ty67 rfl SM SM RO PT ?_
  refine ip 21 rfl rfl rfl rfl (p_assign rfl) <| i0 <| qx <| L_val rfl (v_loadA rfl ty69 HS CT) ?_
  refine mv rfl rfl <| L_op <| x_store rfl rfl ty69 rfl SM SM RO PT ?_
  refine ag rfl rfl <| nq <| J_ret <| J_pick (A := blk a _ _) PC ?_
  refine J_asTo (B := actA a p T q i) (by rfl) ?_
  refine J_return (()) Tryz.results174 (.cellA rfl ty69 HS CT (.tmp rfl .nil)) ?_ ?_
  · rfl
  · exact SU
  refine x_alloc ty69 rfl fun b8 => i1 12 rfl <| xc fc240 (.cons rfl (.cons rfl (.cons rfl (.cons rfl .nil)))) rfl (coCapG (s := s) (root := T.root) (a := a_) (kind := kind) PC ha) fun _ => ?_
  refine ip 13 rfl rfl rfl rfl (p_move rfl) <| ip 14 rfl rfl rfl rfl (p_extract rfl rfl) <| ip 15 rfl rfl rfl rfl (p_extract rfl rfl) <| ip 16 rfl rfl rfl rfl (p_extract rfl rfl) <| i1 19 rfl <| x_store rfl rfl ty69 rfl SM SM RO PT ?_
  refine i1 20 rfl <| x_store rfl rfl ty67 rfl SM SM RO PT ?_
  refine ip 21 rfl rfl rfl rfl (p_assign rfl) <| i0 <| qx <| L_val rfl (v_loadA rfl ty69 HS CT) ?_
  refine mv rfl rfl <| L_op <| x_store rfl rfl ty69 rfl SM SM RO PT ?_
  refine ag rfl rfl <| nq <| J_ret <| J_pick (A := blk a _ _) PC ?_
  refine J_asTo (B := actA a p T q i) (by rfl) ?_
  refine J_return (()) Tryz.results174 (.cellA rfl ty69 HS CT (.tmp rfl .nil)) ?_ ?_
  · rfl
  · exact SU
  refine x_alloc ty69 rfl fun b8 => I_ready (rs := [4, 18]) SI (by kernel_rfl) (by simp) ?_
  refine (I_cons rfl ?_ (I_cons rfl ?_ I_nil))
  refine xc fc29 (.cons rfl .nil) rfl (coSlots) fun _ => I_ready (rs := [12, 18]) SI (by kernel_rfl) (by simp) ?_
  refine (I_cons rfl ?_ (I_cons rfl ?_ I_nil))
  refine xc fc240 (.cons rfl (.cons rfl (.cons rfl (.cons rfl .nil)))) rfl (coCapG (s := s) (root := T.root) (a := a_) (kind := kind) PC ha) fun _ => ?_
  refine ip 13 rfl rfl rfl rfl (p_move rfl) <| ip 14 rfl rfl rfl rfl (p_extract rfl rfl) <| ip 15 rfl rfl rfl rfl (p_extract rfl rfl) <| ip 16 rfl rfl rfl rfl (p_extract rfl rfl) <| i1 18 rfl <| x_alloc ty67 rfl fun b9 => i1 19 rfl <| x_store rfl rfl ty69 rfl SM SM RO PT ?_
  refine i1 20 rfl <| x_store rfl rfl ty67 rfl SM SM RO PT ?_
  refine ip 21 rfl rfl rfl rfl (p_assign rfl) <| i0 <| qx <| L_val rfl (v_loadA rfl ty69 HS CT) ?_
  refine mv rfl rfl <| L_op <| x_store rfl rfl ty69 rfl SM SM RO PT ?_
  refine ag rfl rfl <| nq <| J_ret <| J_pick (A := blk a _ _) PC ?_
  refine J_asTo (B := actA a p T q i) (by rfl) ?_
  refine J_return (()) Tryz.results174 (.cellA rfl ty69 HS CT (.tmp rfl .nil)) ?_ ?_
  · rfl
  · exact SU
  refine x_alloc ty67 rfl fun b9 => i1 12 rfl <| xc fc240 (.cons rfl (.cons rfl (.cons rfl (.cons rfl .nil)))) rfl (coCapG (s := s) (root := T.root) (a := a_) (kind := kind) PC ha) fun _ => ?_
  refine ip 13 rfl rfl rfl rfl (p_move rfl) <| ip 14 rfl rfl rfl rfl (p_extract rfl rfl) <| ip 15 rfl rfl rfl rfl (p_extract rfl rfl) <| ip 16 rfl rfl rfl rfl (p_extract rfl rfl) <| i1 19 rfl <| x_store rfl rfl ty69 rfl SM SM RO PT ?_
  refine i1 20 rfl <| x_store rfl rfl ty67 rfl SM SM RO PT ?_
  refine ip 21 rfl rfl rfl rfl (p_assign rfl) <| i0 <| qx <| L_val rfl (v_loadA rfl ty69 HS CT) ?_
  refine mv rfl rfl <| L_op <| x_store rfl rfl ty69 rfl SM SM RO PT ?_
  refine ag rfl rfl <| nq <| J_ret <| J_pick (A := blk a _ _) PC ?_
  refine J_asTo (B := actA a p T q i) (by rfl) ?_
  refine J_return (()) Tryz.results174 (.cellA rfl ty69 HS CT (.tmp rfl .nil)) ?_ ?_
  · rfl
  · exact SU
  refine x_alloc ty67 rfl fun b9 => i1 4 rfl <| xc fc29 (.cons rfl .nil) rfl (coSlots) fun _ => i1 12 rfl <| xc fc240 (.cons rfl (.cons rfl (.cons rfl (.cons rfl .nil)))) rfl (coCapG (s := s) (root := T.root) (a := a_) (kind := kind) PC ha) fun _ => ?_
  refine ip 13 rfl rfl rfl rfl (p_move rfl) <| ip 14 rfl rfl rfl rfl (p_extract rfl rfl) <| ip 15 rfl rfl rfl rfl (p_extract rfl rfl) <| ip 16 rfl rfl rfl rfl (p_extract rfl rfl) <| i1 19 rfl <| x_store rfl rfl ty69 rfl SM SM RO PT ?_
  refine i1 20 rfl <| x_store rfl rfl ty67 rfl SM SM RO PT ?_
  refine ip 21 rfl rfl rfl rfl (p_assign rfl) <| i0 <| qx <| L_val rfl (v_loadA rfl ty69 HS CT) ?_
  refine mv rfl rfl <| L_op <| x_store rfl rfl ty69 rfl SM SM RO PT ?_
  refine ag rfl rfl <| nq <| J_ret <| J_pick (A := blk a _ _) PC ?_
  refine J_asTo (B := actA a p T q i) (by rfl) ?_
  refine J_return (()) Tryz.results174 (.cellA rfl ty69 HS CT (.tmp rfl .nil)) ?_ ?_
  · rfl
  · exact SU
  refine x_alloc ty67 rfl fun b9 => I_ready (rs := [4, 17]) SI (by kernel_rfl) (by simp) ?_
  refine (I_cons rfl ?_ (I_cons rfl ?_ I_nil))
  refine xc fc29 (.cons rfl .nil) rfl (coSlots) fun _ => I_ready (rs := [12, 17]) SI (by kernel_rfl) (by simp) ?_
  refine (I_cons rfl ?_ (I_cons rfl ?_ I_nil))
  refine xc fc240 (.cons rfl (.cons rfl (.cons rfl (.cons rfl .nil)))) rfl (coCapG (s := s) (root := T.root) (a := a_) (kind := kind) PC ha) fun _ => ?_
  refine ip 13 rfl rfl rfl rfl (p_move rfl) <| ip 14 rfl rfl rfl rfl (p_extract rfl rfl) <| ip 15 rfl rfl rfl rfl (p_extract rfl rfl) <| ip 16 rfl rfl rfl rfl (p_extract rfl rfl) <| i1 17 rfl <| x_alloc ty69 rfl fun b8 => i1 19 rfl <| x_store rfl rfl ty69 rfl SM SM RO PT ?_
  refine i1 20 rfl <| x_store rfl rfl ty67 rfl SM SM RO PT ?_
  refine ip 21 rfl rfl rfl rfl (p_assign rfl) <| i0 <| qx <| L_val rfl (v_loadA rfl ty69 HS CT) ?_
  refine mv rfl rfl <| L_op <| x_store rfl rfl ty69 rfl SM SM RO PT ?_
  refine ag rfl rfl <| nq <| J_ret <| J_pick (A := blk a _ _) PC ?_
  refine J_asTo (B := actA a p T q i) (by rfl) ?_
  refine J_return (()) Tryz.results174 (.cellA rfl ty69 HS CT (.tmp rfl .nil)) ?_ ?_
  · rfl
  · exact SU
  refine x_alloc ty69 rfl fun b8 => i1 12 rfl <| xc fc240 (.cons rfl (.cons rfl (.cons rfl (.cons rfl .nil)))) rfl (coCapG (s := s) (root := T.root) (a := a_) (kind := kind) PC ha) fun _ => ?_
  refine ip 13 rfl rfl rfl rfl (p_move rfl) <| ip 14 rfl rfl rfl rfl (p_extract rfl rfl) <| ip 15 rfl rfl rfl rfl (p_extract rfl rfl) <| ip 16 rfl rfl rfl rfl (p_extract rfl rfl) <| i1 19 rfl <| x_store rfl rfl ty69 rfl SM SM RO PT ?_
  refine i1 20 rfl <| x_store rfl rfl ty67 rfl SM SM RO PT ?_
  refine ip 21 rfl rfl rfl rfl (p_assign rfl) <| i0 <| qx <| L_val rfl (v_loadA rfl ty69 HS CT) ?_
  refine mv rfl rfl <| L_op <| x_store rfl rfl ty69 rfl SM SM RO PT ?_
  refine ag rfl rfl <| nq <| J_ret <| J_pick (A := blk a _ _) PC ?_
  refine J_asTo (B := actA a p T q i) (by rfl) ?_
  refine J_return (()) Tryz.results174 (.cellA rfl ty69 HS CT (.tmp rfl .nil)) ?_ ?_
  · rfl
  · exact SU
  refine x_alloc ty69 rfl fun b8 => i1 4 rfl <| xc fc29 (.cons rfl .nil) rfl (coSlots) fun _ => i1 12 rfl <| xc fc240 (.cons rfl (.cons rfl (.cons rfl (.cons rfl .nil)))) rfl (coCapG (s := s) (root := T.root) (a := a_) (kind := kind) PC ha) fun _ => ?_
  refine ip 13 rfl rfl rfl rfl (p_move rfl) <| ip 14 rfl rfl rfl rfl (p_extract rfl rfl) <| ip 15 rfl rfl rfl rfl (p_extract rfl rfl) <| ip 16 rfl rfl rfl rfl (p_extract rfl rfl) <| i1 19 rfl <| x_store rfl rfl ty69 rfl SM SM RO PT ?_
  refine i1 20 rfl <| x_store rfl rfl ty67 rfl SM SM RO PT ?_
  refine ip 21 rfl rfl rfl rfl (p_assign rfl) <| i0 <| qx <| L_val rfl (v_loadA rfl ty69 HS CT) ?_
  refine mv rfl rfl <| L_op <| x_store rfl rfl ty69 rfl SM SM RO PT ?_
  refine ag rfl rfl <| nq <| J_ret <| J_pick (A := blk a _ _) PC ?_
  refine J_asTo (B := actA a p T q i) (by rfl) ?_
  refine J_return (()) Tryz.results174 (.cellA rfl ty69 HS CT (.tmp rfl .nil)) ?_ ?_
  · rfl
  · exact SU
theorem mayG {E : World} {l m : List As} {a p : Nat} {s : KS} {T : Th} {q : Rq} {i : ID} (hp : Picks [actA a p T q i, coA p s] l m) {kind r : Int} (hE : SqeOk q.e) :
    Con Tryz.prog 177 #[.pointer (some ⟨a, 0, none⟩), .int .i64 kind, .int .i64 r] E l (fun _ : Unit => .tuple #[.agg (encC (mayS s T q.e kind r).1).toArray, .int .i64 (mayS s T q.e kind r).2]) (fun _ => actA a p T q i :: coA p s :: m) := by
  refine Con.body (vs := [.pointer (some ⟨a, 0, none⟩), .int .i64 kind, .int .i64 r]) (n := 35) Tryz.func177 rfl rfl [(0, .pointer (some ⟨a, 0, none⟩)), (1, .int .i64 kind), (2, .int .i64 r)] (env_ok 3 rfl) <| J_picks2 hp <| J_asTo (B := blk a 250 [.pointer (some ⟨p, 0, none⟩), .int .i64 T.unit, .int .i64 T.space, .int .i64 T.ring, .int .i64 T.root.kind, .int .i64 T.root.obj, .int .i64 T.root.size, .int .i64 T.root.badge, .int .i64 T.root.rights, .int .i64 q.id.1, .int .i64 q.id.2, .int .i64 q.e.op, .int .i64 q.e.flags, .int .u32 q.e.tag, .int .u32 q.e.cap, .int .u32 q.e.a, .int .u32 q.e.b, .int .u32 q.e.c, .int .u32 q.e.time, .int .i64 q.prev, .bool q.soft, .bool q.started, .int .i64 i.1, .int .i64 i.2]) (by rfl) <| sr <| L_op <| x_alloc ty69 rfl fun b6 => ag rfl rfl <| nx ?_
  refine mv rfl rfl <| mv rfl rfl <| nc rfl rfl <| fa rfl rfl fa250_2 <| fa rfl rfl fa104_1 <| fa rfl rfl fa31_3 <| L_val rfl (v_load rfl ty22 HS (by exact rfl)) ?_
  refine J_pick (A := blk a _ _) PC ?_
  refine J_asTo (B := actA a p T q i) (by rfl) <| mv rfl rfl <| L_op <| xc fc174 (.cons rfl (.cons rfl (.cons rfl .nil))) rfl (foundG (a_ := q.e.cap) (kind := kind) PX hE.cap) fun _ => ?_
  refine mv rfl rfl <| L_pur rfl (p_extract rfl rfl) <| L_pur rfl (p_extract rfl rfl) <| L_op <| x_alloc ty69 rfl fun b8 => L_op <| x_store rfl rfl ty69 rfl SM SM RO PT ?_
  refine J_pick (A := blk b8 _ _) PC ?_
  refine J_asTo (B := blk b8 69 (encC (kCap s.sl T.root q.e.cap kind).1)) (by rfl) <| ag rfl rfl <| nxx <| mv rfl rfl <| L_pur rfl (p_eql rfl rfl) <| mv rfl rfl ?_
  refine J_gsplit (t := 24) rfl (fun h24 => ?_) (fun h24 => ?_)
  refine L_op <| G_on rfl rfl rfl <| J_pur (p_fieldAddr rfl fa69_4) rfl rfl rfl <| L_op <| G_on rfl rfl rfl <| J_val (v_load rfl ty3 HS (by exact rfl)) rfl rfl rfl ?_
  refine L_op <| G_on rfl rfl rfl <| J_pur (p_move rfl) rfl rfl rfl <| L_op <| G_on rfl rfl rfl <| J_pur (p_and rfl rfl) rfl rfl rfl <| L_op <| G_on rfl rfl rfl ?_
  refine J_pur (p_move rfl) rfl rfl rfl <| L_op <| G_on rfl rfl rfl <| J_pur (p_neq rfl rfl) rfl rfl rfl <| L_pur rfl (p_pick_t rfl rfl) <| nq ?_
  refine C_split rfl (fun h31 => ?_) (fun h31 => ?_)
  refine J_seq ?_
  have hmy : (mayS s T q.e kind r) = (c0, 6) := by unfold mayS; exact if_pos ⟨by simpa using h24, by simpa using h31⟩
  refine J_region <| L_pur rfl (bld69 .nil (by repeat constructor)) <| L_op <| x_store rfl rfl ty69 rfl SM SM RO PT ?_
  refine ag rfl rfl <| nq <| J_ret <| Q_then_ret ?_
  refine J_return (()) Tryz.results177 (.cellA rfl ty69 HS CT (.tmp rfl .nil)) ?_ ?_
  · rw [hmy]; rfl
  · exact SU
  refine J_skip <| Q_then <| J_seq ?_
  have hmy : (mayS s T q.e kind r) = ((kCap s.sl T.root q.e.cap kind).1, (kCap s.sl T.root q.e.cap kind).2.2) := by unfold mayS; exact if_neg (fun e => by first | exact absurd e.1 (by simpa using h24) | exact absurd e.2 (by simpa using h31))
  refine J_region <| L_val rfl (v_loadA rfl ty69 HS CT) ?_
  refine mv rfl rfl <| L_op <| x_store rfl rfl ty69 rfl SM SM RO PT ?_
  refine ag rfl rfl <| nq <| J_ret ?_
  refine J_return (()) Tryz.results177 (.cellA rfl ty69 HS CT (.tmp rfl .nil)) ?_ ?_
  · rw [hmy]; rfl
  · exact SU
  refine L_op <| G_off rfl rfl rfl rfl rfl rfl <| L_op <| G_off rfl rfl rfl rfl rfl rfl <| L_op <| G_off rfl rfl rfl rfl rfl rfl <| L_op <| G_off rfl rfl rfl rfl rfl rfl ?_
  refine L_op <| G_off rfl rfl rfl rfl rfl rfl <| L_op <| G_off rfl rfl rfl rfl rfl rfl <| L_pur rfl (p_pick_f rfl rfl) <| nq <| C_false rfl <| J_skip ?_
  refine Q_then <| J_seq ?_
  have hmy : (mayS s T q.e kind r) = ((kCap s.sl T.root q.e.cap kind).1, (kCap s.sl T.root q.e.cap kind).2.2) := by unfold mayS; exact if_neg (fun e => by first | exact absurd e.1 (by simpa using h24) | exact absurd e.2 (by simpa using h31))
  refine J_region <| L_val rfl (v_loadA rfl ty69 HS CT) ?_
  refine mv rfl rfl <| L_op <| x_store rfl rfl ty69 rfl SM SM RO PT ?_
  refine ag rfl rfl <| nq <| J_ret ?_
  refine J_return (()) Tryz.results177 (.cellA rfl ty69 HS CT (.tmp rfl .nil)) ?_ ?_
  · rw [hmy]; rfl
  · exact SU
theorem killsG {E : World} {l m : List As} {a p : Nat} {s : KS} {T : Th} {q : Rq} {i : ID} {C : As} {F : Place → (List (Place × SV) × List Obj2) × Int} {g : FuncId} {caps : Array Value} {fn : Func} (hf : Tryz.prog.funcs[g]? = some fn) (hn : (fn.name == "runtime.NumGoroutine") = false) (hb : fn.body.isNone = false) (hg : ∀ (l m : List As) (x : Place), Picks [C, coA p s] l m → Con Tryz.prog g (#[.agg (encI x).toArray] ++ caps) E l (fun v : Value => .tuple #[v, .int .i64 (F x).2]) (fun v => row 418 2 v (((F x).1.2).map encI) :: C :: coA p { s with sl := (F x).1.1 } :: m)) (hp : Picks [actA a p T q i, C, coA p s] l m) (hE : SqeOk q.e) (hc : ∀ x, 0 ≤ (F x).2 ∧ (F x).2 ≤ 100) {N M : Nat} (hF : Fits s N M) (hM : M ≤ 45000) (hq : s.q.length ≤ 90000) (hz : s.mp.length ≤ 1000000) (hg0 : s.rg.length ≤ 1000) :
    Con Tryz.prog 165 #[.pointer (some ⟨a, 0, none⟩), .func (.func g) #[] caps] E l (fun _ : Unit => encE (some (-(killS s F (kFind s.sl T.root q.e.cap)).2, 0))) (fun _ => actA a p T q i :: C :: coA p (killS s F (kFind s.sl T.root q.e.cap)).1 :: m) := by
  refine Con.body (vs := [.pointer (some ⟨a, 0, none⟩), .func (.func g) #[] caps]) (n := 37) Tryz.func165 rfl rfl [(0, .pointer (some ⟨a, 0, none⟩)), (1, .func (.func g) #[] caps)] (env_ok 2 rfl) <| J_picks3 hp <| J_pick (A := actA a p T q i) PC ?_
  refine J_asTo (B := blk a 250 [.pointer (some ⟨p, 0, none⟩), .int .i64 T.unit, .int .i64 T.space, .int .i64 T.ring, .int .i64 T.root.kind, .int .i64 T.root.obj, .int .i64 T.root.size, .int .i64 T.root.badge, .int .i64 T.root.rights, .int .i64 q.id.1, .int .i64 q.id.2, .int .i64 q.e.op, .int .i64 q.e.flags, .int .u32 q.e.tag, .int .u32 q.e.cap, .int .u32 q.e.a, .int .u32 q.e.b, .int .u32 q.e.c, .int .u32 q.e.time, .int .i64 q.prev, .bool q.soft, .bool q.started, .int .i64 i.1, .int .i64 i.2]) (by rfl) <| sr <| L_op <| x_alloc ty247 rfl fun b4 => nx <| mv rfl rfl <| mv rfl rfl <| nc rfl rfl ?_
  refine fa rfl rfl fa250_2 <| fa rfl rfl fa104_1 <| fa rfl rfl fa31_3 <| L_val rfl (v_load rfl ty22 HS (by exact rfl)) ?_
  refine J_pick (A := blk a _ _) PC ?_
  refine J_asTo (B := actA a p T q i) (by rfl) <| L_op <| xc fc226 (.cons rfl (.cons rfl .nil)) rfl (placeG (a_ := q.e.cap) PX hE.cap) fun _ => ?_
  refine mv rfl rfl <| L_pur rfl (p_extract rfl rfl) <| L_pur rfl (p_extract rfl rfl) <| L_op <| x_alloc ty67 rfl fun b5 => L_op <| x_store rfl rfl ty67 rfl SM SM RO PT ?_
  refine ag rfl rfl <| nxx <| mv rfl rfl <| L_pur rfl (p_neq rfl rfl) <| nq ?_
  refine C_split rfl (fun h20 => ?_) (fun h20 => ?_)
  have hf1 : (kFind s.sl T.root q.e.cap) = none := by
    cases hq : (kFind s.sl T.root q.e.cap) with
    | none => rfl
    | some y => rw [hq] at h20; simp at h20
  refine J_slot (t := 6) (v := .int .i64 (2)) rfl (by rw [hf1]; rfl) <| sr <| mv rfl rfl <| L_op <| xc fc128 (.cons rfl .nil) rfl (failsC (by decide)) fun _ => L_op <| x_store rfl rfl ty247 rfl SM SM RO PT ?_
  refine nq <| J_ret <| Q_then_ret <| J_pick (A := coA p _) PC ?_
  refine J_asTo (B := coA p (killS s F (kFind s.sl T.root q.e.cap)).1) (by rw [hf1]; try rfl) <| J_pick (A := C) PC ?_
  refine J_pick (A := actA a p T q i) PC ?_
  refine J_return (()) Tryz.results165 (.cellA rfl ty247 HS CT .nil) ?_ ?_
  · rw [hf1]; rfl
  · exact SU
  obtain ⟨x, hf1⟩ : ∃ x, (kFind s.sl T.root q.e.cap) = some x := by
    cases hq : (kFind s.sl T.root q.e.cap) with
    | none => rw [hq] at h20; simp at h20
    | some y => exact ⟨y, rfl⟩
  refine J_pick (A := blk b5 _ _) PC ?_
  refine J_asTo (B := blk b5 67 (encI x)) (by rw [hf1]; rfl) <| J_skip <| qx <| mv rfl rfl <| L_val rfl (v_loadA rfl ty67 HS CT) ?_
  refine L_op <| x_callc rfl hf hn hb (.cons rfl .nil) rfl (hg _ _ x PX) fun v26 => ?_
  refine mv rfl rfl <| L_pur rfl (p_extract rfl rfl) <| L_pur rfl (p_extract rfl rfl) <| ag rfl rfl <| ag rfl rfl <| nq <| J_seq <| J_pick (A := actA a p T q i) PC ?_
  refine J_asTo (B := blk a 250 [.pointer (some ⟨p, 0, none⟩), .int .i64 T.unit, .int .i64 T.space, .int .i64 T.ring, .int .i64 T.root.kind, .int .i64 T.root.obj, .int .i64 T.root.size, .int .i64 T.root.badge, .int .i64 T.root.rights, .int .i64 q.id.1, .int .i64 q.id.2, .int .i64 q.e.op, .int .i64 q.e.flags, .int .u32 q.e.tag, .int .u32 q.e.cap, .int .u32 q.e.a, .int .u32 q.e.b, .int .u32 q.e.c, .int .u32 q.e.time, .int .i64 q.prev, .bool q.soft, .bool q.started, .int .i64 i.1, .int .i64 i.2]) (by rfl) <| J_region <| mv rfl rfl <| nc rfl rfl <| fa rfl rfl fa250_0 <| L_val rfl (v_load rfl ty25 HS (by exact rfl)) ?_
  refine J_pick (A := blk a _ _) PC ?_
  refine J_asTo (B := actA a p T q i) (by rfl) <| mv rfl rfl <| L_op <| xc fc231 (.cons rfl (.cons rfl .nil)) rfl (coDestroyG (s := { s with sl := (F x).1.1 }) (os := (F x).1.2) PX ⟨hF.n, hF.mm, hF.ids, hF.jn, hF.tm, hF.ep, hF.nt, hF.rp, hF.rg, hF.mem⟩ hM hq hz hg0) fun _ => ?_
  refine nx <| mv rfl rfl <| L_op <| xc fc128 (.cons rfl .nil) rfl (failsC (hc x)) fun _ => L_op <| x_store rfl rfl ty247 rfl SM SM RO PT ?_
  refine nq <| J_ret <| J_pick (A := coA p _) PC ?_
  refine J_asTo (B := coA p (killS s F (kFind s.sl T.root q.e.cap)).1) (by rw [hf1]; try rfl) <| J_pick (A := C) PC ?_
  refine J_pick (A := actA a p T q i) PC ?_
  refine J_return (()) Tryz.results165 (.cellA rfl ty247 HS CT .nil) ?_ ?_
  · rw [hf1]; rfl
  · exact SU
end Go.Pse
namespace Go.Pse
open Go.RowKit Go.Proofs
def copyF (s : KS) (e : Sqe) (x y : Place) : KS × Int := ({ s with sl := (copyS s.sl x y e.b).1 }, (copyS s.sl x y e.b).2)
def mintF (s : KS) (e : Sqe) (x y : Place) : KS × Int := ({ s with sl := (mintS s.sl x y e.b).1 }, (mintS s.sl x y e.b).2)
def moveF (s : KS) (x y : Place) : KS × Int := ({ s with sl := (dmoveS s.sl x y).1 }, (dmoveS s.sl x y).2)
def retF (s : KS) (e : Sqe) (x y : Place) : KS × Int := ({ s with sl := (makeS s.sl s.mr x y e.b e.c).1.1, mr := (makeS s.sl s.mr x y e.b e.c).1.2 }, (makeS s.sl s.mr x y e.b e.c).2.2)
def kSlots (s : KS) (T : Th) (e : Sqe) : KS × Int :=
  if e.op = 2 then twoS s (copyF s e) (twoAt s T e) else if e.op = 3 then twoS s (mintF s e) (twoAt s T e) else if e.op = 4 then twoS s (moveF s) (twoAt s T e)
  else if e.op = 5 then killS s (deleteS s.sl) (kFind s.sl T.root e.cap) else killS s (revokeS s.sl) (kFind s.sl T.root e.cap)
def kRetC (s : KS) (T : Th) (e : Sqe) : Int := (twoS s (retF s e) (twoAt s T e)).2
def kRetK (s : KS) (T : Th) (e : Sqe) : Cap := match twoAt s T e with
  | none => c0
  | some x => (makeS s.sl s.mr x.1 x.2 e.b e.c).2.1
def kRetS (s : KS) (T : Th) (e : Sqe) (b : Nat) : KS := if kRetC s T e = 0 then kMade (twoS s (retF s e) (twoAt s T e)).1 (kRetK s T e) b else (twoS s (retF s e) (twoAt s T e)).1
def kRetV (s : KS) (T : Th) (e : Sqe) : Int := if kRetC s T e = 0 then (kRetK s T e).obj else 0
theorem makeS_obj {ps : List (Place × SV)} {mr : List (Place × Int)} {p q : Place} {k z : Int} (hc : CapsOk ps) (hm : MarksOk mr) (h : (makeS ps mr p q k z).2.2 = 0) : 1 ≤ (makeS ps mr p q k z).2.1.obj ∧ (makeS ps mr p q k z).2.1.obj ≤ 64 := by
  unfold makeS at h ⊢
  split at h
  · simp at h
  · rename_i u hu
    have hcu := checkC_is (hc _ (mem_look hu))
    dsimp only at hcu
    split at h
    · simp at h
    · rename_i h1
      split at h
      · simp at h
      · rename_i h2
        split at h
        · simp at h
        · rename_i h3
          split at h
          · rename_i h4; exact absurd h h4
          · rename_i h4
            split at h
            · rename_i h5
              rw [if_neg h1, if_neg h2, if_neg h3, if_neg h4, if_pos h5]
              have hus := usedM_is (hm.reset ps u.1) (rangeC u.1)
              have hk1 : u.1.kind = 1 := by simpa using h1
              have hr : rangeC u.1 = (u.1.obj, u.1.size) := if_neg h1
              have hto := h5
              unfold mtkOk at hto
              simp only [Bool.and_eq_true, decide_eq_true_eq, hr] at hto
              show 1 ≤ mtkV _ _ _ ∧ mtkV _ _ _ ≤ 64
              unfold mtkV
              rw [if_pos h5, hr]
              rw [hr] at hus
              have := hcu.2.2 hk1
              dsimp only
              omega
            · simp at h
theorem clo4 {E : World} {l m : List As} {p c3 : Nat} {s : KS} {x : Place} (hp : Picks [blk c3 63 [.pointer (some ⟨p, 6, none⟩)], coA p s] l m) (hsl : s.sl.length ≤ 100000) :
    Con Tryz.prog 166 #[.agg (encI x).toArray, .pointer (some ⟨c3, 0, none⟩)] E l (fun v : Value => .tuple #[v, .int .i64 (deleteS s.sl x).2]) (fun v => row 418 2 v (((deleteS s.sl x).1.2).map encI) :: blk c3 63 [.pointer (some ⟨p, 6, none⟩)] :: coA p { s with sl := (deleteS s.sl x).1.1 } :: m) := by
  refine Con.body (vs := [.agg (encI x).toArray, .pointer (some ⟨c3, 0, none⟩)]) (n := 10) Tryz.func166 rfl rfl [(0, .agg (encI x).toArray), (1, .pointer (some ⟨c3, 0, none⟩))] (env_ok 2 rfl) <| J_picks2 hp <| sr <| L_op <| x_box rfl rfl rfl fun b2 => ag rfl rfl <| ag rfl rfl <| nx ?_
  refine L_val rfl (v_load rfl ty63 HS (by exact rfl)) ?_
  refine L_val rfl (v_loadA rfl ty67 HS CT) ?_
  refine L_op <| xc fc167 (.cons rfl (.cons rfl .nil)) rfl (coDeleteG (s := s) (xp := x) PC hsl) fun w7 => ?_
  refine L_pur rfl (p_extract rfl rfl) <| L_pur rfl (p_extract rfl rfl) <| ag rfl rfl <| ag rfl rfl <| nq <| J_ret ?_
  refine J_return (w7) Tryz.results166 (.tmp rfl (.tmp rfl .nil)) ?_ ?_
  · rfl
  · exact SU
theorem slots5G {E : World} {l m : List As} {a p : Nat} {s : KS} {T : Th} {q : Rq} {i : ID} (hp : Picks [actA a p T q i, coA p s] l m) (hE : SqeOk q.e) (hop : q.e.op = 5) (hsl : s.sl.length ≤ 100000) {N M : Nat} (hF : Fits s N M) (hM : M ≤ 45000) (hq : s.q.length ≤ 90000) (hz : s.mp.length ≤ 1000000) (hg0 : s.rg.length ≤ 1000) :
    Con Tryz.prog 117 #[.pointer (some ⟨a, 0, none⟩)] E l (fun _ : Unit => encE (some (-(kSlots s T q.e).2, 0))) (fun _ => actA a p T q i :: coA p (kSlots s T q.e).1 :: m) := by
  refine Con.body (vs := [.pointer (some ⟨a, 0, none⟩)]) (n := 40) Tryz.func117 rfl rfl [(0, .pointer (some ⟨a, 0, none⟩))] (env_ok 1 rfl) <| J_picks2 hp <| J_asTo (B := blk a 250 [.pointer (some ⟨p, 0, none⟩), .int .i64 T.unit, .int .i64 T.space, .int .i64 T.ring, .int .i64 T.root.kind, .int .i64 T.root.obj, .int .i64 T.root.size, .int .i64 T.root.badge, .int .i64 T.root.rights, .int .i64 q.id.1, .int .i64 q.id.2, .int .i64 q.e.op, .int .i64 q.e.flags, .int .u32 q.e.tag, .int .u32 q.e.cap, .int .u32 q.e.a, .int .u32 q.e.b, .int .u32 q.e.c, .int .u32 q.e.time, .int .i64 q.prev, .bool q.soft, .bool q.started, .int .i64 i.1, .int .i64 i.2]) (by rfl) <| sr <| L_op <| x_alloc ty247 rfl fun b2 => nq ?_
  refine J_cut (α := Nat × Nat) (fun x : Nat × Nat => blk x.1 63 [.pointer (some ⟨p, 6, none⟩)] :: blk x.2 31 [.int .i64 q.e.op, .int .i64 q.e.flags, .int .u32 q.e.tag, .int .u32 q.e.cap, .int .u32 q.e.a, .int .u32 q.e.b, .int .u32 q.e.c, .int .u32 q.e.time] :: blk b2 247 [.int .i64 0, .int .u32 0, .bool false] :: actA a p T q i :: coA p s :: m) (fun x : Nat × Nat => [(0, .pointer (some ⟨a, 0, none⟩)), (2, .pointer (some ⟨b2, 0, none⟩)), (3, .pointer (some ⟨x.1, 0, none⟩)), (4, .pointer (some ⟨x.2, 0, none⟩))]) ?_ ?_
  refine J_drawL none mixed <| ip 0 rfl rfl rfl rfl (p_move rfl) <| ip 1 rfl rfl rfl rfl (p_nilCheck rfl) <| ip 2 rfl rfl rfl rfl (p_fieldAddr rfl fa250_0) <| iv 3 rfl rfl rfl rfl (fun _ => v_load rfl ty25 HS (by exact rfl)) ?_
  refine ip 5 rfl rfl rfl rfl (p_move rfl) <| ip 6 rfl rfl rfl rfl (p_nilCheck rfl) <| ip 7 rfl rfl rfl rfl (p_fieldAddr rfl fa250_2) <| ip 8 rfl rfl rfl rfl (p_fieldAddr rfl fa104_1) <| iv 9 rfl rfl rfl rfl (fun _ => v_loadA rfl ty31 HS CT) ?_
  refine I_ready (rs := [4, 10, 11]) SI (by kernel_rfl) (by simp) ?_
  refine (I_cons rfl ?_ (I_cons rfl ?_ (I_cons rfl ?_ I_nil)))
  refine xc fc29 (.cons rfl .nil) rfl (coSlots) fun _ => I_ready (rs := [10, 11]) SI (by kernel_rfl) (by simp) ?_
  refine (I_cons rfl ?_ (I_cons rfl ?_ I_nil))
  refine x_alloc ty63 rfl fun b3 => i1 11 rfl <| x_alloc ty31 rfl fun b4 => i1 12 rfl <| x_store rfl rfl ty63 rfl SM SM RO PT ?_
  refine i1 13 rfl <| x_store rfl rfl ty31 rfl SM SM RO PT ?_
  refine i0 <| Q_then <| J_pick (A := blk a _ _) PC ?_
  refine J_asTo (B := actA a p T q i) (by rfl) <| J_pick (A := blk b4 _ _) PC ?_
  refine J_asTo (B := blk b4 31 [.int .i64 q.e.op, .int .i64 q.e.flags, .int .u32 q.e.tag, .int .u32 q.e.cap, .int .u32 q.e.a, .int .u32 q.e.b, .int .u32 q.e.c, .int .u32 q.e.time]) (by rfl) ?_
  exact J_at (L := (fun x : Nat × Nat => blk x.1 63 [.pointer (some ⟨p, 6, none⟩)] :: blk x.2 31 [.int .i64 q.e.op, .int .i64 q.e.flags, .int .u32 q.e.tag, .int .u32 q.e.cap, .int .u32 q.e.a, .int .u32 q.e.b, .int .u32 q.e.c, .int .u32 q.e.time] :: blk b2 247 [.int .i64 0, .int .u32 0, .bool false] :: actA a p T q i :: coA p s :: m)) (G := (fun x : Nat × Nat => [(0, .pointer (some ⟨a, 0, none⟩)), (2, .pointer (some ⟨b2, 0, none⟩)), (3, .pointer (some ⟨x.1, 0, none⟩)), (4, .pointer (some ⟨x.2, 0, none⟩))])) (b3, b4) SU KE
  refine x_alloc ty31 rfl fun b4 => i1 10 rfl <| x_alloc ty63 rfl fun b3 => i1 12 rfl <| x_store rfl rfl ty63 rfl SM SM RO PT ?_
  refine i1 13 rfl <| x_store rfl rfl ty31 rfl SM SM RO PT ?_
  refine i0 <| Q_then <| J_pick (A := blk a _ _) PC ?_
  refine J_asTo (B := actA a p T q i) (by rfl) <| J_pick (A := blk b4 _ _) PC ?_
  refine J_asTo (B := blk b4 31 [.int .i64 q.e.op, .int .i64 q.e.flags, .int .u32 q.e.tag, .int .u32 q.e.cap, .int .u32 q.e.a, .int .u32 q.e.b, .int .u32 q.e.c, .int .u32 q.e.time]) (by rfl) ?_
  exact J_at (L := (fun x : Nat × Nat => blk x.1 63 [.pointer (some ⟨p, 6, none⟩)] :: blk x.2 31 [.int .i64 q.e.op, .int .i64 q.e.flags, .int .u32 q.e.tag, .int .u32 q.e.cap, .int .u32 q.e.a, .int .u32 q.e.b, .int .u32 q.e.c, .int .u32 q.e.time] :: blk b2 247 [.int .i64 0, .int .u32 0, .bool false] :: actA a p T q i :: coA p s :: m)) (G := (fun x : Nat × Nat => [(0, .pointer (some ⟨a, 0, none⟩)), (2, .pointer (some ⟨b2, 0, none⟩)), (3, .pointer (some ⟨x.1, 0, none⟩)), (4, .pointer (some ⟨x.2, 0, none⟩))])) (b3, b4) SU KE
  refine x_alloc ty63 rfl fun b3 => I_ready (rs := [4, 11]) SI (by kernel_rfl) (by simp) ?_
  refine (I_cons rfl ?_ (I_cons rfl ?_ I_nil))
  refine xc fc29 (.cons rfl .nil) rfl (coSlots) fun _ => i1 11 rfl <| x_alloc ty31 rfl fun b4 => i1 12 rfl <| x_store rfl rfl ty63 rfl SM SM RO PT ?_
  refine i1 13 rfl <| x_store rfl rfl ty31 rfl SM SM RO PT ?_
  refine i0 <| Q_then <| J_pick (A := blk a _ _) PC ?_
  refine J_asTo (B := actA a p T q i) (by rfl) <| J_pick (A := blk b4 _ _) PC ?_
  refine J_asTo (B := blk b4 31 [.int .i64 q.e.op, .int .i64 q.e.flags, .int .u32 q.e.tag, .int .u32 q.e.cap, .int .u32 q.e.a, .int .u32 q.e.b, .int .u32 q.e.c, .int .u32 q.e.time]) (by rfl) ?_
  exact J_at (L := (fun x : Nat × Nat => blk x.1 63 [.pointer (some ⟨p, 6, none⟩)] :: blk x.2 31 [.int .i64 q.e.op, .int .i64 q.e.flags, .int .u32 q.e.tag, .int .u32 q.e.cap, .int .u32 q.e.a, .int .u32 q.e.b, .int .u32 q.e.c, .int .u32 q.e.time] :: blk b2 247 [.int .i64 0, .int .u32 0, .bool false] :: actA a p T q i :: coA p s :: m)) (G := (fun x : Nat × Nat => [(0, .pointer (some ⟨a, 0, none⟩)), (2, .pointer (some ⟨b2, 0, none⟩)), (3, .pointer (some ⟨x.1, 0, none⟩)), (4, .pointer (some ⟨x.2, 0, none⟩))])) (b3, b4) SU KE
  refine x_alloc ty31 rfl fun b4 => i1 4 rfl <| xc fc29 (.cons rfl .nil) rfl (coSlots) fun _ => i1 12 rfl <| x_store rfl rfl ty63 rfl SM SM RO PT ?_
  refine i1 13 rfl <| x_store rfl rfl ty31 rfl SM SM RO PT ?_
  refine i0 <| Q_then <| J_pick (A := blk a _ _) PC ?_
  refine J_asTo (B := actA a p T q i) (by rfl) <| J_pick (A := blk b4 _ _) PC ?_
  refine J_asTo (B := blk b4 31 [.int .i64 q.e.op, .int .i64 q.e.flags, .int .u32 q.e.tag, .int .u32 q.e.cap, .int .u32 q.e.a, .int .u32 q.e.b, .int .u32 q.e.c, .int .u32 q.e.time]) (by rfl) ?_
  exact J_at (L := (fun x : Nat × Nat => blk x.1 63 [.pointer (some ⟨p, 6, none⟩)] :: blk x.2 31 [.int .i64 q.e.op, .int .i64 q.e.flags, .int .u32 q.e.tag, .int .u32 q.e.cap, .int .u32 q.e.a, .int .u32 q.e.b, .int .u32 q.e.c, .int .u32 q.e.time] :: blk b2 247 [.int .i64 0, .int .u32 0, .bool false] :: actA a p T q i :: coA p s :: m)) (G := (fun x : Nat × Nat => [(0, .pointer (some ⟨a, 0, none⟩)), (2, .pointer (some ⟨b2, 0, none⟩)), (3, .pointer (some ⟨x.1, 0, none⟩)), (4, .pointer (some ⟨x.2, 0, none⟩))])) (b3, b4) SU KE
  refine x_alloc ty31 rfl fun b4 => I_ready (rs := [4, 10]) SI (by kernel_rfl) (by simp) ?_
  refine (I_cons rfl ?_ (I_cons rfl ?_ I_nil))
  refine xc fc29 (.cons rfl .nil) rfl (coSlots) fun _ => i1 10 rfl <| x_alloc ty63 rfl fun b3 => i1 12 rfl <| x_store rfl rfl ty63 rfl SM SM RO PT ?_
  refine i1 13 rfl <| x_store rfl rfl ty31 rfl SM SM RO PT ?_
  refine i0 <| Q_then <| J_pick (A := blk a _ _) PC ?_
  refine J_asTo (B := actA a p T q i) (by rfl) <| J_pick (A := blk b4 _ _) PC ?_
  refine J_asTo (B := blk b4 31 [.int .i64 q.e.op, .int .i64 q.e.flags, .int .u32 q.e.tag, .int .u32 q.e.cap, .int .u32 q.e.a, .int .u32 q.e.b, .int .u32 q.e.c, .int .u32 q.e.time]) (by rfl) ?_
  exact J_at (L := (fun x : Nat × Nat => blk x.1 63 [.pointer (some ⟨p, 6, none⟩)] :: blk x.2 31 [.int .i64 q.e.op, .int .i64 q.e.flags, .int .u32 q.e.tag, .int .u32 q.e.cap, .int .u32 q.e.a, .int .u32 q.e.b, .int .u32 q.e.c, .int .u32 q.e.time] :: blk b2 247 [.int .i64 0, .int .u32 0, .bool false] :: actA a p T q i :: coA p s :: m)) (G := (fun x : Nat × Nat => [(0, .pointer (some ⟨a, 0, none⟩)), (2, .pointer (some ⟨b2, 0, none⟩)), (3, .pointer (some ⟨x.1, 0, none⟩)), (4, .pointer (some ⟨x.2, 0, none⟩))])) (b3, b4) SU KE
  refine x_alloc ty63 rfl fun b3 => i1 4 rfl <| xc fc29 (.cons rfl .nil) rfl (coSlots) fun _ => i1 12 rfl <| x_store rfl rfl ty63 rfl SM SM RO PT ?_
  refine i1 13 rfl <| x_store rfl rfl ty31 rfl SM SM RO PT ?_
  refine i0 <| Q_then <| J_pick (A := blk a _ _) PC ?_
  refine J_asTo (B := actA a p T q i) (by rfl) <| J_pick (A := blk b4 _ _) PC ?_
  refine J_asTo (B := blk b4 31 [.int .i64 q.e.op, .int .i64 q.e.flags, .int .u32 q.e.tag, .int .u32 q.e.cap, .int .u32 q.e.a, .int .u32 q.e.b, .int .u32 q.e.c, .int .u32 q.e.time]) (by rfl) ?_
  exact J_at (L := (fun x : Nat × Nat => blk x.1 63 [.pointer (some ⟨p, 6, none⟩)] :: blk x.2 31 [.int .i64 q.e.op, .int .i64 q.e.flags, .int .u32 q.e.tag, .int .u32 q.e.cap, .int .u32 q.e.a, .int .u32 q.e.b, .int .u32 q.e.c, .int .u32 q.e.time] :: blk b2 247 [.int .i64 0, .int .u32 0, .bool false] :: actA a p T q i :: coA p s :: m)) (G := (fun x : Nat × Nat => [(0, .pointer (some ⟨a, 0, none⟩)), (2, .pointer (some ⟨b2, 0, none⟩)), (3, .pointer (some ⟨x.1, 0, none⟩)), (4, .pointer (some ⟨x.2, 0, none⟩))])) (b3, b4) SU KE
  intro x
  obtain ⟨b3, b4⟩ := x
  dsimp only
  refine J_seq <| J_seq ?_
  have hks : (kSlots s T q.e) = killS s (deleteS s.sl) (kFind s.sl T.root q.e.cap) := by unfold kSlots; rw [if_neg (by omega), if_neg (by omega), if_neg (by omega), if_pos hop]
  refine J_region <| fa rfl rfl fa31_0 <| L_val rfl (v_load rfl ty3 HS (by exact rfl)) ?_
  refine nq <| J_block <| sr <| L_pur rfl (p_eql rfl rfl) <| ag rfl rfl <| nq <| J_bool (t := 17) (c := false) rfl (by simp [hop]) <| C_false rfl ?_
  refine sr <| L_pur rfl (p_eql rfl rfl) <| ag rfl rfl <| nq <| J_bool (t := 22) (c := false) rfl (by simp [hop]) <| C_false rfl <| sr <| L_pur rfl (p_eql rfl rfl) ?_
  refine ag rfl rfl <| nq <| J_bool (t := 27) (c := false) rfl (by simp [hop]) <| C_false rfl <| sr <| L_pur rfl (p_eql rfl rfl) <| ag rfl rfl <| nq ?_
  refine J_bool (t := 32) (c := true) rfl (by simp [hop]) <| C_true rfl <| sr <| mv rfl rfl <| L_pur rfl (p_makeFunc (.cons rfl .nil)) <| L_op <| xc fc165 (.cons rfl (.cons rfl .nil)) rfl (killsG (C := blk b3 63 [.pointer (some ⟨p, 6, none⟩)]) (F := deleteS s.sl) Tryz.func166 nm166 bd166 (fun l m x hp => clo4 hp hsl) PX hE (fun x => deleteS_code) hF hM hq hz hg0) fun _ => ?_
  refine L_op <| x_store rfl rfl ty247 rfl SM SM RO PT ?_
  refine nq <| J_ret <| Q_blk_ret <| Q_then_ret <| J_pick (A := coA p _) PC ?_
  refine J_asTo (B := coA p (kSlots s T q.e).1) (by rw [hks]) <| J_pick (A := actA a p T q i) PC ?_
  refine J_return (()) Tryz.results117 (.cellA rfl ty247 HS CT .nil) ?_ ?_
  · rw [hks]; rfl
  · exact SU
end Go.Pse
namespace Go.Pse
open Go.RowKit Go.Proofs
/-! ### plain: what an entry asks of pages, threads, whoever waits -/
abbrev Out := Option (Int × Int)
def failO (c : Int) : Out := some (-c, 0)
def kMaps (s : KS) (T : Th) (e : Sqe) : KS × Int :=
  if (kCap s.sl T.root e.cap 3).2.2 ≠ 0 then (s, (kCap s.sl T.root e.cap 3).2.2)
  else if e.a ≥ 8 ∨ e.b < 1 ∨ e.b > 3 then (s, 7)
  else if bits .and .i64 (kCap s.sl T.root e.cap 3).1.rights e.b ≠ e.b then (s, 6)
  else if (look s.sp T.space).getD false = false then (s, 11)
  else if spSetOk s.mp (T.space, e.a) ((kCap s.sl T.root e.cap 3).1.obj, e.b) = false then (s, 3)
  else ({ s with mp := spSet s.mp (T.space, e.a) ((kCap s.sl T.root e.cap 3).1.obj, e.b) }, 0)
def kUnmap (s : KS) (T : Th) (e : Sqe) : KS × Int :=
  if e.a ≥ 8 then (s, 7) else if (look s.mp (T.space, e.a)).isSome = false then ({ s with mp := del s.mp (T.space, e.a) }, 11) else ({ s with mp := del s.mp (T.space, e.a) }, 0)
def kThr (s : KS) (e : Sqe) (u : Int) : KS × Bool :=
  if e.op = 16 then ({ s with q := qSet s.q u e.a }, qSetOk s.q u e.a) else if e.op = 17 then (kStop s u, kStopOk s u) else (kGo s u, kGoOk s u)
def kThreads (s : KS) (T : Th) (e : Sqe) : KS × Int :=
  if (kCap s.sl T.root e.cap 6).2.2 ≠ 0 then (s, (kCap s.sl T.root e.cap 6).2.2)
  else if e.op = 16 ∧ e.a ≥ 8 then (s, 7)
  else ((kThr s e (kCap s.sl T.root e.cap 6).1.obj).1, if (kThr s e (kCap s.sl T.root e.cap 6).1.obj).2 = true then 0 else 11)
def tagQ (ps : List (ID × Rq)) (g tag but : Int) : Option ID := ((ofQ ps g).find? fun r => decide (r.e.tag = tag) && !decide (r.id.2 = but)).map Rq.id
def kCancels (s : KS) (e : Sqe) (i : ID) : KS × Int := match tagQ s.rt i.1 e.a i.2 with
  | none => (s, 11)
  | some j => (kDec s.rt.length s j (-9) 0, 0)
def kBind (s : KS) (u : Int) (j : ID) : KS := match look s.rp u with
  | none => s
  | some x => if x.2.2 = true then kDec s.rt.length { s with rp := updO s.rp u (fun _ => (j, true)) } x.2.1 (-9) 0 else { s with rp := updO s.rp u (fun _ => (j, true)) }
def kSend3 (s : KS) (u : Int) (i : ID) (call : Bool) : KS × Out := if call = false then (s, some (0, 0)) else match look s.rp u with
  | none => (s, failO 11)
  | some _ => (kBind s u i, none)
def kSend2 (s : KS) (c : Cap) (e : Sqe) (i : ID) (call : Bool) : List Rcv → KS × Out
  | [] => (s, none)
  | y :: _ => kSend3 (kDec s.rt.length s y.1 c.badge e.a) y.2 i call
def kSend1 (s : KS) (c : Cap) (e : Sqe) (i : ID) (call : Bool) : KS × Out := match look s.ep c.obj with
  | none => (s, failO 11)
  | some y => kSend2 { s with ep := updO s.ep c.obj (sendE (i, e.a, c.badge, call)) } c e i call y.2.2
def kSends (s : KS) (T : Th) (e : Sqe) (i : ID) (call : Bool) : KS × Out :=
  if (mayS s T e 4 (if call = true then 6 else 2)).2 ≠ 0 then (s, failO (mayS s T e 4 (if call = true then 6 else 2)).2) else kSend1 s (mayS s T e 4 (if call = true then 6 else 2)).1 e i call
def kMet (s : KS) (u : Int) (x : Msg) : KS :=
  if x.2.2.2 = true then (match look s.rp u with
    | none => kDec s.rt.length s x.1 (-11) 0
    | some _ => kBind s u x.1)
  else kDec s.rt.length s x.1 0 0
def kRecv2 (s : KS) (u : Int) : List Msg → KS × Out
  | [] => (s, none)
  | x :: _ => (kMet s u x, some (x.2.2.1, x.2.1))
def kRecv1 (s : KS) (c : Cap) (u : Int) (i : ID) : KS × Out := match look s.ep c.obj with
  | none => (s, failO 11)
  | some y => kRecv2 { s with ep := updO s.ep c.obj (recvE (i, u)) } u y.2.1
def kRecvs (s : KS) (T : Th) (e : Sqe) (i : ID) : KS × Out :=
  if (mayS s T e 4 1).2 ≠ 0 then (s, failO (mayS s T e 4 1).2)
  else if e.b ≠ 0 then (if (kCap s.sl T.root e.b 7).2.2 ≠ 0 then (s, failO (kCap s.sl T.root e.b 7).2.2) else kRecv1 s (mayS s T e 4 1).1 (kCap s.sl T.root e.b 7).1.obj i)
  else kRecv1 s (mayS s T e 4 1).1 0 i
def kAnswers (s : KS) (T : Th) (e : Sqe) : KS × Int :=
  if (kCap s.sl T.root e.cap 7).2.2 ≠ 0 then (s, (kCap s.sl T.root e.cap 7).2.2)
  else match look s.rp (kCap s.sl T.root e.cap 7).1.obj with
    | none => (s, 11)
    | some x => if x.2.2 = false then ({ s with rp := updO s.rp (kCap s.sl T.root e.cap 7).1.obj (fun _ => ((0, 0), false)) }, 11)
      else (kDec s.rt.length { s with rp := updO s.rp (kCap s.sl T.root e.cap 7).1.obj (fun _ => ((0, 0), false)) } x.2.1 0 e.a, 0)
def sigB (c : Cap) (e : Sqe) : Int := if IntKind.u32.wrap c.badge = 0 then e.a else IntKind.u32.wrap c.badge
def kSignals (s : KS) (T : Th) (e : Sqe) : KS × Int :=
  if (mayS s T e 5 2).2 ≠ 0 then (s, (mayS s T e 5 2).2)
  else match look s.nt (mayS s T e 5 2).1.obj with
    | none => (s, 11)
    | some x => (if woke x.2.1 x.2.2 (sigB (mayS s T e 5 2).1 e) = true then kDec s.rt.length { s with nt := updO s.nt (mayS s T e 5 2).1.obj (ntS (sigB (mayS s T e 5 2).1 e)) } (sigI x.2.1 x.2.2 (sigB (mayS s T e 5 2).1 e)) 0 (sigV x.2.1 x.2.2 (sigB (mayS s T e 5 2).1 e)) else { s with nt := updO s.nt (mayS s T e 5 2).1.obj (ntS (sigB (mayS s T e 5 2).1 e)) }, 0)
def kNWaits (s : KS) (T : Th) (e : Sqe) (i : ID) : KS × Out :=
  if (mayS s T e 5 1).2 ≠ 0 then (s, failO (mayS s T e 5 1).2)
  else match look s.nt (mayS s T e 5 1).1.obj with
    | none => (s, failO 11)
    | some x => ({ s with nt := updO s.nt (mayS s T e 5 1).1.obj (ntW i) }, if x.2.1 = 0 then none else some (0, x.2.1))
theorem Fits.rpF {s : KS} {N M : Nat} (h : Fits s N M) (u : Int) (f : ID × Bool → ID × Bool) : Fits { s with rp := updO s.rp u f } N M :=
  ⟨h.n, h.mm, h.ids, h.jn, h.tm, h.ep, h.nt, fun x hx => by
    obtain ⟨y, hy, h1, _⟩ := updO_mem (show x ∈ updO s.rp u f from hx)
    rw [h1]; exact h.rp y hy, h.rg, h.mem⟩
theorem Fits.more {s : KS} {N M : Nat} (h : Fits s N M) (hN : N + 1 ≤ 90000) : Fits s (N + 1) M :=
  ⟨hN, h.mm, h.ids, h.jn, by have := h.tm; omega, fun x hx => by have := h.ep x hx; exact ⟨this.1, by omega, by omega⟩, fun x hx => by have := h.nt x hx; exact ⟨this.1, by omega⟩, h.rp, h.rg, h.mem⟩
theorem sendE_len (z : Msg) (a : List Msg × List Rcv) : (sendE z a).1.length ≤ a.1.length + 1 ∧ (sendE z a).2.length ≤ a.2.length := by
  unfold sendE
  split
  · simp
  · rename_i h; simp [h]
theorem recvE_len (z : Rcv) (a : List Msg × List Rcv) : (recvE z a).1.length ≤ a.1.length ∧ (recvE z a).2.length ≤ a.2.length + 1 := by
  unfold recvE
  split
  · simp
  · rename_i h; simp [h]
theorem Fits.epF {s : KS} {N M : Nat} (h : Fits s N M) (hN : N + 1 ≤ 90000) (u : Int) {f : List Msg × List Rcv → List Msg × List Rcv} (hf : ∀ a, (f a).1.length ≤ a.1.length + 1 ∧ (f a).2.length ≤ a.2.length + 1) : Fits { s with ep := updO s.ep u f } (N + 1) M :=
  ⟨hN, h.mm, h.ids, h.jn, by have := h.tm; show s.tm.length ≤ _; omega, fun x hx => by
    obtain ⟨y, hy, h1, h2⟩ := updO_mem (show x ∈ updO s.ep u f from hx)
    have h3 := h.ep y hy
    rw [h1]
    rcases h2 with h2 | h2 <;> rw [h2]
    · exact ⟨h3.1, by omega, by omega⟩
    · have := hf y.2.2; exact ⟨h3.1, by omega, by omega⟩, fun x hx => by have := h.nt x hx; exact ⟨this.1, by omega⟩, h.rp, h.rg, h.mem⟩
theorem Fits.ntF {s : KS} {N M : Nat} (h : Fits s N M) (hN : N + 1 ≤ 90000) (u : Int) {f : Int × List ID → Int × List ID} (hf : ∀ a, (f a).2.length ≤ a.2.length + 1) : Fits { s with nt := updO s.nt u f } (N + 1) M :=
  ⟨hN, h.mm, h.ids, h.jn, by have := h.tm; show s.tm.length ≤ _; omega, fun x hx => by have := h.ep x hx; exact ⟨this.1, by omega, by omega⟩, fun x hx => by
    obtain ⟨y, hy, h1, h2⟩ := updO_mem (show x ∈ updO s.nt u f from hx)
    have h3 := h.nt y hy
    rw [h1]
    rcases h2 with h2 | h2 <;> rw [h2]
    · exact ⟨h3.1, by omega⟩
    · have := hf y.2.2; exact ⟨h3.1, by omega⟩, h.rp, h.rg, h.mem⟩
theorem rtTagC {E : World} {l m : List As}  {b o : Nat} {ps : List (ID × Rq)} (hp : Pick (rtA b o ps) l m) {g tag but : Int} (hI : Ids ps) (hb : ps.length ≤ 100000) :
    Con Tryz.prog 186 #[.pointer (some ⟨b, o, none⟩), .int .i64 g, .int .u32 tag, .int .i64 but] E l (fun _ : Unit => .tuple #[.agg (encI ((tagQ ps g tag but).getD (0, 0))).toArray, .bool (tagQ ps g tag but).isSome]) (fun _ => rtA b o ps :: m) := by
  refine Con.body (vs := [.pointer (some ⟨b, o, none⟩), .int .i64 g, .int .u32 tag, .int .i64 but]) (n := 36) Tryz.func186 rfl rfl [(0, .pointer (some ⟨b, o, none⟩)), (1, .int .i64 g), (2, .int .u32 tag), (3, .int .i64 but)] (env_ok 4 rfl) <| J_pick hp <| sr <| L_op <| x_alloc ty39 rfl fun b8 => ag rfl rfl <| nxx <| mv rfl rfl ?_
  refine mv rfl rfl <| L_op <| xc fc26 (.cons rfl (.cons rfl .nil)) rfl (rtOf (ps := ps) (g := g) PC hI hb) <| JR fun a14 c14 hw14 hl14 hm14 hz14 => ?_
  have hol := ofQ_len ps g
  obtain ⟨xs, hxs⟩ : ∃ xs, xs = ofQ ps g := ⟨_, rfl⟩
  refine J_pick (A := row 104 13 _ _) PC ?_
  refine J_rowTo (ys := xs.map encQ) (v' := .slice a14 (xs.map encQ).length c14) (by rw [hxs]) (by rw [hxs]) <| J_slot (t := 14) (v := .slice a14 (xs.map encQ).length c14) rfl (by rw [hxs]) ?_
  rw [← hxs] at hol hz14
  have hm : c14 ≤ 9223372036854775807 := hm14
  have hml : (xs.map encQ).length = xs.length := List.length_map _
  refine L_pur rfl (p_len rfl Tryz.underlying54) <| mv rfl rfl <| nq <| J_block <| J_loop (α := Nat) (fun k => k ≤ xs.length ∧ ∀ c ∈ xs.take k, (decide (c.e.tag = tag) && !decide (c.id.2 = but)) = false) (fun _ => row 104 13 (.slice a14 (xs.map encQ).length c14) (xs.map encQ) :: blk b8 39 (encI (0, 0)) :: rtA b o ps :: m) (fun k => [(16, .int .i64 (k : Int)), (14, .slice a14 (xs.map encQ).length c14), (15, .int .i64 ((xs.map encQ).length : Int)), (2, .int .u32 tag), (3, .int .i64 but), (8, .pointer (some ⟨b8, 0, none⟩))]) (fun k => xs.length - k) 0 ⟨by omega, by simp⟩ SU KE ?_
  intro k hk
  obtain ⟨hk, h0⟩ := hk
  refine sr <| L_pur rfl (p_lss rfl rfl) <| nq <| J_seq ?_
  refine C_dec rfl (fun h17 => ?_) (fun h17 => ?_)
  have hlt : k < xs.length := by omega
  obtain ⟨bx, ox, rfl⟩ := hz14 (by intro h; rw [h] at hml; simp at hml; omega)
  obtain ⟨c, hcc⟩ : ∃ c, xs[k]? = some c := ⟨_, List.getElem?_eq_getElem hlt⟩
  refine J_skip <| Q_then <| J_seq <| J_block <| sr <| L_pur rfl (p_indexAddr rfl rfl Tryz.underlying54 ty104 (by omega) (by omega)) ?_
  refine L_val rfl (v_loadE rfl ty104 HS (by first | (simp only [Int.toNat_natCast, List.getElem?_map, hcc]; rfl) | (simp only [Int.toNat_natCast, List.getElem?_map, hcd]; rfl) | simp | rfl)) ?_
  refine L_op <| x_alloc ty104 rfl fun b11 => L_op <| x_store rfl rfl ty104 rfl SM SM RO PT ?_
  refine J_pick (A := blk b11 _ _) PC ?_
  refine J_asTo (B := blk b11 104 (encQ c)) (by rfl) <| nx <| fa rfl rfl fa104_1 <| fa rfl rfl fa31_2 <| L_val rfl (v_load rfl ty22 HS (by exact rfl)) ?_
  refine mv rfl rfl <| L_pur rfl (p_eql rfl rfl) <| mv rfl rfl ?_
  refine J_gsplit (t := 25) rfl (fun h25 => ?_) (fun h25 => ?_)
  refine L_op <| G_on rfl rfl rfl <| J_pur (p_fieldAddr rfl fa104_0) rfl rfl rfl <| L_op <| G_on rfl rfl rfl <| J_pur (p_fieldAddr rfl fa39_1) rfl rfl rfl <| L_op <| G_on rfl rfl rfl ?_
  refine J_val (v_load rfl ty3 HS (by exact rfl)) rfl rfl rfl ?_
  refine L_op <| G_on rfl rfl rfl <| J_pur (p_move rfl) rfl rfl rfl <| L_op <| G_on rfl rfl rfl <| J_pur (p_neq rfl rfl) rfl rfl rfl <| L_pur rfl (p_pick_t rfl rfl) <| nq ?_
  refine C_split rfl (fun h31 => ?_) (fun h31 => ?_)
  have htq : tagQ ps g tag but = some c.id := by
    unfold tagQ
    rw [← hxs, find_here h0 hcc (by simp_all)]; rfl
  refine sr <| fa rfl rfl fa104_0 <| L_val rfl (v_loadA rfl ty39 HS CT) ?_
  refine L_op <| x_store rfl rfl ty39 rfl SM SM RO PT ?_
  refine ag rfl rfl <| nq <| J_ret <| Q_blk_ret <| Q_then_ret <| Q_then_ret <| Q_blk_ret <| Q_then_ret ?_
  refine J_return (()) Tryz.results186 (.cellA rfl ty39 HS CT (.tmp rfl .nil)) ?_ ?_
  · rw [htq]; rfl
  · exact SU
  refine J_skip <| Q_blk_normal <| qr <| L_pur rfl (p_add64 rfl rfl (by omega)) <| mv rfl rfl <| nq ?_
  exact J_again (k + 1) (by omega) (⟨by omega, take_false_succ h0 hcc (by simp_all)⟩) SU KE
  refine L_op <| G_off rfl rfl rfl rfl rfl rfl <| L_op <| G_off rfl rfl rfl rfl rfl rfl <| L_op <| G_off rfl rfl rfl rfl rfl rfl <| L_op <| G_off rfl rfl rfl rfl rfl rfl ?_
  refine L_op <| G_off rfl rfl rfl rfl rfl rfl <| L_pur rfl (p_pick_f rfl rfl) <| nq <| C_false rfl <| J_skip <| Q_blk_normal <| qr ?_
  refine L_pur rfl (p_add64 rfl rfl (by omega)) <| mv rfl rfl <| nq ?_
  exact J_again (k + 1) (by omega) (⟨by omega, take_false_succ h0 hcc (by simp_all)⟩) SU KE
  have htq : tagQ ps g tag but = none := by
    unfold tagQ
    rw [← hxs, find_gone (by rw [show k = xs.length by omega, List.take_length] at h0; exact h0)]; rfl
  refine J_exit <| Q_then_exit <| Q_then_exit <| Q_blk_this <| qx <| L_pur rfl (bld39 .nil (by repeat constructor)) <| L_op <| x_store rfl rfl ty39 rfl SM SM RO PT ?_
  refine ag rfl rfl <| nq <| J_ret ?_
  refine J_return (()) Tryz.results186 (.cellA rfl ty39 HS CT (.tmp rfl .nil)) ?_ ?_
  · rw [htq]; rfl
  · exact SU
theorem coTagged {E : World} {l m : List As} {p : Nat} {s : KS} (hp : Pick (coA p s) l m) {g tag but : Int} (hI : Ids s.rt) (hb : s.rt.length ≤ 100000) :
    Con Tryz.prog 186 #[.pointer (some ⟨p, 10, none⟩), .int .i64 g, .int .u32 tag, .int .i64 but] E l (fun _ : Unit => .tuple #[.agg (encI ((tagQ s.rt g tag but).getD (0, 0))).toArray, .bool (tagQ s.rt g tag but).isSome]) (fun _ => coA p s :: m) := fun w H => by
  refine (?_ : Jk E l 0 [] fun _ w => Calls Tryz.prog 186 #[.pointer (some ⟨p, 10, none⟩), .int .i64 g, .int .u32 tag, .int .i64 but] w fun e w' => ∃ x, e = .returned ((fun _ : Unit => .tuple #[.agg (encI ((tagQ s.rt g tag but).getD (0, 0))).toArray, .bool (tagQ s.rt g tag but).isSome]) x) ∧ Sep E w' ((fun _ : Unit => coA p s :: m) x)) w _ H fr0
  refine J_pick hp <| J_coO fun bn be br bg bt bs bp bl bk _ => J_con (rtTagC (ps := s.rt) (g := g) (tag := tag) (but := but) PC hI hb) fun x => ?_
  refine J_coS (p := p) (s := s) bn be br bg bt bs bp bl bk PX trivial ?_
  exact J_end SU
theorem cancelsG {E : World} {l m : List As} {a p : Nat} {s : KS} {T : Th} {q : Rq} {i : ID} (hp : Picks [actA a p T q i, coA p s] l m) {N M : Nat} (hF : Fits s N M) :
    Con Tryz.prog 127 #[.pointer (some ⟨a, 0, none⟩)] E l (fun _ : Unit => encE (some (-(kCancels s q.e i).2, 0))) (fun _ => actA a p T q i :: coA p (kCancels s q.e i).1 :: m) := by
  refine Con.body (vs := [.pointer (some ⟨a, 0, none⟩)]) (n := 40) Tryz.func127 rfl rfl [(0, .pointer (some ⟨a, 0, none⟩))] (env_ok 1 rfl) <| J_picks2 hp <| J_pick (A := actA a p T q i) PC ?_
  refine J_asTo (B := blk a 250 [.pointer (some ⟨p, 0, none⟩), .int .i64 T.unit, .int .i64 T.space, .int .i64 T.ring, .int .i64 T.root.kind, .int .i64 T.root.obj, .int .i64 T.root.size, .int .i64 T.root.badge, .int .i64 T.root.rights, .int .i64 q.id.1, .int .i64 q.id.2, .int .i64 q.e.op, .int .i64 q.e.flags, .int .u32 q.e.tag, .int .u32 q.e.cap, .int .u32 q.e.a, .int .u32 q.e.b, .int .u32 q.e.c, .int .u32 q.e.time, .int .i64 q.prev, .bool q.soft, .bool q.started, .int .i64 i.1, .int .i64 i.2]) (by rfl) <| sr <| L_op <| x_alloc ty247 rfl fun b2 => nq <| J_seq <| J_drawL none mixed <| ip 0 rfl rfl rfl rfl (p_move rfl) ?_
  refine ip 1 rfl rfl rfl rfl (p_nilCheck rfl) <| ip 2 rfl rfl rfl rfl (p_fieldAddr rfl fa250_0) <| iv 3 rfl rfl rfl rfl (fun _ => v_load rfl ty25 HS (by exact rfl)) ?_
  refine ip 5 rfl rfl rfl rfl (p_move rfl) <| ip 6 rfl rfl rfl rfl (p_nilCheck rfl) <| ip 7 rfl rfl rfl rfl (p_fieldAddr rfl fa250_3) <| ip 8 rfl rfl rfl rfl (p_fieldAddr rfl fa39_0) <| iv 9 rfl rfl rfl rfl (fun _ => v_load rfl ty3 HS (by exact rfl)) ?_
  refine ip 10 rfl rfl rfl rfl (p_move rfl) <| ip 11 rfl rfl rfl rfl (p_nilCheck rfl) <| ip 12 rfl rfl rfl rfl (p_fieldAddr rfl fa250_2) <| ip 13 rfl rfl rfl rfl (p_fieldAddr rfl fa104_1) <| ip 14 rfl rfl rfl rfl (p_fieldAddr rfl fa31_4) <| iv 15 rfl rfl rfl rfl (fun _ => v_load rfl ty22 HS (by exact rfl)) ?_
  refine ip 16 rfl rfl rfl rfl (p_move rfl) <| ip 17 rfl rfl rfl rfl (p_nilCheck rfl) <| ip 18 rfl rfl rfl rfl (p_fieldAddr rfl fa250_3) <| ip 19 rfl rfl rfl rfl (p_fieldAddr rfl fa39_1) <| iv 20 rfl rfl rfl rfl (fun _ => v_load rfl ty3 HS (by exact rfl)) ?_
  refine I_ready (rs := [4, 25]) SI (by kernel_rfl) (by simp) ?_
  refine (I_cons rfl ?_ (I_cons rfl ?_ I_nil))
  refine xc fc22 (.cons rfl .nil) rfl (coReqs) fun _ => I_ready (rs := [21, 25]) SI (by kernel_rfl) (by simp) ?_
  refine (I_cons rfl ?_ (I_cons rfl ?_ I_nil))
  refine xc fc186 (.cons rfl (.cons rfl (.cons rfl (.cons rfl .nil)))) rfl (coTagged (s := s) (g := i.1) (tag := q.e.a) (but := i.2) PC hF.ids (by have := hF.jn; have := hF.mm; omega)) fun _ => ?_
  refine ip 22 rfl rfl rfl rfl (p_move rfl) <| ip 23 rfl rfl rfl rfl (p_extract rfl rfl) <| ip 24 rfl rfl rfl rfl (p_extract rfl rfl) <| i1 25 rfl <| x_alloc ty39 rfl fun b3 => i1 26 rfl <| x_store rfl rfl ty39 rfl SM SM RO PT ?_
  refine ip 27 rfl rfl rfl rfl (p_assign rfl) <| i0 <| Q_then <| J_seq <| sr <| mv rfl rfl <| L_pur rfl (p_not rfl) <| nq ?_
  refine C_split rfl (fun h31 => ?_) (fun h31 => ?_)
  have htq : (tagQ s.rt i.1 q.e.a i.2) = none := by
    cases hq : (tagQ s.rt i.1 q.e.a i.2) with
    | none => rfl
    | some y => rw [hq] at h31; simp at h31
  have hkm : (kCancels s q.e i) = (s, 11) := by unfold kCancels; rw [htq]
  refine sr <| L_op <| xc fc128 (.cons rfl .nil) rfl (failsC (by decide)) fun _ => L_op <| x_store rfl rfl ty247 rfl SM SM RO PT ?_
  refine nq <| J_ret <| Q_then_ret <| J_pick (A := coA p _) PC ?_
  refine J_asTo (B := coA p (kCancels s q.e i).1) (by rw [hkm]; try rfl) <| J_pick (A := blk a _ _) PC ?_
  refine J_asTo (B := actA a p T q i) (by rfl) ?_
  refine J_return (()) Tryz.results127 (.cellA rfl ty247 HS CT .nil) ?_ ?_
  · rw [hkm]; rfl
  · exact SU
  obtain ⟨j, htq⟩ : ∃ x, (tagQ s.rt i.1 q.e.a i.2) = some x := by
    cases hq : (tagQ s.rt i.1 q.e.a i.2) with
    | none => rw [hq] at h31; simp at h31
    | some y => exact ⟨y, rfl⟩
  have hkm : (kCancels s q.e i) = (kDec s.rt.length s j (-9) 0, 0) := by unfold kCancels; rw [htq]
  refine J_pick (A := blk b3 _ _) PC ?_
  refine J_asTo (B := blk b3 39 (encI j)) (by rw [htq]; rfl) <| J_skip <| Q_then <| J_seq <| J_drawT 5 mixed (by kernel_rfl) <| sm rfl rfl <| sp rfl (p_nilCheck rfl) <| sp rfl (p_fieldAddr rfl fa250_0) ?_
  refine S_val rfl (v_load rfl ty25 HS (by exact rfl)) ?_
  refine S_val rfl (v_loadA rfl ty39 HS CT) ?_
  refine S_nil <| L_op <| xc fc54 (.cons rfl (.cons rfl (.cons rfl (.cons rfl .nil)))) rfl (coDecide (s := s) (i := j) (r := -9) (v := 0) PC hF) fun _ => ?_
  refine nx <| L_pur rfl (bld247 .nil (by repeat constructor)) <| L_op <| x_store rfl rfl ty247 rfl SM SM RO PT ?_
  refine nq <| J_ret <| J_pick (A := coA p _) PC ?_
  refine J_asTo (B := coA p (kCancels s q.e i).1) (by rw [hkm]; try rfl) <| J_pick (A := blk a _ _) PC ?_
  refine J_asTo (B := actA a p T q i) (by rfl) ?_
  refine J_return (()) Tryz.results127 (.cellA rfl ty247 HS CT .nil) ?_ ?_
  · rw [hkm]; rfl
  · exact SU
  refine x_alloc ty39 rfl fun b3 => i1 21 rfl <| xc fc186 (.cons rfl (.cons rfl (.cons rfl (.cons rfl .nil)))) rfl (coTagged (s := s) (g := i.1) (tag := q.e.a) (but := i.2) PC hF.ids (by have := hF.jn; have := hF.mm; omega)) fun _ => ?_
  refine ip 22 rfl rfl rfl rfl (p_move rfl) <| ip 23 rfl rfl rfl rfl (p_extract rfl rfl) <| ip 24 rfl rfl rfl rfl (p_extract rfl rfl) <| i1 26 rfl <| x_store rfl rfl ty39 rfl SM SM RO PT ?_
  refine ip 27 rfl rfl rfl rfl (p_assign rfl) <| i0 <| Q_then <| J_seq <| sr <| mv rfl rfl <| L_pur rfl (p_not rfl) <| nq ?_
  refine C_split rfl (fun h31 => ?_) (fun h31 => ?_)
  have htq : (tagQ s.rt i.1 q.e.a i.2) = none := by
    cases hq : (tagQ s.rt i.1 q.e.a i.2) with
    | none => rfl
    | some y => rw [hq] at h31; simp at h31
  have hkm : (kCancels s q.e i) = (s, 11) := by unfold kCancels; rw [htq]
  refine sr <| L_op <| xc fc128 (.cons rfl .nil) rfl (failsC (by decide)) fun _ => L_op <| x_store rfl rfl ty247 rfl SM SM RO PT ?_
  refine nq <| J_ret <| Q_then_ret <| J_pick (A := coA p _) PC ?_
  refine J_asTo (B := coA p (kCancels s q.e i).1) (by rw [hkm]; try rfl) <| J_pick (A := blk a _ _) PC ?_
  refine J_asTo (B := actA a p T q i) (by rfl) ?_
  refine J_return (()) Tryz.results127 (.cellA rfl ty247 HS CT .nil) ?_ ?_
  · rw [hkm]; rfl
  · exact SU
  obtain ⟨j, htq⟩ : ∃ x, (tagQ s.rt i.1 q.e.a i.2) = some x := by
    cases hq : (tagQ s.rt i.1 q.e.a i.2) with
    | none => rw [hq] at h31; simp at h31
    | some y => exact ⟨y, rfl⟩
  have hkm : (kCancels s q.e i) = (kDec s.rt.length s j (-9) 0, 0) := by unfold kCancels; rw [htq]
  refine J_pick (A := blk b3 _ _) PC ?_
  refine J_asTo (B := blk b3 39 (encI j)) (by rw [htq]; rfl) <| J_skip <| Q_then <| J_seq <| J_drawT 5 mixed (by kernel_rfl) <| sm rfl rfl <| sp rfl (p_nilCheck rfl) <| sp rfl (p_fieldAddr rfl fa250_0) ?_
  refine S_val rfl (v_load rfl ty25 HS (by exact rfl)) ?_
  refine S_val rfl (v_loadA rfl ty39 HS CT) ?_
  refine S_nil <| L_op <| xc fc54 (.cons rfl (.cons rfl (.cons rfl (.cons rfl .nil)))) rfl (coDecide (s := s) (i := j) (r := -9) (v := 0) PC hF) fun _ => ?_
  refine nx <| L_pur rfl (bld247 .nil (by repeat constructor)) <| L_op <| x_store rfl rfl ty247 rfl SM SM RO PT ?_
  refine nq <| J_ret <| J_pick (A := coA p _) PC ?_
  refine J_asTo (B := coA p (kCancels s q.e i).1) (by rw [hkm]; try rfl) <| J_pick (A := blk a _ _) PC ?_
  refine J_asTo (B := actA a p T q i) (by rfl) ?_
  refine J_return (()) Tryz.results127 (.cellA rfl ty247 HS CT .nil) ?_ ?_
  · rw [hkm]; rfl
  · exact SU
  refine x_alloc ty39 rfl fun b3 => i1 4 rfl <| xc fc22 (.cons rfl .nil) rfl (coReqs) fun _ => i1 21 rfl <| xc fc186 (.cons rfl (.cons rfl (.cons rfl (.cons rfl .nil)))) rfl (coTagged (s := s) (g := i.1) (tag := q.e.a) (but := i.2) PC hF.ids (by have := hF.jn; have := hF.mm; omega)) fun _ => ?_
  refine ip 22 rfl rfl rfl rfl (p_move rfl) <| ip 23 rfl rfl rfl rfl (p_extract rfl rfl) <| ip 24 rfl rfl rfl rfl (p_extract rfl rfl) <| i1 26 rfl <| x_store rfl rfl ty39 rfl SM SM RO PT ?_
  refine ip 27 rfl rfl rfl rfl (p_assign rfl) <| i0 <| Q_then <| J_seq <| sr <| mv rfl rfl <| L_pur rfl (p_not rfl) <| nq ?_
  refine C_split rfl (fun h31 => ?_) (fun h31 => ?_)
  have htq : (tagQ s.rt i.1 q.e.a i.2) = none := by
    cases hq : (tagQ s.rt i.1 q.e.a i.2) with
    | none => rfl
    | some y => rw [hq] at h31; simp at h31
  have hkm : (kCancels s q.e i) = (s, 11) := by unfold kCancels; rw [htq]
  refine sr <| L_op <| xc fc128 (.cons rfl .nil) rfl (failsC (by decide)) fun _ => L_op <| x_store rfl rfl ty247 rfl SM SM RO PT ?_
  refine nq <| J_ret <| Q_then_ret <| J_pick (A := coA p _) PC ?_
  refine J_asTo (B := coA p (kCancels s q.e i).1) (by rw [hkm]; try rfl) <| J_pick (A := blk a _ _) PC ?_
  refine J_asTo (B := actA a p T q i) (by rfl) ?_
  refine J_return (()) Tryz.results127 (.cellA rfl ty247 HS CT .nil) ?_ ?_
  · rw [hkm]; rfl
  · exact SU
  obtain ⟨j, htq⟩ : ∃ x, (tagQ s.rt i.1 q.e.a i.2) = some x := by
    cases hq : (tagQ s.rt i.1 q.e.a i.2) with
    | none => rw [hq] at h31; simp at h31
    | some y => exact ⟨y, rfl⟩
  have hkm : (kCancels s q.e i) = (kDec s.rt.length s j (-9) 0, 0) := by unfold kCancels; rw [htq]
  refine J_pick (A := blk b3 _ _) PC ?_
  refine J_asTo (B := blk b3 39 (encI j)) (by rw [htq]; rfl) <| J_skip <| Q_then <| J_seq <| J_drawT 5 mixed (by kernel_rfl) <| sm rfl rfl <| sp rfl (p_nilCheck rfl) <| sp rfl (p_fieldAddr rfl fa250_0) ?_
  refine S_val rfl (v_load rfl ty25 HS (by exact rfl)) ?_
  refine S_val rfl (v_loadA rfl ty39 HS CT) ?_
  refine S_nil <| L_op <| xc fc54 (.cons rfl (.cons rfl (.cons rfl (.cons rfl .nil)))) rfl (coDecide (s := s) (i := j) (r := -9) (v := 0) PC hF) fun _ => ?_
  refine nx <| L_pur rfl (bld247 .nil (by repeat constructor)) <| L_op <| x_store rfl rfl ty247 rfl SM SM RO PT ?_
  refine nq <| J_ret <| J_pick (A := coA p _) PC ?_
  refine J_asTo (B := coA p (kCancels s q.e i).1) (by rw [hkm]; try rfl) <| J_pick (A := blk a _ _) PC ?_
  refine J_asTo (B := actA a p T q i) (by rfl) ?_
  refine J_return (()) Tryz.results127 (.cellA rfl ty247 HS CT .nil) ?_ ?_
  · rw [hkm]; rfl
  · exact SU
end Go.Pse
namespace Go.Pse
open Go.RowKit Go.Proofs
theorem answersG {E : World} {l m : List As} {a p : Nat} {s : KS} {T : Th} {q : Rq} {i : ID} (hp : Picks [actA a p T q i, coA p s] l m) (hE : SqeOk q.e) {N M : Nat} (hF : Fits s N M) :
    Con Tryz.prog 123 #[.pointer (some ⟨a, 0, none⟩)] E l (fun _ : Unit => encE (some (-(kAnswers s T q.e).2, 0))) (fun _ => actA a p T q i :: coA p (kAnswers s T q.e).1 :: m) := by
  refine Con.body (vs := [.pointer (some ⟨a, 0, none⟩)]) (n := 54) Tryz.func123 rfl rfl [(0, .pointer (some ⟨a, 0, none⟩))] (env_ok 1 rfl) <| J_picks2 hp <| J_pick (A := actA a p T q i) PC ?_
  refine J_asTo (B := blk a 250 [.pointer (some ⟨p, 0, none⟩), .int .i64 T.unit, .int .i64 T.space, .int .i64 T.ring, .int .i64 T.root.kind, .int .i64 T.root.obj, .int .i64 T.root.size, .int .i64 T.root.badge, .int .i64 T.root.rights, .int .i64 q.id.1, .int .i64 q.id.2, .int .i64 q.e.op, .int .i64 q.e.flags, .int .u32 q.e.tag, .int .u32 q.e.cap, .int .u32 q.e.a, .int .u32 q.e.b, .int .u32 q.e.c, .int .u32 q.e.time, .int .i64 q.prev, .bool q.soft, .bool q.started, .int .i64 i.1, .int .i64 i.2]) (by rfl) <| sr <| L_op <| x_alloc ty247 rfl fun b2 => nx <| mv rfl rfl <| mv rfl rfl <| nc rfl rfl ?_
  refine fa rfl rfl fa250_2 <| fa rfl rfl fa104_1 <| fa rfl rfl fa31_3 <| L_val rfl (v_load rfl ty22 HS (by exact rfl)) ?_
  refine J_pick (A := blk a _ _) PC ?_
  refine J_asTo (B := actA a p T q i) (by rfl) <| L_op <| xc fc174 (.cons rfl (.cons rfl (.cons rfl .nil))) rfl (foundG (a_ := q.e.cap) (kind := 7) PX hE.cap) fun _ => ?_
  refine mv rfl rfl <| L_pur rfl (p_extract rfl rfl) <| L_pur rfl (p_extract rfl rfl) <| L_op <| x_alloc ty69 rfl fun b3 => L_op <| x_store rfl rfl ty69 rfl SM SM RO PT ?_
  refine ag rfl rfl <| nq <| J_seq <| J_seq <| J_pick (A := blk b3 _ _) PC ?_
  refine J_asTo (B := blk b3 69 (encC (kCap s.sl T.root q.e.cap 7).1)) (by rfl) <| J_pick (A := actA a p T q i) PC ?_
  refine J_asTo (B := blk a 250 [.pointer (some ⟨p, 0, none⟩), .int .i64 T.unit, .int .i64 T.space, .int .i64 T.ring, .int .i64 T.root.kind, .int .i64 T.root.obj, .int .i64 T.root.size, .int .i64 T.root.badge, .int .i64 T.root.rights, .int .i64 q.id.1, .int .i64 q.id.2, .int .i64 q.e.op, .int .i64 q.e.flags, .int .u32 q.e.tag, .int .u32 q.e.cap, .int .u32 q.e.a, .int .u32 q.e.b, .int .u32 q.e.c, .int .u32 q.e.time, .int .i64 q.prev, .bool q.soft, .bool q.started, .int .i64 i.1, .int .i64 i.2]) (by rfl) <| J_region <| mv rfl rfl <| L_pur rfl (p_neq rfl rfl) <| nq ?_
  refine C_split rfl (fun h20 => ?_) (fun h20 => ?_)
  have hkm : (kAnswers s T q.e) = (s, (kCap s.sl T.root q.e.cap 7).2.2) := if_pos (by simpa using h20)
  refine sr <| mv rfl rfl <| L_op <| xc fc128 (.cons rfl .nil) rfl (failsC (n := (kCap s.sl T.root q.e.cap 7).2.2) (by have := kCap_code (sl := s.sl) (root := T.root) (a := q.e.cap) (kind := 7); omega)) fun _ => L_op <| x_store rfl rfl ty247 rfl SM SM RO PT ?_
  refine nq <| J_ret <| Q_then_ret <| J_pick (A := coA p _) PC ?_
  refine J_asTo (B := coA p (kAnswers s T q.e).1) (by rw [hkm]; try rfl) <| J_pick (A := blk a _ _) PC ?_
  refine J_asTo (B := actA a p T q i) (by rfl) ?_
  refine J_return (()) Tryz.results123 (.cellA rfl ty247 HS CT .nil) ?_ ?_
  · rw [hkm]; rfl
  · exact SU
  have n1 : ¬ (kCap s.sl T.root q.e.cap 7).2.2 ≠ 0 := by simpa using h20
  refine J_skip <| Q_then <| J_seq <| J_drawT 6 mixed (by kernel_rfl) <| sm rfl rfl <| sp rfl (p_nilCheck rfl) <| sp rfl (p_fieldAddr rfl fa250_0) <| S_val rfl (v_load rfl ty25 HS (by exact rfl)) ?_
  refine sp rfl (p_fieldAddr rfl fa69_1) <| S_val rfl (v_load rfl ty3 HS (by exact rfl)) ?_
  refine S_nil <| L_op <| xc fc20 (.cons rfl (.cons rfl .nil)) rfl (coReply (s := s) (u := (kCap s.sl T.root q.e.cap 7).1.obj) PC) fun _ => ?_
  refine J_slot (t := 29) (v := .pointer ((look (ptrs (KS.rp s)) (kCap s.sl T.root q.e.cap 7).1.obj).map fun b => ⟨b, 0, none⟩)) rfl rfl <| ag rfl rfl <| nxx <| mv rfl rfl <| L_pur rfl (p_eqNilPtr Tryz.underlying42 rfl) <| nq ?_
  refine C_split rfl (fun h31 => ?_) (fun h31 => ?_)
  have hno : look (KS.rp s) (kCap s.sl T.root q.e.cap 7).1.obj = none := by
    cases hq : look (KS.rp s) (kCap s.sl T.root q.e.cap 7).1.obj with
    | none => rfl
    | some y => rw [look_ptrs, hq] at h31; simp at h31
  have hkm : (kAnswers s T q.e) = (s, 11) := by unfold kAnswers; rw [if_neg n1, hno]
  refine sr <| L_op <| xc fc128 (.cons rfl .nil) rfl (failsC (by decide)) fun _ => L_op <| x_store rfl rfl ty247 rfl SM SM RO PT ?_
  refine nq <| J_ret <| Q_then_ret <| J_pick (A := coA p _) PC ?_
  refine J_asTo (B := coA p (kAnswers s T q.e).1) (by rw [hkm]; try rfl) <| J_pick (A := blk a _ _) PC ?_
  refine J_asTo (B := actA a p T q i) (by rfl) ?_
  refine J_return (()) Tryz.results123 (.cellA rfl ty247 HS CT .nil) ?_ ?_
  · rw [hkm]; rfl
  · exact SU
  obtain ⟨⟨bb, c⟩, hl⟩ : ∃ x, look (KS.rp s) (kCap s.sl T.root q.e.cap 7).1.obj = some x := by
    cases hq : look (KS.rp s) (kCap s.sl T.root q.e.cap 7).1.obj with
    | none => rw [look_ptrs, hq] at h31; simp at h31
    | some y => exact ⟨y, rfl⟩
  refine J_slot (t := 5) (v := .pointer (some ⟨bb, 0, none⟩)) rfl (by rw [look_ptrs, hl]; rfl) <| J_skip <| qx <| mv rfl rfl <| L_op <| xc fc181 (.cons rfl .nil) rfl (coRpTake (s := s) (u := (kCap s.sl T.root q.e.cap 7).1.obj) (c := c) PC hl) fun _ => ?_
  refine mv rfl rfl <| L_pur rfl (p_extract rfl rfl) <| L_pur rfl (p_extract rfl rfl) <| L_op <| x_alloc ty39 rfl fun b6 => L_op <| x_store rfl rfl ty39 rfl SM SM RO PT ?_
  refine J_pick (A := blk b6 _ _) PC ?_
  refine J_asTo (B := blk b6 39 (encI c.1)) (by rfl) <| ag rfl rfl <| nxx <| mv rfl rfl <| L_pur rfl (p_not rfl) <| nq ?_
  refine C_split rfl (fun h39 => ?_) (fun h39 => ?_)
  have n2 : c.2 = false := by simpa using h39
  have hkm : (kAnswers s T q.e) = ({ s with rp := updO s.rp (kCap s.sl T.root q.e.cap 7).1.obj (fun _ => ((0, 0), false)) }, 11) := by unfold kAnswers; rw [if_neg n1, hl]; dsimp only; rw [if_pos n2]
  refine sr <| L_op <| xc fc128 (.cons rfl .nil) rfl (failsC (by decide)) fun _ => L_op <| x_store rfl rfl ty247 rfl SM SM RO PT ?_
  refine nq <| J_ret <| Q_then_ret <| J_pick (A := coA p _) PC ?_
  refine J_asTo (B := coA p (kAnswers s T q.e).1) (by rw [hkm]; try rfl) <| J_pick (A := blk a _ _) PC ?_
  refine J_asTo (B := actA a p T q i) (by rfl) ?_
  refine J_return (()) Tryz.results123 (.cellA rfl ty247 HS CT .nil) ?_ ?_
  · rw [hkm]; rfl
  · exact SU
  have n2 : ¬ c.2 = false := by simpa using h39
  have hkm : (kAnswers s T q.e) = (kDec s.rt.length { s with rp := updO s.rp (kCap s.sl T.root q.e.cap 7).1.obj (fun _ => ((0, 0), false)) } c.1 0 q.e.a, 0) := by unfold kAnswers; rw [if_neg n1, hl]; dsimp only; rw [if_neg n2]
  refine J_skip <| Q_then <| J_seq <| J_drawT 11 mixed (by kernel_rfl) <| sm rfl rfl <| sp rfl (p_nilCheck rfl) <| sp rfl (p_fieldAddr rfl fa250_0) <| S_val rfl (v_load rfl ty25 HS (by exact rfl)) ?_
  refine S_val rfl (v_loadA rfl ty39 HS CT) ?_
  refine sm rfl rfl <| sp rfl (p_nilCheck rfl) <| sp rfl (p_fieldAddr rfl fa250_2) <| sp rfl (p_fieldAddr rfl fa104_1) <| sp rfl (p_fieldAddr rfl fa31_4) <| S_val rfl (v_load rfl ty22 HS (by exact rfl)) ?_
  refine S_nil <| L_op <| xc fc54 (.cons rfl (.cons rfl (.cons rfl (.cons rfl .nil)))) rfl (coDecide (s := { s with rp := updO s.rp (kCap s.sl T.root q.e.cap 7).1.obj (fun _ => ((0, 0), false)) }) (i := c.1) (r := 0) (v := q.e.a) PC (hF.rpF _ _)) fun _ => ?_
  refine nx <| L_pur rfl (bld247 .nil (by repeat constructor)) <| L_op <| x_store rfl rfl ty247 rfl SM SM RO PT ?_
  refine nq <| J_ret <| J_pick (A := coA p _) PC ?_
  refine J_asTo (B := coA p (kAnswers s T q.e).1) (by rw [hkm]; try rfl) <| J_pick (A := blk a _ _) PC ?_
  refine J_asTo (B := actA a p T q i) (by rfl) ?_
  refine J_return (()) Tryz.results123 (.cellA rfl ty247 HS CT .nil) ?_ ?_
  · rw [hkm]; rfl
  · exact SU
theorem bindsG {E : World} {l m : List As} {a p : Nat} {s : KS} {T : Th} {q : Rq} {i : ID} (hp : Picks [actA a p T q i, coA p s] l m) {u : Int} {b : Nat} {c : ID × Bool} {j : ID} (hl : look s.rp u = some (b, c)) {N M : Nat} (hF : Fits s N M) :
  Con Tryz.prog 179 #[.pointer (some ⟨a, 0, none⟩), .pointer (some ⟨b, 0, none⟩), .agg (encI j).toArray] E l (fun _ : Unit => .tuple #[]) (fun _ => actA a p T q i :: coA p (kBind s u j) :: m) := by
 refine Con.body (vs := [.pointer (some ⟨a, 0, none⟩), .pointer (some ⟨b, 0, none⟩), .agg (encI j).toArray]) (n := 21) Tryz.func179 rfl rfl [(0, .pointer (some ⟨a, 0, none⟩)), (1, .pointer (some ⟨b, 0, none⟩)), (2, .agg (encI j).toArray)] (env_ok 3 rfl) <| J_picks2 hp <| sr <| L_op <| x_box rfl rfl rfl fun b5 => nx <| mv rfl rfl <| L_val rfl (v_loadA rfl ty39 HS CT) ?_
 refine L_op <| xc fc242 (.cons rfl (.cons rfl .nil)) rfl (coRpBind (s := s) (u := u) (c := c) (i := j) PC hl) fun _ => ?_
 refine mv rfl rfl <| L_pur rfl (p_extract rfl rfl) <| L_pur rfl (p_extract rfl rfl) <| L_op <| x_alloc ty39 rfl fun b6 => L_op <| x_store rfl rfl ty39 rfl SM SM RO PT ?_
 refine ag rfl rfl <| nx <| mv rfl rfl <| nq ?_
 refine C_split rfl (fun h14 => ?_) (fun h14 => ?_)
 have hkb : kBind s u j = kDec s.rt.length { s with rp := updO s.rp u (fun _ => (j, true)) } c.1 (-9) 0 := by unfold kBind; rw [hl]; exact if_pos h14
 refine J_pick (A := actA a p T q i) PC ?_
 refine J_asTo (B := blk a 250 [.pointer (some ⟨p, 0, none⟩), .int .i64 T.unit, .int .i64 T.space, .int .i64 T.ring, .int .i64 T.root.kind, .int .i64 T.root.obj, .int .i64 T.root.size, .int .i64 T.root.badge, .int .i64 T.root.rights, .int .i64 q.id.1, .int .i64 q.id.2, .int .i64 q.e.op, .int .i64 q.e.flags, .int .u32 q.e.tag, .int .u32 q.e.cap, .int .u32 q.e.a, .int .u32 q.e.b, .int .u32 q.e.c, .int .u32 q.e.time, .int .i64 q.prev, .bool q.soft, .bool q.started, .int .i64 i.1, .int .i64 i.2]) (by rfl) <| J_drawT 5 mixed (by kernel_rfl) <| sm rfl rfl <| sp rfl (p_nilCheck rfl) <| sp rfl (p_fieldAddr rfl fa250_0) <| S_val rfl (v_load rfl ty25 HS (by exact rfl)) ?_
 refine S_val rfl (v_loadA rfl ty39 HS CT) ?_
 refine S_nil <| L_op <| xc fc54 (.cons rfl (.cons rfl (.cons rfl (.cons rfl .nil)))) rfl (coDecide (s := { s with rp := updO s.rp u (fun _ => (j, true)) }) (i := c.1) (r := -9) (v := 0) PC (hF.rpF _ _)) fun _ => ?_
 refine L_nil <| J_endnormal <| J_pick (A := coA p _) PC ?_
 refine J_asTo (B := coA p (kBind s u j)) (by rw [hkb]; try rfl) <| J_pick (A := blk a _ _) PC ?_
 refine J_asTo (B := actA a p T q i) (by rfl) ?_
 exact J_return (()) Tryz.results179 .nil rfl SU
 have hkb : kBind s u j = { s with rp := updO s.rp u (fun _ => (j, true)) } := by unfold kBind; rw [hl]; exact if_neg (by rw [h14]; decide)
 refine J_skip <| J_endnormal <| J_pick (A := coA p _) PC ?_
 refine J_asTo (B := coA p (kBind s u j)) (by rw [hkb]; try rfl) <| J_pick (A := actA a p T q i) PC ?_
 exact J_return (()) Tryz.results179 .nil rfl SU
theorem sendsG {E : World} {l m : List As} {a p : Nat} {s : KS} {T : Th} {q : Rq} {i : ID} (hp : Picks [actA a p T q i, coA p s] l m) {call : Bool} (hE : SqeOk q.e) {N M : Nat} (hF : Fits s N M) (hN : N + 1 ≤ 90000) :
    Con Tryz.prog 121 #[.pointer (some ⟨a, 0, none⟩), .bool call] E l (fun _ : Unit => encE (kSends s T q.e i call).2) (fun _ => actA a p T q i :: coA p (kSends s T q.e i call).1 :: m) := by
  refine Con.body (vs := [.pointer (some ⟨a, 0, none⟩), .bool call]) (n := 95) Tryz.func121 rfl rfl [(0, .pointer (some ⟨a, 0, none⟩)), (1, .bool call)] (env_ok 2 rfl) <| J_picks2 hp <| sr <| L_op <| x_alloc ty247 rfl fun b4 => nx <| ag rfl rfl <| nq ?_
  refine J_cut (α := Unit) (fun _ : Unit => blk b4 247 [.int .i64 0, .int .u32 0, .bool false] :: actA a p T q i :: coA p s :: m) (fun _ : Unit => [(5, .int .i64 (if call = true then (6 : Int) else 2)), (0, .pointer (some ⟨a, 0, none⟩)), (1, .bool call), (4, .pointer (some ⟨b4, 0, none⟩))]) ?_ ?_
  refine sr <| mv rfl rfl <| nq ?_
  refine C_split rfl (fun h12 => ?_) (fun h12 => ?_)
  refine J_region <| mv rfl rfl <| L_pur rfl (p_or rfl rfl) <| J_slot (t := 14) (v := .int .i64 6) rfl (by rfl) <| ag rfl rfl <| nq <| J_slot (t := 5) (v := .int .i64 (if call = true then (6 : Int) else 2)) rfl (by rw [h12]; rfl) ?_
  exact J_at (L := (fun _ : Unit => blk b4 247 [.int .i64 0, .int .u32 0, .bool false] :: actA a p T q i :: coA p s :: m)) (G := (fun _ : Unit => [(5, .int .i64 (if call = true then (6 : Int) else 2)), (0, .pointer (some ⟨a, 0, none⟩)), (1, .bool call), (4, .pointer (some ⟨b4, 0, none⟩))])) () SU KE
  refine J_skip <| Q_then <| J_slot (t := 5) (v := .int .i64 (if call = true then (6 : Int) else 2)) rfl (by rw [h12]; rfl) ?_
  exact J_at (L := (fun _ : Unit => blk b4 247 [.int .i64 0, .int .u32 0, .bool false] :: actA a p T q i :: coA p s :: m)) (G := (fun _ : Unit => [(5, .int .i64 (if call = true then (6 : Int) else 2)), (0, .pointer (some ⟨a, 0, none⟩)), (1, .bool call), (4, .pointer (some ⟨b4, 0, none⟩))])) () SU KE
  intro _
  refine sr <| mv rfl rfl <| mv rfl rfl <| L_op <| xc fc177 (.cons rfl (.cons rfl (.cons rfl .nil))) rfl (mayG (kind := 4) (r := (if call = true then (6 : Int) else 2)) PX hE) fun _ => ?_
  refine mv rfl rfl <| L_pur rfl (p_extract rfl rfl) <| L_pur rfl (p_extract rfl rfl) <| L_op <| x_alloc ty69 rfl fun b6 => L_op <| x_store rfl rfl ty69 rfl SM SM RO PT ?_
  refine ag rfl rfl <| nq <| J_seq <| J_pick (A := blk b6 _ _) PC ?_
  refine J_asTo (B := blk b6 69 (encC (mayS s T q.e 4 (if call = true then (6 : Int) else 2)).1)) (by rfl) <| J_pick (A := actA a p T q i) PC ?_
  refine J_asTo (B := blk a 250 [.pointer (some ⟨p, 0, none⟩), .int .i64 T.unit, .int .i64 T.space, .int .i64 T.ring, .int .i64 T.root.kind, .int .i64 T.root.obj, .int .i64 T.root.size, .int .i64 T.root.badge, .int .i64 T.root.rights, .int .i64 q.id.1, .int .i64 q.id.2, .int .i64 q.e.op, .int .i64 q.e.flags, .int .u32 q.e.tag, .int .u32 q.e.cap, .int .u32 q.e.a, .int .u32 q.e.b, .int .u32 q.e.c, .int .u32 q.e.time, .int .i64 q.prev, .bool q.soft, .bool q.started, .int .i64 i.1, .int .i64 i.2]) (by rfl) <| J_drawT 6 mixed (by kernel_rfl) <| sm rfl rfl <| sp rfl (p_nilCheck rfl) <| sp rfl (p_fieldAddr rfl fa250_0) <| S_val rfl (v_load rfl ty25 HS (by exact rfl)) ?_
  refine sp rfl (p_fieldAddr rfl fa69_1) <| S_val rfl (v_load rfl ty3 HS (by exact rfl)) ?_
  refine S_nil <| L_op <| xc fc27 (.cons rfl (.cons rfl .nil)) rfl (coEp (s := s) (u := (mayS s T q.e 4 (if call = true then (6 : Int) else 2)).1.obj) PC) fun _ => ?_
  refine J_slot (t := 27) (v := .pointer ((look (ptrs (KS.ep s)) (mayS s T q.e 4 (if call = true then (6 : Int) else 2)).1.obj).map fun b => ⟨b, 0, none⟩)) rfl rfl <| ag rfl rfl <| nq <| J_seq <| J_block <| sr <| mv rfl rfl <| L_pur rfl (p_neq rfl rfl) ?_
  refine ag rfl rfl <| nq ?_
  refine C_split rfl (fun h28 => ?_) (fun h28 => ?_)
  have hkm : (kSends s T q.e i call) = (s, failO (mayS s T q.e 4 (if call = true then (6 : Int) else 2)).2) := if_pos (by simpa using h28)
  refine sr <| mv rfl rfl <| L_op <| xc fc128 (.cons rfl .nil) rfl (failsC (n := (mayS s T q.e 4 (if call = true then (6 : Int) else 2)).2) (by have := mayS_code (s := s) (T := T) (e := q.e) (kind := 4) (r := (if call = true then (6 : Int) else 2)); omega)) fun _ => L_op <| x_store rfl rfl ty247 rfl SM SM RO PT ?_
  refine nq <| J_ret <| Q_blk_ret <| Q_then_ret <| J_pick (A := coA p _) PC ?_
  refine J_asTo (B := coA p (kSends s T q.e i call).1) (by rw [hkm]; try rfl) <| J_pick (A := blk a _ _) PC ?_
  refine J_asTo (B := actA a p T q i) (by rfl) ?_
  refine J_return (()) Tryz.results121 (.cellA rfl ty247 HS CT .nil) ?_ ?_
  · rw [hkm]; rfl
  · exact SU
  have n1 : ¬ (mayS s T q.e 4 (if call = true then (6 : Int) else 2)).2 ≠ 0 := by simpa using h28
  have e1 : (kSends s T q.e i call) = kSend1 s (mayS s T q.e 4 (if call = true then (6 : Int) else 2)).1 q.e i call := if_neg n1
  refine sr <| mv rfl rfl <| L_pur rfl (p_eqNilPtr Tryz.underlying57 rfl) <| ag rfl rfl <| nq ?_
  refine C_split rfl (fun h33 => ?_) (fun h33 => ?_)
  have hno : look (KS.ep s) (mayS s T q.e 4 (if call = true then (6 : Int) else 2)).1.obj = none := by
    cases hq : look (KS.ep s) (mayS s T q.e 4 (if call = true then (6 : Int) else 2)).1.obj with
    | none => rfl
    | some y => rw [look_ptrs, hq] at h33; simp at h33
  have hkm : (kSends s T q.e i call) = (s, failO 11) := by rw [e1]; unfold kSend1; rw [hno]
  refine sr <| L_op <| xc fc128 (.cons rfl .nil) rfl (failsC (by decide)) fun _ => L_op <| x_store rfl rfl ty247 rfl SM SM RO PT ?_
  refine nq <| J_ret <| Q_blk_ret <| Q_then_ret <| J_pick (A := coA p _) PC ?_
  refine J_asTo (B := coA p (kSends s T q.e i call).1) (by rw [hkm]; try rfl) <| J_pick (A := blk a _ _) PC ?_
  refine J_asTo (B := actA a p T q i) (by rfl) ?_
  refine J_return (()) Tryz.results121 (.cellA rfl ty247 HS CT .nil) ?_ ?_
  · rw [hkm]; rfl
  · exact SU
  obtain ⟨⟨bb, out, inn⟩, hl⟩ : ∃ x, look (KS.ep s) (mayS s T q.e 4 (if call = true then (6 : Int) else 2)).1.obj = some x := by
    cases hq : look (KS.ep s) (mayS s T q.e 4 (if call = true then (6 : Int) else 2)).1.obj with
    | none => rw [look_ptrs, hq] at h33; simp at h33
    | some y => exact ⟨y, rfl⟩
  refine J_slot (t := 8) (v := .pointer (some ⟨bb, 0, none⟩)) rfl (by rw [look_ptrs, hl]; rfl) ?_
  have hb3 := hF.ep _ (mem_look hl)
  dsimp only at hb3
  have hNN := hF.n
  have e2 : (kSends s T q.e i call) = kSend2 { s with ep := updO s.ep (mayS s T q.e 4 (if call = true then (6 : Int) else 2)).1.obj (sendE (i, q.e.a, (mayS s T q.e 4 (if call = true then (6 : Int) else 2)).1.badge, call)) } (mayS s T q.e 4 (if call = true then (6 : Int) else 2)).1 q.e i call inn := by rw [e1]; unfold kSend1; rw [hl]
  have hF1 : Fits { s with ep := updO s.ep (mayS s T q.e 4 (if call = true then (6 : Int) else 2)).1.obj (sendE (i, q.e.a, (mayS s T q.e 4 (if call = true then (6 : Int) else 2)).1.badge, call)) } (N + 1) M := hF.epF hN _ fun a => by have := sendE_len (i, q.e.a, (mayS s T q.e 4 (if call = true then (6 : Int) else 2)).1.badge, call) a; omega
  refine J_skip <| Q_blk_normal <| Q_then <| J_seq <| J_drawL (some 15) mixed <| ip 0 rfl rfl rfl rfl (p_move rfl) <| ip 1 rfl rfl rfl rfl (p_move rfl) <| ip 2 rfl rfl rfl rfl (p_nilCheck rfl) ?_
  refine ip 3 rfl rfl rfl rfl (p_fieldAddr rfl fa250_3) <| iv 4 rfl rfl rfl rfl (fun _ => v_loadA rfl ty39 HS CT) ?_
  refine ip 5 rfl rfl rfl rfl (p_move rfl) <| ip 6 rfl rfl rfl rfl (p_nilCheck rfl) <| ip 7 rfl rfl rfl rfl (p_fieldAddr rfl fa250_2) <| ip 8 rfl rfl rfl rfl (p_fieldAddr rfl fa104_1) <| ip 9 rfl rfl rfl rfl (p_fieldAddr rfl fa31_4) <| iv 10 rfl rfl rfl rfl (fun _ => v_load rfl ty22 HS (by exact rfl)) ?_
  refine ip 11 rfl rfl rfl rfl (p_fieldAddr rfl fa69_3) <| iv 12 rfl rfl rfl rfl (fun _ => v_load rfl ty3 HS (by exact rfl)) ?_
  refine ip 13 rfl rfl rfl rfl (p_move rfl) <| ip 14 rfl rfl rfl rfl (bld340 (.cons rfl (.cons rfl (.cons rfl (.cons rfl .nil)))) (by repeat constructor)) <| I_ready (rs := [15, 19]) SI (by kernel_rfl) (by simp) ?_
  refine (I_cons rfl ?_ (I_cons rfl ?_ I_nil))
  refine xc fc178 (.cons rfl (.cons rfl .nil)) rfl (coEpSendG (s := s) (u := (mayS s T q.e 4 (if call = true then (6 : Int) else 2)).1.obj) (out := out) (inn := inn) (z := (i, q.e.a, (mayS s T q.e 4 (if call = true then (6 : Int) else 2)).1.badge, call)) PC hl (by omega) (by omega)) fun _ => ?_
  refine ip 16 rfl rfl rfl rfl (p_move rfl) <| ip 17 rfl rfl rfl rfl (p_extract rfl rfl) <| ip 18 rfl rfl rfl rfl (p_extract rfl rfl) <| i1 19 rfl <| x_alloc ty176 rfl fun b9 => i1 20 rfl <| x_store rfl rfl ty176 rfl SM SM RO PT ?_
  refine ip 21 rfl rfl rfl rfl (p_assign rfl) <| i0 <| Q_then <| J_seq <| sr <| mv rfl rfl <| L_pur rfl (p_not rfl) <| nq ?_
  refine C_split rfl (fun h57 => ?_) (fun h57 => ?_)
  obtain rfl : inn = [] := by cases inn with | nil => rfl | cons y r => simp at h57
  have hkm : (kSends s T q.e i call) = ({ s with ep := updO s.ep (mayS s T q.e 4 (if call = true then (6 : Int) else 2)).1.obj (sendE (i, q.e.a, (mayS s T q.e 4 (if call = true then (6 : Int) else 2)).1.badge, call)) }, none) := by rw [e2]; rfl
  refine sr <| L_pur rfl (bld247 (.cons rfl .nil) (by repeat constructor)) <| L_op <| x_store rfl rfl ty247 rfl SM SM RO PT ?_
  refine nq <| J_ret <| Q_then_ret <| J_pick (A := coA p _) PC ?_
  refine J_asTo (B := coA p (kSends s T q.e i call).1) (by rw [hkm]; try rfl) <| J_pick (A := blk a _ _) PC ?_
  refine J_asTo (B := actA a p T q i) (by rfl) ?_
  refine J_return (()) Tryz.results121 (.cellA rfl ty247 HS CT .nil) ?_ ?_
  · rw [hkm]; rfl
  · exact SU
  obtain ⟨y, rr, rfl⟩ : ∃ y rr, inn = y :: rr := by cases inn with | nil => simp at h57 | cons y r => exact ⟨y, r, rfl⟩
  have e3 : (kSends s T q.e i call) = kSend3 (kDec s.rt.length { s with ep := updO s.ep (mayS s T q.e 4 (if call = true then (6 : Int) else 2)).1.obj (sendE (i, q.e.a, (mayS s T q.e 4 (if call = true then (6 : Int) else 2)).1.badge, call)) } y.1 (mayS s T q.e 4 (if call = true then (6 : Int) else 2)).1.badge q.e.a) y.2 i call := by rw [e2]; rfl
  refine J_pick (A := blk b9 _ _) PC ?_
  refine J_asTo (B := blk b9 176 (encR y)) (by rfl) <| J_skip <| Q_then <| J_seq <| J_drawT 14 mixed (by kernel_rfl) <| sm rfl rfl <| sp rfl (p_nilCheck rfl) <| sp rfl (p_fieldAddr rfl fa250_0) ?_
  refine S_val rfl (v_load rfl ty25 HS (by exact rfl)) ?_
  refine sp rfl (p_fieldAddr rfl fa176_0) <| S_val rfl (v_loadA rfl ty39 HS CT) ?_
  refine sp rfl (p_fieldAddr rfl fa69_3) <| S_val rfl (v_load rfl ty3 HS (by exact rfl)) ?_
  refine sm rfl rfl <| sp rfl (p_nilCheck rfl) <| sp rfl (p_fieldAddr rfl fa250_2) <| sp rfl (p_fieldAddr rfl fa104_1) <| sp rfl (p_fieldAddr rfl fa31_4) <| S_val rfl (v_load rfl ty22 HS (by exact rfl)) ?_
  refine S_nil <| L_op <| xc fc54 (.cons rfl (.cons rfl (.cons rfl (.cons rfl .nil)))) rfl (coDecide (s := { s with ep := updO s.ep (mayS s T q.e 4 (if call = true then (6 : Int) else 2)).1.obj (sendE (i, q.e.a, (mayS s T q.e 4 (if call = true then (6 : Int) else 2)).1.badge, call)) }) (i := y.1) (r := (mayS s T q.e 4 (if call = true then (6 : Int) else 2)).1.badge) (v := q.e.a) PC hF1) fun _ => ?_
  obtain ⟨S2, hS2⟩ : ∃ S2, S2 = (kDec s.rt.length { s with ep := updO s.ep (mayS s T q.e 4 (if call = true then (6 : Int) else 2)).1.obj (sendE (i, q.e.a, (mayS s T q.e 4 (if call = true then (6 : Int) else 2)).1.badge, call)) } y.1 (mayS s T q.e 4 (if call = true then (6 : Int) else 2)).1.badge q.e.a) := ⟨_, rfl⟩
  have hF2 : Fits S2 (N + 1) M := by rw [hS2]; exact (Fits.dec _ hF1).1
  refine J_pick (A := coA p _) PC ?_
  refine J_asTo (B := coA p S2) (by rw [hS2]; try rfl) ?_
  rw [← hS2] at e3
  refine nxx <| mv rfl rfl <| L_pur rfl (p_not rfl) <| nq ?_
  refine C_split rfl (fun h75 => ?_) (fun h75 => ?_)
  have hcl : call = false := by simpa using h75
  have hkm : (kSends s T q.e i call) = (S2, some (0, 0)) := by rw [e3]; exact if_pos hcl
  refine sr <| L_pur rfl (bld247 .nil (by repeat constructor)) <| L_op <| x_store rfl rfl ty247 rfl SM SM RO PT ?_
  refine nq <| J_ret <| Q_then_ret <| J_pick (A := coA p _) PC ?_
  refine J_asTo (B := coA p (kSends s T q.e i call).1) (by rw [hkm]; try rfl) <| J_pick (A := blk a _ _) PC ?_
  refine J_asTo (B := actA a p T q i) (by rfl) ?_
  refine J_return (()) Tryz.results121 (.cellA rfl ty247 HS CT .nil) ?_ ?_
  · rw [hkm]; rfl
  · exact SU
  have hcl : ¬ call = false := by simpa using h75
  refine J_skip <| Q_then <| J_seq <| J_drawT 6 mixed (by kernel_rfl) <| sm rfl rfl <| sp rfl (p_nilCheck rfl) <| sp rfl (p_fieldAddr rfl fa250_0) <| S_val rfl (v_load rfl ty25 HS (by exact rfl)) ?_
  refine sp rfl (p_fieldAddr rfl fa176_1) <| S_val rfl (v_load rfl ty3 HS (by exact rfl)) ?_
  refine S_nil <| L_op <| xc fc20 (.cons rfl (.cons rfl .nil)) rfl (coReply (s := S2) (u := y.2) PC) fun _ => ?_
  refine J_slot (t := 83) (v := .pointer ((look (ptrs S2.rp) y.2).map fun b => ⟨b, 0, none⟩)) rfl rfl <| ag rfl rfl <| nxx <| mv rfl rfl <| L_pur rfl (p_eqNilPtr Tryz.underlying42 rfl) <| nq ?_
  refine C_split rfl (fun h85 => ?_) (fun h85 => ?_)
  have hno : look (KS.rp S2) y.2 = none := by
    cases hq : look (KS.rp S2) y.2 with
    | none => rfl
    | some y => rw [look_ptrs, hq] at h85; simp at h85
  have hkm : (kSends s T q.e i call) = (S2, failO 11) := by rw [e3]; unfold kSend3; rw [if_neg hcl, hno]
  refine sr <| L_op <| xc fc128 (.cons rfl .nil) rfl (failsC (by decide)) fun _ => L_op <| x_store rfl rfl ty247 rfl SM SM RO PT ?_
  refine nq <| J_ret <| Q_then_ret <| J_pick (A := coA p _) PC ?_
  refine J_asTo (B := coA p (kSends s T q.e i call).1) (by rw [hkm]; try rfl) <| J_pick (A := blk a _ _) PC ?_
  refine J_asTo (B := actA a p T q i) (by rfl) ?_
  refine J_return (()) Tryz.results121 (.cellA rfl ty247 HS CT .nil) ?_ ?_
  · rw [hkm]; rfl
  · exact SU
  obtain ⟨⟨b2, c2⟩, hl2⟩ : ∃ x, look (KS.rp S2) y.2 = some x := by
    cases hq : look (KS.rp S2) y.2 with
    | none => rw [look_ptrs, hq] at h85; simp at h85
    | some y => exact ⟨y, rfl⟩
  refine J_slot (t := 11) (v := .pointer (some ⟨b2, 0, none⟩)) rfl (by rw [look_ptrs, hl2]; rfl) ?_
  have hkm : (kSends s T q.e i call) = (kBind S2 y.2 i, none) := by rw [e3]; unfold kSend3; rw [if_neg hcl, hl2]
  refine J_skip <| qx <| mv rfl rfl <| mv rfl rfl <| mv rfl rfl <| nc rfl rfl <| fa rfl rfl fa250_3 <| L_val rfl (v_loadA rfl ty39 HS CT) ?_
  refine J_pick (A := blk a _ _) PC ?_
  refine J_asTo (B := actA a p T q i) (by rfl) <| L_op <| xc fc179 (.cons rfl (.cons rfl (.cons rfl .nil))) rfl (bindsG (s := S2) (u := y.2) (b := b2) (c := c2) (j := i) PX hl2 hF2) fun _ => ?_
  refine nx <| L_pur rfl (bld247 (.cons rfl .nil) (by repeat constructor)) <| L_op <| x_store rfl rfl ty247 rfl SM SM RO PT ?_
  refine nq <| J_ret <| J_pick (A := coA p _) PC ?_
  refine J_asTo (B := coA p (kSends s T q.e i call).1) (by rw [hkm]; try rfl) <| J_pick (A := actA a p T q i) PC ?_
  refine J_return (()) Tryz.results121 (.cellA rfl ty247 HS CT .nil) ?_ ?_
  · rw [hkm]; rfl
  · exact SU
  refine x_alloc ty176 rfl fun b9 => i1 15 rfl <| xc fc178 (.cons rfl (.cons rfl .nil)) rfl (coEpSendG (s := s) (u := (mayS s T q.e 4 (if call = true then (6 : Int) else 2)).1.obj) (out := out) (inn := inn) (z := (i, q.e.a, (mayS s T q.e 4 (if call = true then (6 : Int) else 2)).1.badge, call)) PC hl (by omega) (by omega)) fun _ => ?_
  refine ip 16 rfl rfl rfl rfl (p_move rfl) <| ip 17 rfl rfl rfl rfl (p_extract rfl rfl) <| ip 18 rfl rfl rfl rfl (p_extract rfl rfl) <| i1 20 rfl <| x_store rfl rfl ty176 rfl SM SM RO PT ?_
  refine ip 21 rfl rfl rfl rfl (p_assign rfl) <| i0 <| Q_then <| J_seq <| sr <| mv rfl rfl <| L_pur rfl (p_not rfl) <| nq ?_
  refine C_split rfl (fun h57 => ?_) (fun h57 => ?_)
  obtain rfl : inn = [] := by cases inn with | nil => rfl | cons y r => simp at h57
  have hkm : (kSends s T q.e i call) = ({ s with ep := updO s.ep (mayS s T q.e 4 (if call = true then (6 : Int) else 2)).1.obj (sendE (i, q.e.a, (mayS s T q.e 4 (if call = true then (6 : Int) else 2)).1.badge, call)) }, none) := by rw [e2]; rfl
  refine sr <| L_pur rfl (bld247 (.cons rfl .nil) (by repeat constructor)) <| L_op <| x_store rfl rfl ty247 rfl SM SM RO PT ?_
  refine nq <| J_ret <| Q_then_ret <| J_pick (A := coA p _) PC ?_
  refine J_asTo (B := coA p (kSends s T q.e i call).1) (by rw [hkm]; try rfl) <| J_pick (A := blk a _ _) PC ?_
  refine J_asTo (B := actA a p T q i) (by rfl) ?_
  refine J_return (()) Tryz.results121 (.cellA rfl ty247 HS CT .nil) ?_ ?_
  · rw [hkm]; rfl
  · exact SU
  obtain ⟨y, rr, rfl⟩ : ∃ y rr, inn = y :: rr := by cases inn with | nil => simp at h57 | cons y r => exact ⟨y, r, rfl⟩
  have e3 : (kSends s T q.e i call) = kSend3 (kDec s.rt.length { s with ep := updO s.ep (mayS s T q.e 4 (if call = true then (6 : Int) else 2)).1.obj (sendE (i, q.e.a, (mayS s T q.e 4 (if call = true then (6 : Int) else 2)).1.badge, call)) } y.1 (mayS s T q.e 4 (if call = true then (6 : Int) else 2)).1.badge q.e.a) y.2 i call := by rw [e2]; rfl
  refine J_pick (A := blk b9 _ _) PC ?_
  refine J_asTo (B := blk b9 176 (encR y)) (by rfl) <| J_skip <| Q_then <| J_seq <| J_drawT 14 mixed (by kernel_rfl) <| sm rfl rfl <| sp rfl (p_nilCheck rfl) <| sp rfl (p_fieldAddr rfl fa250_0) ?_
  refine S_val rfl (v_load rfl ty25 HS (by exact rfl)) ?_
  refine sp rfl (p_fieldAddr rfl fa176_0) <| S_val rfl (v_loadA rfl ty39 HS CT) ?_
  refine sp rfl (p_fieldAddr rfl fa69_3) <| S_val rfl (v_load rfl ty3 HS (by exact rfl)) ?_
  refine sm rfl rfl <| sp rfl (p_nilCheck rfl) <| sp rfl (p_fieldAddr rfl fa250_2) <| sp rfl (p_fieldAddr rfl fa104_1) <| sp rfl (p_fieldAddr rfl fa31_4) <| S_val rfl (v_load rfl ty22 HS (by exact rfl)) ?_
  refine S_nil <| L_op <| xc fc54 (.cons rfl (.cons rfl (.cons rfl (.cons rfl .nil)))) rfl (coDecide (s := { s with ep := updO s.ep (mayS s T q.e 4 (if call = true then (6 : Int) else 2)).1.obj (sendE (i, q.e.a, (mayS s T q.e 4 (if call = true then (6 : Int) else 2)).1.badge, call)) }) (i := y.1) (r := (mayS s T q.e 4 (if call = true then (6 : Int) else 2)).1.badge) (v := q.e.a) PC hF1) fun _ => ?_
  obtain ⟨S2, hS2⟩ : ∃ S2, S2 = (kDec s.rt.length { s with ep := updO s.ep (mayS s T q.e 4 (if call = true then (6 : Int) else 2)).1.obj (sendE (i, q.e.a, (mayS s T q.e 4 (if call = true then (6 : Int) else 2)).1.badge, call)) } y.1 (mayS s T q.e 4 (if call = true then (6 : Int) else 2)).1.badge q.e.a) := ⟨_, rfl⟩
  have hF2 : Fits S2 (N + 1) M := by rw [hS2]; exact (Fits.dec _ hF1).1
  refine J_pick (A := coA p _) PC ?_
  refine J_asTo (B := coA p S2) (by rw [hS2]; try rfl) ?_
  rw [← hS2] at e3
  refine nxx <| mv rfl rfl <| L_pur rfl (p_not rfl) <| nq ?_
  refine C_split rfl (fun h75 => ?_) (fun h75 => ?_)
  have hcl : call = false := by simpa using h75
  have hkm : (kSends s T q.e i call) = (S2, some (0, 0)) := by rw [e3]; exact if_pos hcl
  refine sr <| L_pur rfl (bld247 .nil (by repeat constructor)) <| L_op <| x_store rfl rfl ty247 rfl SM SM RO PT ?_
  refine nq <| J_ret <| Q_then_ret <| J_pick (A := coA p _) PC ?_
  refine J_asTo (B := coA p (kSends s T q.e i call).1) (by rw [hkm]; try rfl) <| J_pick (A := blk a _ _) PC ?_
  refine J_asTo (B := actA a p T q i) (by rfl) ?_
  refine J_return (()) Tryz.results121 (.cellA rfl ty247 HS CT .nil) ?_ ?_
  · rw [hkm]; rfl
  · exact SU
  have hcl : ¬ call = false := by simpa using h75
  refine J_skip <| Q_then <| J_seq <| J_drawT 6 mixed (by kernel_rfl) <| sm rfl rfl <| sp rfl (p_nilCheck rfl) <| sp rfl (p_fieldAddr rfl fa250_0) <| S_val rfl (v_load rfl ty25 HS (by exact rfl)) ?_
  refine sp rfl (p_fieldAddr rfl fa176_1) <| S_val rfl (v_load rfl ty3 HS (by exact rfl)) ?_
  refine S_nil <| L_op <| xc fc20 (.cons rfl (.cons rfl .nil)) rfl (coReply (s := S2) (u := y.2) PC) fun _ => ?_
  refine J_slot (t := 83) (v := .pointer ((look (ptrs S2.rp) y.2).map fun b => ⟨b, 0, none⟩)) rfl rfl <| ag rfl rfl <| nxx <| mv rfl rfl <| L_pur rfl (p_eqNilPtr Tryz.underlying42 rfl) <| nq ?_
  refine C_split rfl (fun h85 => ?_) (fun h85 => ?_)
  have hno : look (KS.rp S2) y.2 = none := by
    cases hq : look (KS.rp S2) y.2 with
    | none => rfl
    | some y => rw [look_ptrs, hq] at h85; simp at h85
  have hkm : (kSends s T q.e i call) = (S2, failO 11) := by rw [e3]; unfold kSend3; rw [if_neg hcl, hno]
  refine sr <| L_op <| xc fc128 (.cons rfl .nil) rfl (failsC (by decide)) fun _ => L_op <| x_store rfl rfl ty247 rfl SM SM RO PT ?_
  refine nq <| J_ret <| Q_then_ret <| J_pick (A := coA p _) PC ?_
  refine J_asTo (B := coA p (kSends s T q.e i call).1) (by rw [hkm]; try rfl) <| J_pick (A := blk a _ _) PC ?_
  refine J_asTo (B := actA a p T q i) (by rfl) ?_
  refine J_return (()) Tryz.results121 (.cellA rfl ty247 HS CT .nil) ?_ ?_
  · rw [hkm]; rfl
  · exact SU
  obtain ⟨⟨b2, c2⟩, hl2⟩ : ∃ x, look (KS.rp S2) y.2 = some x := by
    cases hq : look (KS.rp S2) y.2 with
    | none => rw [look_ptrs, hq] at h85; simp at h85
    | some y => exact ⟨y, rfl⟩
  refine J_slot (t := 11) (v := .pointer (some ⟨b2, 0, none⟩)) rfl (by rw [look_ptrs, hl2]; rfl) ?_
  have hkm : (kSends s T q.e i call) = (kBind S2 y.2 i, none) := by rw [e3]; unfold kSend3; rw [if_neg hcl, hl2]
  refine J_skip <| qx <| mv rfl rfl <| mv rfl rfl <| mv rfl rfl <| nc rfl rfl <| fa rfl rfl fa250_3 <| L_val rfl (v_loadA rfl ty39 HS CT) ?_
  refine J_pick (A := blk a _ _) PC ?_
  refine J_asTo (B := actA a p T q i) (by rfl) <| L_op <| xc fc179 (.cons rfl (.cons rfl (.cons rfl .nil))) rfl (bindsG (s := S2) (u := y.2) (b := b2) (c := c2) (j := i) PX hl2 hF2) fun _ => ?_
  refine nx <| L_pur rfl (bld247 (.cons rfl .nil) (by repeat constructor)) <| L_op <| x_store rfl rfl ty247 rfl SM SM RO PT ?_
  refine nq <| J_ret <| J_pick (A := coA p _) PC ?_
  refine J_asTo (B := coA p (kSends s T q.e i call).1) (by rw [hkm]; try rfl) <| J_pick (A := actA a p T q i) PC ?_
  refine J_return (()) Tryz.results121 (.cellA rfl ty247 HS CT .nil) ?_ ?_
  · rw [hkm]; rfl
  · exact SU
end Go.Pse
namespace Go.Pse
open Go.RowKit Go.Proofs
theorem recvsG {E : World} {l m : List As} {a p : Nat} {s : KS} {T : Th} {q : Rq} {i : ID} (hp : Picks [actA a p T q i, coA p s] l m) (hE : SqeOk q.e) {N M : Nat} (hF : Fits s N M) (hN : N + 1 ≤ 90000) :
    Con Tryz.prog 122 #[.pointer (some ⟨a, 0, none⟩)] E l (fun _ : Unit => encE (kRecvs s T q.e i).2) (fun _ => actA a p T q i :: coA p (kRecvs s T q.e i).1 :: m) := by
  refine Con.body (vs := [.pointer (some ⟨a, 0, none⟩)]) (n := 109) Tryz.func122 rfl rfl [(0, .pointer (some ⟨a, 0, none⟩))] (env_ok 1 rfl) <| J_picks2 hp <| sr <| L_op <| x_alloc ty247 rfl fun b2 => nx <| mv rfl rfl <| L_op <| xc fc177 (.cons rfl (.cons rfl (.cons rfl .nil))) rfl (mayG (kind := 4) (r := 1) PX hE) fun _ => ?_
  refine mv rfl rfl <| L_pur rfl (p_extract rfl rfl) <| L_pur rfl (p_extract rfl rfl) <| L_op <| x_alloc ty69 rfl fun b3 => L_op <| x_store rfl rfl ty69 rfl SM SM RO PT ?_
  refine ag rfl rfl <| nq <| J_seq <| J_seq <| J_pick (A := blk b3 _ _) PC ?_
  refine J_asTo (B := blk b3 69 (encC (mayS s T q.e 4 1).1)) (by rfl) <| J_region <| mv rfl rfl <| L_pur rfl (p_neq rfl rfl) <| nq ?_
  refine C_split rfl (fun h18 => ?_) (fun h18 => ?_)
  have hkm : (kRecvs s T q.e i) = (s, failO (mayS s T q.e 4 1).2) := if_pos (by simpa using h18)
  refine sr <| mv rfl rfl <| L_op <| xc fc128 (.cons rfl .nil) rfl (failsC (n := (mayS s T q.e 4 1).2) (by have := mayS_code (s := s) (T := T) (e := q.e) (kind := 4) (r := 1); omega)) fun _ => L_op <| x_store rfl rfl ty247 rfl SM SM RO PT ?_
  refine nq <| J_ret <| Q_then_ret <| J_pick (A := coA p _) PC ?_
  refine J_asTo (B := coA p (kRecvs s T q.e i).1) (by rw [hkm]; try rfl) <| J_pick (A := actA a p T q i) PC ?_
  refine J_return (()) Tryz.results122 (.cellA rfl ty247 HS CT .nil) ?_ ?_
  · rw [hkm]; rfl
  · exact SU
  have n1 : ¬ (mayS s T q.e 4 1).2 ≠ 0 := by simpa using h18
  refine J_skip <| qx <| ag rfl rfl <| nq ?_
  refine J_cut (α := Int) (fun U : Int => As.pure ((kRecvs s T q.e i) = kRecv1 s (mayS s T q.e 4 1).1 U i) :: blk b3 69 (encC (mayS s T q.e 4 1).1) :: blk b2 247 [.int .i64 0, .int .u32 0, .bool false] :: actA a p T q i :: coA p s :: m) (fun U : Int => [(5, .int .i64 U), (0, .pointer (some ⟨a, 0, none⟩)), (2, .pointer (some ⟨b2, 0, none⟩)), (3, .pointer (some ⟨b3, 0, none⟩))]) ?_ ?_
  refine J_seq <| J_pick (A := actA a p T q i) PC ?_
  refine J_asTo (B := blk a 250 [.pointer (some ⟨p, 0, none⟩), .int .i64 T.unit, .int .i64 T.space, .int .i64 T.ring, .int .i64 T.root.kind, .int .i64 T.root.obj, .int .i64 T.root.size, .int .i64 T.root.badge, .int .i64 T.root.rights, .int .i64 q.id.1, .int .i64 q.id.2, .int .i64 q.e.op, .int .i64 q.e.flags, .int .u32 q.e.tag, .int .u32 q.e.cap, .int .u32 q.e.a, .int .u32 q.e.b, .int .u32 q.e.c, .int .u32 q.e.time, .int .i64 q.prev, .bool q.soft, .bool q.started, .int .i64 i.1, .int .i64 i.2]) (by rfl) <| J_region <| mv rfl rfl <| nc rfl rfl <| fa rfl rfl fa250_2 <| fa rfl rfl fa104_1 <| fa rfl rfl fa31_5 <| L_val rfl (v_load rfl ty22 HS (by exact rfl)) ?_
  refine L_pur rfl (p_neq rfl rfl) <| nq ?_
  refine C_split rfl (fun h27 => ?_) (fun h27 => ?_)
  have n2 : q.e.b ≠ 0 := by simpa using h27
  refine sr <| mv rfl rfl <| mv rfl rfl <| nc rfl rfl <| fa rfl rfl fa250_2 <| fa rfl rfl fa104_1 <| fa rfl rfl fa31_5 <| L_val rfl (v_load rfl ty22 HS (by exact rfl)) ?_
  refine J_pick (A := blk a _ _) PC ?_
  refine J_asTo (B := actA a p T q i) (by rfl) <| L_op <| xc fc174 (.cons rfl (.cons rfl (.cons rfl .nil))) rfl (foundG (a_ := q.e.b) (kind := 7) PX hE.b) fun _ => ?_
  refine mv rfl rfl <| L_pur rfl (p_extract rfl rfl) <| L_pur rfl (p_extract rfl rfl) <| L_op <| x_alloc ty69 rfl fun b6 => L_op <| x_store rfl rfl ty69 rfl SM SM RO PT ?_
  refine ag rfl rfl <| nq <| J_seq <| J_seq <| J_pick (A := blk b6 _ _) PC ?_
  refine J_asTo (B := blk b6 69 (encC (kCap s.sl T.root q.e.b 7).1)) (by rfl) <| J_region <| mv rfl rfl <| L_pur rfl (p_neq rfl rfl) <| nq ?_
  refine C_split rfl (fun h40 => ?_) (fun h40 => ?_)
  have hkm : (kRecvs s T q.e i) = (s, failO (kCap s.sl T.root q.e.b 7).2.2) := by unfold kRecvs; rw [if_neg n1, if_pos n2, if_pos (by simpa using h40)]
  refine sr <| mv rfl rfl <| L_op <| xc fc128 (.cons rfl .nil) rfl (failsC (n := (kCap s.sl T.root q.e.b 7).2.2) (by have := kCap_code (sl := s.sl) (root := T.root) (a := q.e.b) (kind := 7); omega)) fun _ => L_op <| x_store rfl rfl ty247 rfl SM SM RO PT ?_
  refine nq <| J_ret <| Q_then_ret <| Q_then_ret <| J_pick (A := coA p _) PC ?_
  refine J_asTo (B := coA p (kRecvs s T q.e i).1) (by rw [hkm]; try rfl) <| J_pick (A := actA a p T q i) PC ?_
  refine J_return (()) Tryz.results122 (.cellA rfl ty247 HS CT .nil) ?_ ?_
  · rw [hkm]; rfl
  · exact SU
  have n3 : ¬ (kCap s.sl T.root q.e.b 7).2.2 ≠ 0 := by simpa using h40
  refine J_skip <| qr <| fa rfl rfl fa69_1 <| L_val rfl (v_load rfl ty3 HS (by exact rfl)) ?_
  refine ag rfl rfl <| nq <| J_pure_in (p := (kRecvs s T q.e i) = kRecv1 s (mayS s T q.e 4 1).1 (kCap s.sl T.root q.e.b 7).1.obj i) (by unfold kRecvs; rw [if_neg n1, if_pos n2, if_neg n3]) ?_
  exact J_at (L := (fun U : Int => As.pure ((kRecvs s T q.e i) = kRecv1 s (mayS s T q.e 4 1).1 U i) :: blk b3 69 (encC (mayS s T q.e 4 1).1) :: blk b2 247 [.int .i64 0, .int .u32 0, .bool false] :: actA a p T q i :: coA p s :: m)) (G := (fun U : Int => [(5, .int .i64 U), (0, .pointer (some ⟨a, 0, none⟩)), (2, .pointer (some ⟨b2, 0, none⟩)), (3, .pointer (some ⟨b3, 0, none⟩))])) ((kCap s.sl T.root q.e.b 7).1.obj) SU KE
  have n2 : ¬ q.e.b ≠ 0 := by simpa using h27
  refine J_skip <| Q_then <| J_pure_in (p := (kRecvs s T q.e i) = kRecv1 s (mayS s T q.e 4 1).1 0 i) (by unfold kRecvs; rw [if_neg n1, if_neg n2]) <| J_pick (A := blk a _ _) PC ?_
  refine J_asTo (B := actA a p T q i) (by rfl) ?_
  exact J_at (L := (fun U : Int => As.pure ((kRecvs s T q.e i) = kRecv1 s (mayS s T q.e 4 1).1 U i) :: blk b3 69 (encC (mayS s T q.e 4 1).1) :: blk b2 247 [.int .i64 0, .int .u32 0, .bool false] :: actA a p T q i :: coA p s :: m)) (G := (fun U : Int => [(5, .int .i64 U), (0, .pointer (some ⟨a, 0, none⟩)), (2, .pointer (some ⟨b2, 0, none⟩)), (3, .pointer (some ⟨b3, 0, none⟩))])) 0 SU KE
  intro U
  refine J_pure fun e1 => J_pick (A := actA a p T q i) PC ?_
  refine J_asTo (B := blk a 250 [.pointer (some ⟨p, 0, none⟩), .int .i64 T.unit, .int .i64 T.space, .int .i64 T.ring, .int .i64 T.root.kind, .int .i64 T.root.obj, .int .i64 T.root.size, .int .i64 T.root.badge, .int .i64 T.root.rights, .int .i64 q.id.1, .int .i64 q.id.2, .int .i64 q.e.op, .int .i64 q.e.flags, .int .u32 q.e.tag, .int .u32 q.e.cap, .int .u32 q.e.a, .int .u32 q.e.b, .int .u32 q.e.c, .int .u32 q.e.time, .int .i64 q.prev, .bool q.soft, .bool q.started, .int .i64 i.1, .int .i64 i.2]) (by rfl) <| J_seq <| J_drawT 6 mixed (by kernel_rfl) <| sm rfl rfl <| sp rfl (p_nilCheck rfl) <| sp rfl (p_fieldAddr rfl fa250_0) <| S_val rfl (v_load rfl ty25 HS (by exact rfl)) ?_
  refine sp rfl (p_fieldAddr rfl fa69_1) <| S_val rfl (v_load rfl ty3 HS (by exact rfl)) ?_
  refine S_nil <| L_op <| xc fc27 (.cons rfl (.cons rfl .nil)) rfl (coEp (s := s) (u := (mayS s T q.e 4 1).1.obj) PC) fun _ => ?_
  refine J_slot (t := 51) (v := .pointer ((look (ptrs (KS.ep s)) (mayS s T q.e 4 1).1.obj).map fun b => ⟨b, 0, none⟩)) rfl rfl <| ag rfl rfl <| nxx <| mv rfl rfl <| L_pur rfl (p_eqNilPtr Tryz.underlying57 rfl) <| nq ?_
  refine C_split rfl (fun h53 => ?_) (fun h53 => ?_)
  have hno : look (KS.ep s) (mayS s T q.e 4 1).1.obj = none := by
    cases hq : look (KS.ep s) (mayS s T q.e 4 1).1.obj with
    | none => rfl
    | some y => rw [look_ptrs, hq] at h53; simp at h53
  have hkm : (kRecvs s T q.e i) = (s, failO 11) := by rw [e1]; unfold kRecv1; rw [hno]
  refine sr <| L_op <| xc fc128 (.cons rfl .nil) rfl (failsC (by decide)) fun _ => L_op <| x_store rfl rfl ty247 rfl SM SM RO PT ?_
  refine nq <| J_ret <| Q_then_ret <| J_pick (A := coA p _) PC ?_
  refine J_asTo (B := coA p (kRecvs s T q.e i).1) (by rw [hkm]; try rfl) <| J_pick (A := blk a _ _) PC ?_
  refine J_asTo (B := actA a p T q i) (by rfl) ?_
  refine J_return (()) Tryz.results122 (.cellA rfl ty247 HS CT .nil) ?_ ?_
  · rw [hkm]; rfl
  · exact SU
  obtain ⟨⟨bb, out, inn⟩, hl⟩ : ∃ x, look (KS.ep s) (mayS s T q.e 4 1).1.obj = some x := by
    cases hq : look (KS.ep s) (mayS s T q.e 4 1).1.obj with
    | none => rw [look_ptrs, hq] at h53; simp at h53
    | some y => exact ⟨y, rfl⟩
  refine J_slot (t := 8) (v := .pointer (some ⟨bb, 0, none⟩)) rfl (by rw [look_ptrs, hl]; rfl) ?_
  have hb3 := hF.ep _ (mem_look hl)
  dsimp only at hb3
  have hNN := hF.n
  have e2 : (kRecvs s T q.e i) = kRecv2 { s with ep := updO s.ep (mayS s T q.e 4 1).1.obj (recvE (i, U)) } U out := by rw [e1]; unfold kRecv1; rw [hl]
  have hF1 : Fits { s with ep := updO s.ep (mayS s T q.e 4 1).1.obj (recvE (i, U)) } (N + 1) M := hF.epF hN _ fun a => by have := recvE_len (i, U) a; omega
  refine J_skip <| qx <| mv rfl rfl <| mv rfl rfl <| nc rfl rfl <| fa rfl rfl fa250_3 <| L_val rfl (v_loadA rfl ty39 HS CT) ?_
  refine mv rfl rfl <| L_pur rfl (bld176 (.cons rfl (.cons rfl .nil)) (by repeat constructor)) <| J_slot (t := 62) (v := .agg (encR (i, U)).toArray) rfl rfl <| L_op <| xc fc180 (.cons rfl (.cons rfl .nil)) rfl (coEpRecvG (s := s) (u := (mayS s T q.e 4 1).1.obj) (out := out) (inn := inn) (y := (i, U)) PC hl (by omega) (by omega)) fun _ => ?_
  refine mv rfl rfl <| L_pur rfl (p_extract rfl rfl) <| L_pur rfl (p_extract rfl rfl) <| L_op <| x_alloc ty340 rfl fun b9 => L_op <| x_store rfl rfl ty340 rfl SM SM RO PT ?_
  refine ag rfl rfl <| nxx <| mv rfl rfl <| L_pur rfl (p_not rfl) <| nq ?_
  refine C_split rfl (fun h67 => ?_) (fun h67 => ?_)
  obtain rfl : out = [] := by cases out with | nil => rfl | cons y r => simp at h67
  have hkm : (kRecvs s T q.e i) = ({ s with ep := updO s.ep (mayS s T q.e 4 1).1.obj (recvE (i, U)) }, none) := by rw [e2]; rfl
  refine sr <| L_pur rfl (bld247 (.cons rfl .nil) (by repeat constructor)) <| L_op <| x_store rfl rfl ty247 rfl SM SM RO PT ?_
  refine nq <| J_ret <| Q_then_ret <| J_pick (A := coA p _) PC ?_
  refine J_asTo (B := coA p (kRecvs s T q.e i).1) (by rw [hkm]; try rfl) <| J_pick (A := blk a _ _) PC ?_
  refine J_asTo (B := actA a p T q i) (by rfl) ?_
  refine J_return (()) Tryz.results122 (.cellA rfl ty247 HS CT .nil) ?_ ?_
  · rw [hkm]; rfl
  · exact SU
  obtain ⟨x, rr, rfl⟩ : ∃ y rr, out = y :: rr := by cases out with | nil => simp at h67 | cons y r => exact ⟨y, r, rfl⟩
  obtain ⟨S1, hS1⟩ : ∃ S1, S1 = { s with ep := updO s.ep (mayS s T q.e 4 1).1.obj (recvE (i, U)) } := ⟨_, rfl⟩
  have e3 : (kRecvs s T q.e i) = (kMet S1 U x, some (x.2.2.1, x.2.1)) := by rw [e2, hS1]; rfl
  rw [← hS1] at hF1
  refine J_pick (A := blk b9 _ _) PC ?_
  refine J_asTo (B := blk b9 340 (encM x)) (by rfl) <| J_pick (A := coA p _) PC ?_
  refine J_asTo (B := coA p S1) (by rw [hS1]) <| J_skip <| qx <| mv rfl rfl <| nc rfl rfl <| fa rfl rfl fa250_0 <| L_val rfl (v_load rfl ty25 HS (by exact rfl)) ?_
  refine mv rfl rfl <| L_op <| xc fc20 (.cons rfl (.cons rfl .nil)) rfl (coReply (s := S1) (u := U) PC) fun _ => ?_
  refine J_slot (t := 74) (v := .pointer ((look (ptrs S1.rp) U).map fun b => ⟨b, 0, none⟩)) rfl rfl <| ag rfl rfl <| nq <| J_seq <| J_block <| sr <| fa rfl rfl fa340_3 <| L_val rfl (v_load rfl ty4 HS (by exact rfl)) ?_
  refine mv rfl rfl ?_
  refine J_gsplit (t := 85) rfl (fun h85 => ?_) (fun h85 => ?_)
  have n4 : x.2.2.2 = true := h85
  refine L_op <| G_on rfl rfl rfl <| J_pur (p_move rfl) rfl rfl rfl <| L_op <| G_on rfl rfl rfl <| J_pur (p_neNilPtr Tryz.underlying42 rfl) rfl rfl rfl <| L_pur rfl (p_pick_t rfl rfl) <| ag rfl rfl ?_
  refine nq ?_
  refine C_split rfl (fun h82 => ?_) (fun h82 => ?_)
  obtain ⟨⟨b2_, c2⟩, hl2⟩ : ∃ x, look (KS.rp S1) U = some x := by
    cases hq : look (KS.rp S1) U with
    | none => rw [look_ptrs, hq] at h82; simp at h82
    | some y => exact ⟨y, rfl⟩
  refine J_slot (t := 11) (v := .pointer (some ⟨b2_, 0, none⟩)) rfl (by rw [look_ptrs, hl2]; rfl) ?_
  have hkm : (kRecvs s T q.e i) = (kBind S1 U x.1, some (x.2.2.1, x.2.1)) := by rw [e3]; unfold kMet; rw [if_pos n4, hl2]
  refine J_region <| mv rfl rfl <| mv rfl rfl <| fa rfl rfl fa340_0 <| L_val rfl (v_loadA rfl ty39 HS CT) ?_
  refine J_pick (A := blk a _ _) PC ?_
  refine J_asTo (B := actA a p T q i) (by rfl) <| L_op <| xc fc179 (.cons rfl (.cons rfl (.cons rfl .nil))) rfl (bindsG (s := S1) (u := U) (b := b2_) (c := c2) (j := x.1) PX hl2 hF1) fun _ => ?_
  refine L_nil <| Q_blk_normal <| qx <| fa rfl rfl fa340_2 <| L_val rfl (v_load rfl ty3 HS (by exact rfl)) ?_
  refine fa rfl rfl fa340_1 <| L_val rfl (v_load rfl ty22 HS (by exact rfl)) ?_
  refine L_pur rfl (bld247 (.cons rfl (.cons rfl .nil)) (by repeat constructor)) <| L_op <| x_store rfl rfl ty247 rfl SM SM RO PT ?_
  refine nq <| J_ret <| J_pick (A := coA p _) PC ?_
  refine J_asTo (B := coA p (kRecvs s T q.e i).1) (by rw [hkm]; try rfl) <| J_pick (A := actA a p T q i) PC ?_
  refine J_return (()) Tryz.results122 (.cellA rfl ty247 HS CT .nil) ?_ ?_
  · rw [hkm]; rfl
  · exact SU
  have hno : look (KS.rp S1) U = none := by
    cases hq : look (KS.rp S1) U with
    | none => rfl
    | some y => rw [look_ptrs, hq] at h82; simp at h82
  have hkm : (kRecvs s T q.e i) = (kDec S1.rt.length S1 x.1 (-11) 0, some (x.2.2.1, x.2.1)) := by rw [e3]; unfold kMet; rw [if_pos n4, hno]
  refine sr <| fa rfl rfl fa340_3 <| L_val rfl (v_load rfl ty4 HS (by exact rfl)) ?_
  refine ag rfl rfl <| nq ?_
  refine C_split rfl (fun h94 => ?_) (fun h94 => ?_)
  refine J_drawT 6 mixed (by kernel_rfl) <| sm rfl rfl <| sp rfl (p_nilCheck rfl) <| sp rfl (p_fieldAddr rfl fa250_0) <| S_val rfl (v_load rfl ty25 HS (by exact rfl)) ?_
  refine sp rfl (p_fieldAddr rfl fa340_0) <| S_val rfl (v_loadA rfl ty39 HS CT) ?_
  refine S_nil <| L_op <| xc fc54 (.cons rfl (.cons rfl (.cons rfl (.cons rfl .nil)))) rfl (coDecide (s := S1) (i := x.1) (r := -11) (v := 0) PC hF1) fun _ => ?_
  refine L_nil <| Q_blk_normal <| qx <| fa rfl rfl fa340_2 <| L_val rfl (v_load rfl ty3 HS (by exact rfl)) ?_
  refine fa rfl rfl fa340_1 <| L_val rfl (v_load rfl ty22 HS (by exact rfl)) ?_
  refine L_pur rfl (bld247 (.cons rfl (.cons rfl .nil)) (by repeat constructor)) <| L_op <| x_store rfl rfl ty247 rfl SM SM RO PT ?_
  refine nq <| J_ret <| J_pick (A := coA p _) PC ?_
  refine J_asTo (B := coA p (kRecvs s T q.e i).1) (by rw [hkm]; try rfl) <| J_pick (A := blk a _ _) PC ?_
  refine J_asTo (B := actA a p T q i) (by rfl) ?_
  refine J_return (()) Tryz.results122 (.cellA rfl ty247 HS CT .nil) ?_ ?_
  · rw [hkm]; rfl
  · exact SU
  rw [n4] at h94; cases h94
  have n4 : ¬ x.2.2.2 = true := by rw [h85]; decide
  refine L_op <| G_off rfl rfl rfl rfl rfl rfl <| L_op <| G_off rfl rfl rfl rfl rfl rfl <| L_pur rfl (p_pick_f rfl rfl) <| ag rfl rfl <| nq <| C_false rfl ?_
  refine sr <| fa rfl rfl fa340_3 <| L_val rfl (v_load rfl ty4 HS (by exact rfl)) ?_
  refine ag rfl rfl <| nq ?_
  refine C_split rfl (fun h94 => ?_) (fun h94 => ?_)
  exact absurd h94 n4
  have hkm : (kRecvs s T q.e i) = (kDec S1.rt.length S1 x.1 0 0, some (x.2.2.1, x.2.1)) := by rw [e3]; unfold kMet; rw [if_neg n4]
  refine J_drawT 6 mixed (by kernel_rfl) <| sm rfl rfl <| sp rfl (p_nilCheck rfl) <| sp rfl (p_fieldAddr rfl fa250_0) <| S_val rfl (v_load rfl ty25 HS (by exact rfl)) ?_
  refine sp rfl (p_fieldAddr rfl fa340_0) <| S_val rfl (v_loadA rfl ty39 HS CT) ?_
  refine S_nil <| L_op <| xc fc54 (.cons rfl (.cons rfl (.cons rfl (.cons rfl .nil)))) rfl (coDecide (s := S1) (i := x.1) (r := 0) (v := 0) PC hF1) fun _ => ?_
  refine L_nil <| Q_blk_normal <| qx <| fa rfl rfl fa340_2 <| L_val rfl (v_load rfl ty3 HS (by exact rfl)) ?_
  refine fa rfl rfl fa340_1 <| L_val rfl (v_load rfl ty22 HS (by exact rfl)) ?_
  refine L_pur rfl (bld247 (.cons rfl (.cons rfl .nil)) (by repeat constructor)) <| L_op <| x_store rfl rfl ty247 rfl SM SM RO PT ?_
  refine nq <| J_ret <| J_pick (A := coA p _) PC ?_
  refine J_asTo (B := coA p (kRecvs s T q.e i).1) (by rw [hkm]; try rfl) <| J_pick (A := blk a _ _) PC ?_
  refine J_asTo (B := actA a p T q i) (by rfl) ?_
  refine J_return (()) Tryz.results122 (.cellA rfl ty247 HS CT .nil) ?_ ?_
  · rw [hkm]; rfl
  · exact SU
/-! ### plain: what an entry does -/
def kDoes (s : KS) (T : Th) (q : Rq) (i : ID) (b : Nat) : KS × Out :=
 if q.e.op = 1 then (s, some (0, 0))
 else if q.e.op = 2 ∨ q.e.op = 3 ∨ q.e.op = 4 ∨ q.e.op = 5 ∨ q.e.op = 6 then ((kSlots s T q.e).1, failO (kSlots s T q.e).2)
 else if q.e.op = 7 then (kRetS s T q.e b, some (-(kRetC s T q.e), kRetV s T q.e))
 else if q.e.op = 8 then ((kMaps s T q.e).1, failO (kMaps s T q.e).2)
 else if q.e.op = 9 then ((kUnmap s T q.e).1, failO (kUnmap s T q.e).2)
 else if q.e.op = 10 ∨ q.e.op = 12 then kSends s T q.e i (decide (q.e.op = 12))
 else if q.e.op = 11 then kRecvs s T q.e i
 else if q.e.op = 13 then ((kAnswers s T q.e).1, failO (kAnswers s T q.e).2)
 else if q.e.op = 14 then ((kSignals s T q.e).1, failO (kSignals s T q.e).2)
 else if q.e.op = 15 then kNWaits s T q.e i
 else if q.e.op = 16 ∨ q.e.op = 17 ∨ q.e.op = 18 then ((kThreads s T q.e).1, failO (kThreads s T q.e).2)
 else if q.e.op = 19 then (s, none)
 else if q.e.op = 20 then ((kCancels s q.e i).1, failO (kCancels s q.e i).2)
 else (s, failO 11)
def kOwner (s : KS) (r : Int) : Option Th := (s.th.find? fun e => decide (e.2.ring = r)).map Prod.snd
structure Good (s : KS) (N M : Nat) : Prop where
  fit : Fits s N M
  n1 : N + 1 ≤ 90000
  m2 : M ≤ 45000
  q : s.q.length ≤ N
  mp : s.mp.length ≤ N
  sl : s.sl.length ≤ N
  rg : s.rg.length ≤ 1000
  caps : CapsOk s.sl
  marks : MarksOk s.mr
  rev : ∀ p, RevOk s.sl p
  own : ∀ r x, Owns s r x → x = kOwner s r
  ent : ∀ e ∈ s.rt, SqeOk e.2.e
def DoesC (s : KS) (T : Th) (q : Rq) (i : ID) : Prop := ∀ (E : World) (l m : List As) (a p : Nat), Picks [actA a p T q i, coA p s] l m →
  Con Tryz.prog 86 #[.pointer (some ⟨a, 0, none⟩)] E l (fun b : Nat => encE (kDoes s T q i b).2) (fun b => actA a p T q i :: coA p (kDoes s T q i b).1 :: m)
theorem does1G {E : World} {l m : List As} {a p : Nat} {s : KS} {T : Th} {q : Rq} {i : ID} (hp : Picks [actA a p T q i, coA p s] l m) {N M : Nat} (hG : Good s N M) (hE : SqeOk q.e) (hop : q.e.op = 1) :
    Con Tryz.prog 86 #[.pointer (some ⟨a, 0, none⟩)] E l (fun b : Nat => encE (kDoes s T q i b).2) (fun b => actA a p T q i :: coA p (kDoes s T q i b).1 :: m) := by
  refine Con.body (vs := [.pointer (some ⟨a, 0, none⟩)]) (n := 71) Tryz.func86 rfl rfl [(0, .pointer (some ⟨a, 0, none⟩))] (env_ok 1 rfl) <| J_picks2 hp <| J_asTo (B := blk a 250 [.pointer (some ⟨p, 0, none⟩), .int .i64 T.unit, .int .i64 T.space, .int .i64 T.ring, .int .i64 T.root.kind, .int .i64 T.root.obj, .int .i64 T.root.size, .int .i64 T.root.badge, .int .i64 T.root.rights, .int .i64 q.id.1, .int .i64 q.id.2, .int .i64 q.e.op, .int .i64 q.e.flags, .int .u32 q.e.tag, .int .u32 q.e.cap, .int .u32 q.e.a, .int .u32 q.e.b, .int .u32 q.e.c, .int .u32 q.e.time, .int .i64 q.prev, .bool q.soft, .bool q.started, .int .i64 i.1, .int .i64 i.2]) (by rfl) <| sr <| L_op <| x_alloc ty247 rfl fun b2 => nxx <| mv rfl rfl ?_
  refine nc rfl rfl <| fa rfl rfl fa250_2 <| fa rfl rfl fa104_1 <| fa rfl rfl fa31_0 <| L_val rfl (v_load rfl ty3 HS (by exact rfl)) ?_
  refine J_pick (A := blk a _ _) PC ?_
  refine J_asTo (B := actA a p T q i) (by rfl) <| ag rfl rfl <| nx <| mv rfl rfl <| nq <| J_block <| sr <| L_pur rfl (p_eql rfl rfl) ?_
  refine ag rfl rfl <| nq <| J_bool (t := 11) (c := true) rfl (by simp [hop]) <| C_true rfl <| sr <| L_pur rfl (bld247 .nil (by repeat constructor)) <| L_op <| x_store rfl rfl ty247 rfl SM SM RO PT ?_
  refine nq <| J_ret <| Q_blk_ret <| Q_then_ret ?_
  have hks : ∀ b, kDoes s T q i b = (s, some (0, 0)) := fun b => by unfold kDoes; simp only [hop]; rfl
  refine J_pick (A := coA p _) PC ?_
  refine J_asTo (B := coA p (kDoes s T q i 0).1) (by rw [hks]; try rfl) <| J_pick (A := actA a p T q i) PC ?_
  refine J_return (0) Tryz.results86 (.cellA rfl ty247 HS CT .nil) ?_ ?_
  · rw [hks]; rfl
  · exact SU
theorem doesC1 {s : KS} {T : Th} {q : Rq} {i : ID} {N M : Nat} (hG : Good s N M) (hE : SqeOk q.e) (hop : q.e.op = 1) : DoesC s T q i := fun _ _ _ _ _ hp => does1G hp hG hE hop
theorem does5G {E : World} {l m : List As} {a p : Nat} {s : KS} {T : Th} {q : Rq} {i : ID} (hp : Picks [actA a p T q i, coA p s] l m) {N M : Nat} (hG : Good s N M) (hE : SqeOk q.e) (hop : q.e.op = 5) :
    Con Tryz.prog 86 #[.pointer (some ⟨a, 0, none⟩)] E l (fun b : Nat => encE (kDoes s T q i b).2) (fun b => actA a p T q i :: coA p (kDoes s T q i b).1 :: m) := by
  refine Con.body (vs := [.pointer (some ⟨a, 0, none⟩)]) (n := 71) Tryz.func86 rfl rfl [(0, .pointer (some ⟨a, 0, none⟩))] (env_ok 1 rfl) <| J_picks2 hp <| J_asTo (B := blk a 250 [.pointer (some ⟨p, 0, none⟩), .int .i64 T.unit, .int .i64 T.space, .int .i64 T.ring, .int .i64 T.root.kind, .int .i64 T.root.obj, .int .i64 T.root.size, .int .i64 T.root.badge, .int .i64 T.root.rights, .int .i64 q.id.1, .int .i64 q.id.2, .int .i64 q.e.op, .int .i64 q.e.flags, .int .u32 q.e.tag, .int .u32 q.e.cap, .int .u32 q.e.a, .int .u32 q.e.b, .int .u32 q.e.c, .int .u32 q.e.time, .int .i64 q.prev, .bool q.soft, .bool q.started, .int .i64 i.1, .int .i64 i.2]) (by rfl) <| sr <| L_op <| x_alloc ty247 rfl fun b2 => nxx <| mv rfl rfl ?_
  refine nc rfl rfl <| fa rfl rfl fa250_2 <| fa rfl rfl fa104_1 <| fa rfl rfl fa31_0 <| L_val rfl (v_load rfl ty3 HS (by exact rfl)) ?_
  refine J_pick (A := blk a _ _) PC ?_
  refine J_asTo (B := actA a p T q i) (by rfl) <| ag rfl rfl <| nx <| mv rfl rfl <| nq <| J_block <| sr <| L_pur rfl (p_eql rfl rfl) ?_
  refine ag rfl rfl <| nq <| J_bool (t := 11) (c := false) rfl (by simp [hop]) <| C_false rfl <| J_seq <| sr <| L_pur rfl (p_eql rfl rfl) <| ag rfl rfl ?_
  refine nq <| J_bool (t := 14) (c := false) rfl (by simp [hop]) <| C_false rfl <| sr <| L_pur rfl (p_eql rfl rfl) <| ag rfl rfl <| nq <| J_bool (t := 14) (c := false) rfl (by simp [hop]) ?_
  refine C_false rfl <| sr <| L_pur rfl (p_eql rfl rfl) <| ag rfl rfl <| nq <| J_bool (t := 14) (c := false) rfl (by simp [hop]) <| C_false rfl <| sr ?_
  refine L_pur rfl (p_eql rfl rfl) <| ag rfl rfl <| nq <| J_bool (t := 14) (c := true) rfl (by simp [hop]) <| C_true rfl <| J_skip <| Q_then <| J_bool (t := 14) (c := true) rfl (by simp [hop]) ?_
  refine C_true rfl <| sr <| mv rfl rfl <| L_op <| xc fc117 (.cons rfl .nil) rfl (slots5G PX hE hop (by have := hG.sl; have := hG.n1; omega) hG.fit hG.m2 (by have := hG.q; have := hG.n1; omega) (by have := hG.mp; have := hG.n1; omega) hG.rg) fun _ => ?_
  refine L_op <| x_store rfl rfl ty247 rfl SM SM RO PT ?_
  refine nq <| J_ret <| Q_blk_ret <| Q_then_ret ?_
  have hks : ∀ b, kDoes s T q i b = ((kSlots s T q.e).1, failO (kSlots s T q.e).2) := fun b => by unfold kDoes; simp only [hop]; rfl
  refine J_pick (A := coA p _) PC ?_
  refine J_asTo (B := coA p (kDoes s T q i 0).1) (by rw [hks]; try rfl) <| J_pick (A := actA a p T q i) PC ?_
  refine J_return (0) Tryz.results86 (.cellA rfl ty247 HS CT .nil) ?_ ?_
  · rw [hks]; rfl
  · exact SU
theorem doesC5 {s : KS} {T : Th} {q : Rq} {i : ID} {N M : Nat} (hG : Good s N M) (hE : SqeOk q.e) (hop : q.e.op = 5) : DoesC s T q i := fun _ _ _ _ _ hp => does5G hp hG hE hop
theorem does11G {E : World} {l m : List As} {a p : Nat} {s : KS} {T : Th} {q : Rq} {i : ID} (hp : Picks [actA a p T q i, coA p s] l m) {N M : Nat} (hG : Good s N M) (hE : SqeOk q.e) (hop : q.e.op = 11) :
    Con Tryz.prog 86 #[.pointer (some ⟨a, 0, none⟩)] E l (fun b : Nat => encE (kDoes s T q i b).2) (fun b => actA a p T q i :: coA p (kDoes s T q i b).1 :: m) := by
  refine Con.body (vs := [.pointer (some ⟨a, 0, none⟩)]) (n := 71) Tryz.func86 rfl rfl [(0, .pointer (some ⟨a, 0, none⟩))] (env_ok 1 rfl) <| J_picks2 hp <| J_asTo (B := blk a 250 [.pointer (some ⟨p, 0, none⟩), .int .i64 T.unit, .int .i64 T.space, .int .i64 T.ring, .int .i64 T.root.kind, .int .i64 T.root.obj, .int .i64 T.root.size, .int .i64 T.root.badge, .int .i64 T.root.rights, .int .i64 q.id.1, .int .i64 q.id.2, .int .i64 q.e.op, .int .i64 q.e.flags, .int .u32 q.e.tag, .int .u32 q.e.cap, .int .u32 q.e.a, .int .u32 q.e.b, .int .u32 q.e.c, .int .u32 q.e.time, .int .i64 q.prev, .bool q.soft, .bool q.started, .int .i64 i.1, .int .i64 i.2]) (by rfl) <| sr <| L_op <| x_alloc ty247 rfl fun b2 => nxx <| mv rfl rfl ?_
  refine nc rfl rfl <| fa rfl rfl fa250_2 <| fa rfl rfl fa104_1 <| fa rfl rfl fa31_0 <| L_val rfl (v_load rfl ty3 HS (by exact rfl)) ?_
  refine J_pick (A := blk a _ _) PC ?_
  refine J_asTo (B := actA a p T q i) (by rfl) <| ag rfl rfl <| nx <| mv rfl rfl <| nq <| J_block <| sr <| L_pur rfl (p_eql rfl rfl) ?_
  refine ag rfl rfl <| nq <| J_bool (t := 11) (c := false) rfl (by simp [hop]) <| C_false rfl <| J_seq <| sr <| L_pur rfl (p_eql rfl rfl) <| ag rfl rfl ?_
  refine nq <| J_bool (t := 14) (c := false) rfl (by simp [hop]) <| C_false rfl <| sr <| L_pur rfl (p_eql rfl rfl) <| ag rfl rfl <| nq <| J_bool (t := 14) (c := false) rfl (by simp [hop]) ?_
  refine C_false rfl <| sr <| L_pur rfl (p_eql rfl rfl) <| ag rfl rfl <| nq <| J_bool (t := 14) (c := false) rfl (by simp [hop]) <| C_false rfl <| sr ?_
  refine L_pur rfl (p_eql rfl rfl) <| ag rfl rfl <| nq <| J_bool (t := 14) (c := false) rfl (by simp [hop]) <| C_false rfl <| J_region <| L_pur rfl (p_eql rfl rfl) <| ag rfl rfl ?_
  refine nq <| J_bool (t := 14) (c := false) rfl (by simp [hop]) <| C_false rfl <| sr <| L_pur rfl (p_eql rfl rfl) <| ag rfl rfl <| nq <| J_bool (t := 22) (c := false) rfl (by simp [hop]) ?_
  refine C_false rfl <| sr <| L_pur rfl (p_eql rfl rfl) <| ag rfl rfl <| nq <| J_bool (t := 26) (c := false) rfl (by simp [hop]) <| C_false rfl <| sr ?_
  refine L_pur rfl (p_eql rfl rfl) <| ag rfl rfl <| nq <| J_bool (t := 30) (c := false) rfl (by simp [hop]) <| C_false rfl <| J_seq <| sr <| L_pur rfl (p_eql rfl rfl) ?_
  refine ag rfl rfl <| nq <| J_bool (t := 34) (c := false) rfl (by simp [hop]) <| C_false rfl <| J_region <| L_pur rfl (p_eql rfl rfl) <| ag rfl rfl <| nq ?_
  refine J_bool (t := 34) (c := false) rfl (by simp [hop]) <| C_false rfl <| sr <| L_pur rfl (p_eql rfl rfl) <| ag rfl rfl <| nq <| J_bool (t := 41) (c := true) rfl (by simp [hop]) <| C_true rfl ?_
  refine sr <| mv rfl rfl <| L_op <| xc fc122 (.cons rfl .nil) rfl (recvsG PX hE hG.fit hG.n1) fun _ => ?_
  refine L_op <| x_store rfl rfl ty247 rfl SM SM RO PT ?_
  refine nq <| J_ret <| Q_blk_ret <| Q_then_ret ?_
  have hks : ∀ b, kDoes s T q i b = kRecvs s T q.e i := fun b => by unfold kDoes; simp only [hop]; rfl
  refine J_pick (A := coA p _) PC ?_
  refine J_asTo (B := coA p (kDoes s T q i 0).1) (by rw [hks]; try rfl) <| J_pick (A := actA a p T q i) PC ?_
  refine J_return (0) Tryz.results86 (.cellA rfl ty247 HS CT .nil) ?_ ?_
  · rw [hks]; rfl
  · exact SU
theorem doesC11 {s : KS} {T : Th} {q : Rq} {i : ID} {N M : Nat} (hG : Good s N M) (hE : SqeOk q.e) (hop : q.e.op = 11) : DoesC s T q i := fun _ _ _ _ _ hp => does11G hp hG hE hop
theorem does12G {E : World} {l m : List As} {a p : Nat} {s : KS} {T : Th} {q : Rq} {i : ID} (hp : Picks [actA a p T q i, coA p s] l m) {N M : Nat} (hG : Good s N M) (hE : SqeOk q.e) (hop : q.e.op = 12) :
    Con Tryz.prog 86 #[.pointer (some ⟨a, 0, none⟩)] E l (fun b : Nat => encE (kDoes s T q i b).2) (fun b => actA a p T q i :: coA p (kDoes s T q i b).1 :: m) := by
  refine Con.body (vs := [.pointer (some ⟨a, 0, none⟩)]) (n := 71) Tryz.func86 rfl rfl [(0, .pointer (some ⟨a, 0, none⟩))] (env_ok 1 rfl) <| J_picks2 hp <| J_asTo (B := blk a 250 [.pointer (some ⟨p, 0, none⟩), .int .i64 T.unit, .int .i64 T.space, .int .i64 T.ring, .int .i64 T.root.kind, .int .i64 T.root.obj, .int .i64 T.root.size, .int .i64 T.root.badge, .int .i64 T.root.rights, .int .i64 q.id.1, .int .i64 q.id.2, .int .i64 q.e.op, .int .i64 q.e.flags, .int .u32 q.e.tag, .int .u32 q.e.cap, .int .u32 q.e.a, .int .u32 q.e.b, .int .u32 q.e.c, .int .u32 q.e.time, .int .i64 q.prev, .bool q.soft, .bool q.started, .int .i64 i.1, .int .i64 i.2]) (by rfl) <| sr <| L_op <| x_alloc ty247 rfl fun b2 => nxx <| mv rfl rfl ?_
  refine nc rfl rfl <| fa rfl rfl fa250_2 <| fa rfl rfl fa104_1 <| fa rfl rfl fa31_0 <| L_val rfl (v_load rfl ty3 HS (by exact rfl)) ?_
  refine J_pick (A := blk a _ _) PC ?_
  refine J_asTo (B := actA a p T q i) (by rfl) <| ag rfl rfl <| nx <| mv rfl rfl <| nq <| J_block <| sr <| L_pur rfl (p_eql rfl rfl) ?_
  refine ag rfl rfl <| nq <| J_bool (t := 11) (c := false) rfl (by simp [hop]) <| C_false rfl <| J_seq <| sr <| L_pur rfl (p_eql rfl rfl) <| ag rfl rfl ?_
  refine nq <| J_bool (t := 14) (c := false) rfl (by simp [hop]) <| C_false rfl <| sr <| L_pur rfl (p_eql rfl rfl) <| ag rfl rfl <| nq <| J_bool (t := 14) (c := false) rfl (by simp [hop]) ?_
  refine C_false rfl <| sr <| L_pur rfl (p_eql rfl rfl) <| ag rfl rfl <| nq <| J_bool (t := 14) (c := false) rfl (by simp [hop]) <| C_false rfl <| sr ?_
  refine L_pur rfl (p_eql rfl rfl) <| ag rfl rfl <| nq <| J_bool (t := 14) (c := false) rfl (by simp [hop]) <| C_false rfl <| J_region <| L_pur rfl (p_eql rfl rfl) <| ag rfl rfl ?_
  refine nq <| J_bool (t := 14) (c := false) rfl (by simp [hop]) <| C_false rfl <| sr <| L_pur rfl (p_eql rfl rfl) <| ag rfl rfl <| nq <| J_bool (t := 22) (c := false) rfl (by simp [hop]) ?_
  refine C_false rfl <| sr <| L_pur rfl (p_eql rfl rfl) <| ag rfl rfl <| nq <| J_bool (t := 26) (c := false) rfl (by simp [hop]) <| C_false rfl <| sr ?_
  refine L_pur rfl (p_eql rfl rfl) <| ag rfl rfl <| nq <| J_bool (t := 30) (c := false) rfl (by simp [hop]) <| C_false rfl <| J_seq <| sr <| L_pur rfl (p_eql rfl rfl) ?_
  refine ag rfl rfl <| nq <| J_bool (t := 34) (c := false) rfl (by simp [hop]) <| C_false rfl <| J_region <| L_pur rfl (p_eql rfl rfl) <| ag rfl rfl <| nq ?_
  refine J_bool (t := 34) (c := true) rfl (by simp [hop]) <| C_true rfl <| sr <| mv rfl rfl <| mv rfl rfl <| L_pur rfl (p_eql rfl rfl) <| L_op <| xc fc121 (.cons rfl (.cons rfl .nil)) rfl (sendsG (call := decide (q.e.op = 12)) PX hE hG.fit hG.n1) fun _ => ?_
  refine L_op <| x_store rfl rfl ty247 rfl SM SM RO PT ?_
  refine nq <| J_ret <| Q_blk_ret <| Q_then_ret ?_
  have hks : ∀ b, kDoes s T q i b = kSends s T q.e i (decide (q.e.op = 12)) := fun b => by unfold kDoes; simp only [hop]; rfl
  refine J_pick (A := coA p _) PC ?_
  refine J_asTo (B := coA p (kDoes s T q i 0).1) (by rw [hks]; try rfl) <| J_pick (A := actA a p T q i) PC ?_
  refine J_return (0) Tryz.results86 (.cellA rfl ty247 HS CT .nil) ?_ ?_
  · rw [hks]; rfl
  · exact SU
theorem doesC12 {s : KS} {T : Th} {q : Rq} {i : ID} {N M : Nat} (hG : Good s N M) (hE : SqeOk q.e) (hop : q.e.op = 12) : DoesC s T q i := fun _ _ _ _ _ hp => does12G hp hG hE hop
theorem does13G {E : World} {l m : List As} {a p : Nat} {s : KS} {T : Th} {q : Rq} {i : ID} (hp : Picks [actA a p T q i, coA p s] l m) {N M : Nat} (hG : Good s N M) (hE : SqeOk q.e) (hop : q.e.op = 13) :
    Con Tryz.prog 86 #[.pointer (some ⟨a, 0, none⟩)] E l (fun b : Nat => encE (kDoes s T q i b).2) (fun b => actA a p T q i :: coA p (kDoes s T q i b).1 :: m) := by
  refine Con.body (vs := [.pointer (some ⟨a, 0, none⟩)]) (n := 71) Tryz.func86 rfl rfl [(0, .pointer (some ⟨a, 0, none⟩))] (env_ok 1 rfl) <| J_picks2 hp <| J_asTo (B := blk a 250 [.pointer (some ⟨p, 0, none⟩), .int .i64 T.unit, .int .i64 T.space, .int .i64 T.ring, .int .i64 T.root.kind, .int .i64 T.root.obj, .int .i64 T.root.size, .int .i64 T.root.badge, .int .i64 T.root.rights, .int .i64 q.id.1, .int .i64 q.id.2, .int .i64 q.e.op, .int .i64 q.e.flags, .int .u32 q.e.tag, .int .u32 q.e.cap, .int .u32 q.e.a, .int .u32 q.e.b, .int .u32 q.e.c, .int .u32 q.e.time, .int .i64 q.prev, .bool q.soft, .bool q.started, .int .i64 i.1, .int .i64 i.2]) (by rfl) <| sr <| L_op <| x_alloc ty247 rfl fun b2 => nxx <| mv rfl rfl ?_
  refine nc rfl rfl <| fa rfl rfl fa250_2 <| fa rfl rfl fa104_1 <| fa rfl rfl fa31_0 <| L_val rfl (v_load rfl ty3 HS (by exact rfl)) ?_
  refine J_pick (A := blk a _ _) PC ?_
  refine J_asTo (B := actA a p T q i) (by rfl) <| ag rfl rfl <| nx <| mv rfl rfl <| nq <| J_block <| sr <| L_pur rfl (p_eql rfl rfl) ?_
  refine ag rfl rfl <| nq <| J_bool (t := 11) (c := false) rfl (by simp [hop]) <| C_false rfl <| J_seq <| sr <| L_pur rfl (p_eql rfl rfl) <| ag rfl rfl ?_
  refine nq <| J_bool (t := 14) (c := false) rfl (by simp [hop]) <| C_false rfl <| sr <| L_pur rfl (p_eql rfl rfl) <| ag rfl rfl <| nq <| J_bool (t := 14) (c := false) rfl (by simp [hop]) ?_
  refine C_false rfl <| sr <| L_pur rfl (p_eql rfl rfl) <| ag rfl rfl <| nq <| J_bool (t := 14) (c := false) rfl (by simp [hop]) <| C_false rfl <| sr ?_
  refine L_pur rfl (p_eql rfl rfl) <| ag rfl rfl <| nq <| J_bool (t := 14) (c := false) rfl (by simp [hop]) <| C_false rfl <| J_region <| L_pur rfl (p_eql rfl rfl) <| ag rfl rfl ?_
  refine nq <| J_bool (t := 14) (c := false) rfl (by simp [hop]) <| C_false rfl <| sr <| L_pur rfl (p_eql rfl rfl) <| ag rfl rfl <| nq <| J_bool (t := 22) (c := false) rfl (by simp [hop]) ?_
  refine C_false rfl <| sr <| L_pur rfl (p_eql rfl rfl) <| ag rfl rfl <| nq <| J_bool (t := 26) (c := false) rfl (by simp [hop]) <| C_false rfl <| sr ?_
  refine L_pur rfl (p_eql rfl rfl) <| ag rfl rfl <| nq <| J_bool (t := 30) (c := false) rfl (by simp [hop]) <| C_false rfl <| J_seq <| sr <| L_pur rfl (p_eql rfl rfl) ?_
  refine ag rfl rfl <| nq <| J_bool (t := 34) (c := false) rfl (by simp [hop]) <| C_false rfl <| J_region <| L_pur rfl (p_eql rfl rfl) <| ag rfl rfl <| nq ?_
  refine J_bool (t := 34) (c := false) rfl (by simp [hop]) <| C_false rfl <| sr <| L_pur rfl (p_eql rfl rfl) <| ag rfl rfl <| nq <| J_bool (t := 41) (c := false) rfl (by simp [hop]) <| C_false rfl ?_
  refine sr <| L_pur rfl (p_eql rfl rfl) <| ag rfl rfl <| nq <| J_bool (t := 45) (c := true) rfl (by simp [hop]) <| C_true rfl <| sr <| mv rfl rfl ?_
  refine L_op <| xc fc123 (.cons rfl .nil) rfl (answersG PX hE hG.fit) fun _ => ?_
  refine L_op <| x_store rfl rfl ty247 rfl SM SM RO PT ?_
  refine nq <| J_ret <| Q_blk_ret <| Q_then_ret ?_
  have hks : ∀ b, kDoes s T q i b = ((kAnswers s T q.e).1, failO (kAnswers s T q.e).2) := fun b => by unfold kDoes; simp only [hop]; rfl
  refine J_pick (A := coA p _) PC ?_
  refine J_asTo (B := coA p (kDoes s T q i 0).1) (by rw [hks]; try rfl) <| J_pick (A := actA a p T q i) PC ?_
  refine J_return (0) Tryz.results86 (.cellA rfl ty247 HS CT .nil) ?_ ?_
  · rw [hks]; rfl
  · exact SU
theorem doesC13 {s : KS} {T : Th} {q : Rq} {i : ID} {N M : Nat} (hG : Good s N M) (hE : SqeOk q.e) (hop : q.e.op = 13) : DoesC s T q i := fun _ _ _ _ _ hp => does13G hp hG hE hop
theorem does19G {E : World} {l m : List As} {a p : Nat} {s : KS} {T : Th} {q : Rq} {i : ID} (hp : Picks [actA a p T q i, coA p s] l m) {N M : Nat} (hG : Good s N M) (hE : SqeOk q.e) (hop : q.e.op = 19) :
    Con Tryz.prog 86 #[.pointer (some ⟨a, 0, none⟩)] E l (fun b : Nat => encE (kDoes s T q i b).2) (fun b => actA a p T q i :: coA p (kDoes s T q i b).1 :: m) := by
  refine Con.body (vs := [.pointer (some ⟨a, 0, none⟩)]) (n := 71) Tryz.func86 rfl rfl [(0, .pointer (some ⟨a, 0, none⟩))] (env_ok 1 rfl) <| J_picks2 hp <| J_asTo (B := blk a 250 [.pointer (some ⟨p, 0, none⟩), .int .i64 T.unit, .int .i64 T.space, .int .i64 T.ring, .int .i64 T.root.kind, .int .i64 T.root.obj, .int .i64 T.root.size, .int .i64 T.root.badge, .int .i64 T.root.rights, .int .i64 q.id.1, .int .i64 q.id.2, .int .i64 q.e.op, .int .i64 q.e.flags, .int .u32 q.e.tag, .int .u32 q.e.cap, .int .u32 q.e.a, .int .u32 q.e.b, .int .u32 q.e.c, .int .u32 q.e.time, .int .i64 q.prev, .bool q.soft, .bool q.started, .int .i64 i.1, .int .i64 i.2]) (by rfl) <| sr <| L_op <| x_alloc ty247 rfl fun b2 => nxx <| mv rfl rfl ?_
  refine nc rfl rfl <| fa rfl rfl fa250_2 <| fa rfl rfl fa104_1 <| fa rfl rfl fa31_0 <| L_val rfl (v_load rfl ty3 HS (by exact rfl)) ?_
  refine J_pick (A := blk a _ _) PC ?_
  refine J_asTo (B := actA a p T q i) (by rfl) <| ag rfl rfl <| nx <| mv rfl rfl <| nq <| J_block <| sr <| L_pur rfl (p_eql rfl rfl) ?_
  refine ag rfl rfl <| nq <| J_bool (t := 11) (c := false) rfl (by simp [hop]) <| C_false rfl <| J_seq <| sr <| L_pur rfl (p_eql rfl rfl) <| ag rfl rfl ?_
  refine nq <| J_bool (t := 14) (c := false) rfl (by simp [hop]) <| C_false rfl <| sr <| L_pur rfl (p_eql rfl rfl) <| ag rfl rfl <| nq <| J_bool (t := 14) (c := false) rfl (by simp [hop]) ?_
  refine C_false rfl <| sr <| L_pur rfl (p_eql rfl rfl) <| ag rfl rfl <| nq <| J_bool (t := 14) (c := false) rfl (by simp [hop]) <| C_false rfl <| sr ?_
  refine L_pur rfl (p_eql rfl rfl) <| ag rfl rfl <| nq <| J_bool (t := 14) (c := false) rfl (by simp [hop]) <| C_false rfl <| J_region <| L_pur rfl (p_eql rfl rfl) <| ag rfl rfl ?_
  refine nq <| J_bool (t := 14) (c := false) rfl (by simp [hop]) <| C_false rfl <| sr <| L_pur rfl (p_eql rfl rfl) <| ag rfl rfl <| nq <| J_bool (t := 22) (c := false) rfl (by simp [hop]) ?_
  refine C_false rfl <| sr <| L_pur rfl (p_eql rfl rfl) <| ag rfl rfl <| nq <| J_bool (t := 26) (c := false) rfl (by simp [hop]) <| C_false rfl <| sr ?_
  refine L_pur rfl (p_eql rfl rfl) <| ag rfl rfl <| nq <| J_bool (t := 30) (c := false) rfl (by simp [hop]) <| C_false rfl <| J_seq <| sr <| L_pur rfl (p_eql rfl rfl) ?_
  refine ag rfl rfl <| nq <| J_bool (t := 34) (c := false) rfl (by simp [hop]) <| C_false rfl <| J_region <| L_pur rfl (p_eql rfl rfl) <| ag rfl rfl <| nq ?_
  refine J_bool (t := 34) (c := false) rfl (by simp [hop]) <| C_false rfl <| sr <| L_pur rfl (p_eql rfl rfl) <| ag rfl rfl <| nq <| J_bool (t := 41) (c := false) rfl (by simp [hop]) <| C_false rfl ?_
  refine sr <| L_pur rfl (p_eql rfl rfl) <| ag rfl rfl <| nq <| J_bool (t := 45) (c := false) rfl (by simp [hop]) <| C_false rfl <| sr <| L_pur rfl (p_eql rfl rfl) ?_
  refine ag rfl rfl <| nq <| J_bool (t := 49) (c := false) rfl (by simp [hop]) <| C_false rfl <| sr <| L_pur rfl (p_eql rfl rfl) <| ag rfl rfl <| nq ?_
  refine J_bool (t := 53) (c := false) rfl (by simp [hop]) <| C_false rfl <| J_seq <| sr <| L_pur rfl (p_eql rfl rfl) <| ag rfl rfl <| nq <| J_bool (t := 57) (c := false) rfl (by simp [hop]) ?_
  refine C_false rfl <| sr <| L_pur rfl (p_eql rfl rfl) <| ag rfl rfl <| nq <| J_bool (t := 57) (c := false) rfl (by simp [hop]) <| C_false rfl <| J_region ?_
  refine L_pur rfl (p_eql rfl rfl) <| ag rfl rfl <| nq <| J_bool (t := 57) (c := false) rfl (by simp [hop]) <| C_false rfl <| sr <| L_pur rfl (p_eql rfl rfl) <| ag rfl rfl ?_
  refine nq <| J_bool (t := 63) (c := true) rfl (by simp [hop]) <| C_true rfl <| sr <| L_pur rfl (bld247 (.cons rfl .nil) (by repeat constructor)) <| L_op <| x_store rfl rfl ty247 rfl SM SM RO PT ?_
  refine nq <| J_ret <| Q_blk_ret <| Q_then_ret ?_
  have hks : ∀ b, kDoes s T q i b = (s, none) := fun b => by unfold kDoes; simp only [hop]; rfl
  refine J_pick (A := coA p _) PC ?_
  refine J_asTo (B := coA p (kDoes s T q i 0).1) (by rw [hks]; try rfl) <| J_pick (A := actA a p T q i) PC ?_
  refine J_return (0) Tryz.results86 (.cellA rfl ty247 HS CT .nil) ?_ ?_
  · rw [hks]; rfl
  · exact SU
theorem doesC19 {s : KS} {T : Th} {q : Rq} {i : ID} {N M : Nat} (hG : Good s N M) (hE : SqeOk q.e) (hop : q.e.op = 19) : DoesC s T q i := fun _ _ _ _ _ hp => does19G hp hG hE hop
theorem does20G {E : World} {l m : List As} {a p : Nat} {s : KS} {T : Th} {q : Rq} {i : ID} (hp : Picks [actA a p T q i, coA p s] l m) {N M : Nat} (hG : Good s N M) (hE : SqeOk q.e) (hop : q.e.op = 20) :
    Con Tryz.prog 86 #[.pointer (some ⟨a, 0, none⟩)] E l (fun b : Nat => encE (kDoes s T q i b).2) (fun b => actA a p T q i :: coA p (kDoes s T q i b).1 :: m) := by
  refine Con.body (vs := [.pointer (some ⟨a, 0, none⟩)]) (n := 71) Tryz.func86 rfl rfl [(0, .pointer (some ⟨a, 0, none⟩))] (env_ok 1 rfl) <| J_picks2 hp <| J_asTo (B := blk a 250 [.pointer (some ⟨p, 0, none⟩), .int .i64 T.unit, .int .i64 T.space, .int .i64 T.ring, .int .i64 T.root.kind, .int .i64 T.root.obj, .int .i64 T.root.size, .int .i64 T.root.badge, .int .i64 T.root.rights, .int .i64 q.id.1, .int .i64 q.id.2, .int .i64 q.e.op, .int .i64 q.e.flags, .int .u32 q.e.tag, .int .u32 q.e.cap, .int .u32 q.e.a, .int .u32 q.e.b, .int .u32 q.e.c, .int .u32 q.e.time, .int .i64 q.prev, .bool q.soft, .bool q.started, .int .i64 i.1, .int .i64 i.2]) (by rfl) <| sr <| L_op <| x_alloc ty247 rfl fun b2 => nxx <| mv rfl rfl ?_
  refine nc rfl rfl <| fa rfl rfl fa250_2 <| fa rfl rfl fa104_1 <| fa rfl rfl fa31_0 <| L_val rfl (v_load rfl ty3 HS (by exact rfl)) ?_
  refine J_pick (A := blk a _ _) PC ?_
  refine J_asTo (B := actA a p T q i) (by rfl) <| ag rfl rfl <| nx <| mv rfl rfl <| nq <| J_block <| sr <| L_pur rfl (p_eql rfl rfl) ?_
  refine ag rfl rfl <| nq <| J_bool (t := 11) (c := false) rfl (by simp [hop]) <| C_false rfl <| J_seq <| sr <| L_pur rfl (p_eql rfl rfl) <| ag rfl rfl ?_
  refine nq <| J_bool (t := 14) (c := false) rfl (by simp [hop]) <| C_false rfl <| sr <| L_pur rfl (p_eql rfl rfl) <| ag rfl rfl <| nq <| J_bool (t := 14) (c := false) rfl (by simp [hop]) ?_
  refine C_false rfl <| sr <| L_pur rfl (p_eql rfl rfl) <| ag rfl rfl <| nq <| J_bool (t := 14) (c := false) rfl (by simp [hop]) <| C_false rfl <| sr ?_
  refine L_pur rfl (p_eql rfl rfl) <| ag rfl rfl <| nq <| J_bool (t := 14) (c := false) rfl (by simp [hop]) <| C_false rfl <| J_region <| L_pur rfl (p_eql rfl rfl) <| ag rfl rfl ?_
  refine nq <| J_bool (t := 14) (c := false) rfl (by simp [hop]) <| C_false rfl <| sr <| L_pur rfl (p_eql rfl rfl) <| ag rfl rfl <| nq <| J_bool (t := 22) (c := false) rfl (by simp [hop]) ?_
  refine C_false rfl <| sr <| L_pur rfl (p_eql rfl rfl) <| ag rfl rfl <| nq <| J_bool (t := 26) (c := false) rfl (by simp [hop]) <| C_false rfl <| sr ?_
  refine L_pur rfl (p_eql rfl rfl) <| ag rfl rfl <| nq <| J_bool (t := 30) (c := false) rfl (by simp [hop]) <| C_false rfl <| J_seq <| sr <| L_pur rfl (p_eql rfl rfl) ?_
  refine ag rfl rfl <| nq <| J_bool (t := 34) (c := false) rfl (by simp [hop]) <| C_false rfl <| J_region <| L_pur rfl (p_eql rfl rfl) <| ag rfl rfl <| nq ?_
  refine J_bool (t := 34) (c := false) rfl (by simp [hop]) <| C_false rfl <| sr <| L_pur rfl (p_eql rfl rfl) <| ag rfl rfl <| nq <| J_bool (t := 41) (c := false) rfl (by simp [hop]) <| C_false rfl ?_
  refine sr <| L_pur rfl (p_eql rfl rfl) <| ag rfl rfl <| nq <| J_bool (t := 45) (c := false) rfl (by simp [hop]) <| C_false rfl <| sr <| L_pur rfl (p_eql rfl rfl) ?_
  refine ag rfl rfl <| nq <| J_bool (t := 49) (c := false) rfl (by simp [hop]) <| C_false rfl <| sr <| L_pur rfl (p_eql rfl rfl) <| ag rfl rfl <| nq ?_
  refine J_bool (t := 53) (c := false) rfl (by simp [hop]) <| C_false rfl <| J_seq <| sr <| L_pur rfl (p_eql rfl rfl) <| ag rfl rfl <| nq <| J_bool (t := 57) (c := false) rfl (by simp [hop]) ?_
  refine C_false rfl <| sr <| L_pur rfl (p_eql rfl rfl) <| ag rfl rfl <| nq <| J_bool (t := 57) (c := false) rfl (by simp [hop]) <| C_false rfl <| J_region ?_
  refine L_pur rfl (p_eql rfl rfl) <| ag rfl rfl <| nq <| J_bool (t := 57) (c := false) rfl (by simp [hop]) <| C_false rfl <| sr <| L_pur rfl (p_eql rfl rfl) <| ag rfl rfl ?_
  refine nq <| J_bool (t := 63) (c := false) rfl (by simp [hop]) <| C_false rfl <| sr <| L_pur rfl (p_eql rfl rfl) <| ag rfl rfl <| nq <| J_bool (t := 66) (c := true) rfl (by simp [hop]) ?_
  refine C_true rfl <| sr <| mv rfl rfl <| L_op <| xc fc127 (.cons rfl .nil) rfl (cancelsG PX hG.fit) fun _ => ?_
  refine L_op <| x_store rfl rfl ty247 rfl SM SM RO PT ?_
  refine nq <| J_ret <| Q_blk_ret <| Q_then_ret ?_
  have hks : ∀ b, kDoes s T q i b = ((kCancels s q.e i).1, failO (kCancels s q.e i).2) := fun b => by unfold kDoes; simp only [hop]; rfl
  refine J_pick (A := coA p _) PC ?_
  refine J_asTo (B := coA p (kDoes s T q i 0).1) (by rw [hks]; try rfl) <| J_pick (A := actA a p T q i) PC ?_
  refine J_return (0) Tryz.results86 (.cellA rfl ty247 HS CT .nil) ?_ ?_
  · rw [hks]; rfl
  · exact SU
theorem doesC20 {s : KS} {T : Th} {q : Rq} {i : ID} {N M : Nat} (hG : Good s N M) (hE : SqeOk q.e) (hop : q.e.op = 20) : DoesC s T q i := fun _ _ _ _ _ hp => does20G hp hG hE hop
def kAct (s : KS) (i : ID) (b : Nat) : KS × Out := match look s.rt i with
  | none => (s, none)
  | some q => match kOwner s i.1 with
    | none => (s, failO 11)
    | some T => kDoes s T q i b
def kStart (s : KS) (i : ID) (b : Nat) : KS × Bool := match look s.rt i with
  | none => (s, false)
  | some q => if q.started = true then (s, false) else match kAct { s with rt := rtS s.rt i } i b with
    | (t, none) => (t, true)
    | (t, some x) => (kDec t.rt.length t i x.1 x.2, true)
theorem coActG {E : World} {l m : List As} {p : Nat} {s : KS} (hp : Pick (coA p s) l m) {i : ID} {N M : Nat} (hG : Good s N M) (hD : ∀ (q : Rq) (T : Th), look s.rt i = some q → DoesC s T q i) :
    Con Tryz.prog 53 #[.pointer (some ⟨p, 0, none⟩), .agg (encI i).toArray] E l (fun b : Nat => .tuple #[.int .i64 (((kAct s i b).2.getD (0, 0)).1), .int .u32 (((kAct s i b).2.getD (0, 0)).2), .bool (kAct s i b).2.isSome]) (fun b => coA p (kAct s i b).1 :: m) := by
  refine Con.body (vs := [.pointer (some ⟨p, 0, none⟩), .agg (encI i).toArray]) (n := 42) Tryz.func53 rfl rfl [(0, .pointer (some ⟨p, 0, none⟩)), (1, .agg (encI i).toArray)] (env_ok 2 rfl) <| J_pick hp <| sr <| L_op <| x_box rfl rfl rfl fun b3 => ag rfl rfl <| ag rfl rfl <| ag rfl rfl ?_
  refine nq <| J_seq <| J_drawL none mixed <| ip 0 rfl rfl rfl rfl (p_move rfl) <| iv 2 rfl rfl rfl rfl (fun _ => v_loadA rfl ty39 HS CT) ?_
  refine I_ready (rs := [1, 7]) SI (by kernel_rfl) (by simp) ?_
  refine (I_cons rfl ?_ (I_cons rfl ?_ I_nil))
  refine xc fc22 (.cons rfl .nil) rfl (coReqs) fun _ => I_ready (rs := [3, 7]) SI (by kernel_rfl) (by simp) ?_
  refine (I_cons rfl ?_ (I_cons rfl ?_ I_nil))
  refine xc fc51 (.cons rfl (.cons rfl .nil)) rfl (coRqGet (s := s) (i := i) PC) fun _ => ?_
  refine ip 4 rfl rfl rfl rfl (p_move rfl) <| ip 5 rfl rfl rfl rfl (p_extract rfl rfl) <| ip 6 rfl rfl rfl rfl (p_extract rfl rfl) <| i1 7 rfl <| x_alloc ty104 rfl fun b7 => i1 8 rfl <| x_store rfl rfl ty104 rfl SM SM RO PT ?_
  refine ip 9 rfl rfl rfl rfl (p_assign rfl) <| i0 <| Q_then <| J_seq <| sr <| mv rfl rfl <| L_pur rfl (p_not rfl) <| nq ?_
  refine C_split rfl (fun h19 => ?_) (fun h19 => ?_)
  have hq : look s.rt i = none := by
    cases hq : look s.rt i with
    | none => rfl
    | some y => rw [hq] at h19; simp at h19
  have hka : ∀ b, kAct s i b = (s, none) := fun b => by unfold kAct; rw [hq]
  refine sr <| ag rfl rfl <| ag rfl rfl <| ag rfl rfl <| nq <| J_ret <| Q_then_ret <| J_pick (A := coA p _) PC ?_
  refine J_asTo (B := coA p (kAct s i 0).1) (by rw [hka]) ?_
  refine J_return (0) Tryz.results53 (.tmp rfl (.tmp rfl (.tmp rfl .nil))) ?_ ?_
  · rw [hka]; rfl
  · exact SU
  obtain ⟨q, hq⟩ : ∃ x, look s.rt i = some x := by
    cases hq : look s.rt i with
    | none => rw [hq] at h19; simp at h19
    | some y => exact ⟨y, rfl⟩
  refine J_pick (A := blk b7 _ _) PC ?_
  refine J_asTo (B := blk b7 104 (encQ q)) (by rw [hq]; rfl) <| J_skip <| qx <| mv rfl rfl <| fa rfl rfl fa39_0 <| L_val rfl (v_load rfl ty3 HS (by exact rfl)) ?_
  refine L_op <| xc fc85 (.cons rfl (.cons rfl .nil)) rfl (coOwner (s := s) (r := i.1) PC) fun x24 => ?_
  refine J_pure fun hO => ?_
  obtain rfl := hG.own _ _ hO
  refine mv rfl rfl <| L_pur rfl (p_extract rfl rfl) <| L_pur rfl (p_extract rfl rfl) <| L_op <| x_alloc ty193 rfl fun b9 => L_op <| x_store rfl rfl ty193 rfl SM SM RO PT ?_
  refine ag rfl rfl <| nxx <| mv rfl rfl <| L_pur rfl (p_not rfl) <| nq ?_
  refine C_split rfl (fun h28 => ?_) (fun h28 => ?_)
  have hT : kOwner s i.1 = none := by
    cases hq : kOwner s i.1 with
    | none => rfl
    | some y => rw [hq] at h28; simp at h28
  have hka : ∀ b, kAct s i b = (s, failO 11) := fun b => by unfold kAct; rw [hq]; dsimp only; rw [hT]
  refine sr <| ag rfl rfl <| ag rfl rfl <| ag rfl rfl <| nq <| J_ret <| Q_then_ret <| J_pick (A := coA p _) PC ?_
  refine J_asTo (B := coA p (kAct s i 0).1) (by rw [hka]) ?_
  refine J_return (0) Tryz.results53 (.tmp rfl (.tmp rfl (.tmp rfl .nil))) ?_ ?_
  · rw [hka]; rfl
  · exact SU
  obtain ⟨T, hT⟩ : ∃ x, kOwner s i.1 = some x := by
    cases hq : kOwner s i.1 with
    | none => rw [hq] at h28; simp at h28
    | some y => exact ⟨y, rfl⟩
  have hka : ∀ b, kAct s i b = kDoes s T q i b := fun b => by unfold kAct; rw [hq]; dsimp only; rw [hT]
  refine J_skip <| qx <| mv rfl rfl <| L_val rfl (v_loadA rfl ty193 HS CT) ?_
  refine L_val rfl (v_loadA rfl ty104 HS CT) ?_
  refine L_val rfl (v_loadA rfl ty39 HS CT) ?_
  refine L_pur rfl (bld250 (.cons rfl (.cons rfl (.cons rfl (.cons rfl .nil)))) (by repeat constructor)) <| L_op <| x_box rfl rfl rfl fun b34 => J_pick (A := blk b34 _ _) PC ?_
  refine J_asTo (B := actA b34 p T q i) (by rw [hT]; rfl) <| L_op <| xc fc86 (.cons rfl .nil) rfl (hD q T hq _ _ _ b34 p PX) fun x36 => ?_
  refine L_op <| x_alloc ty247 rfl fun b10 => L_op <| x_store rfl rfl ty247 rfl SM SM RO PT ?_
  refine nxx <| fa rfl rfl fa247_2 <| L_val rfl (v_load rfl ty4 HS (by exact rfl)) ?_
  refine nq ?_
  refine C_split rfl (fun h37 => ?_) (fun h37 => ?_)
  refine sr <| ag rfl rfl <| ag rfl rfl <| ag rfl rfl <| nq <| J_ret <| Q_then_ret <| J_pick (A := coA p _) PC ?_
  refine J_asTo (B := coA p (kAct s i x36).1) (by rw [hka]) ?_
  refine J_return (x36) Tryz.results53 (.tmp rfl (.tmp rfl (.tmp rfl .nil))) ?_ ?_
  · rw [hka]; cases ho : (kDoes s T q i x36).2 with
    | none => rfl
    | some y => rw [ho] at h37; cases h37
  · exact SU
  refine J_skip <| Q_then <| J_seq <| J_drawS mixed (by kernel_rfl) <| sp rfl (p_fieldAddr rfl fa247_0) <| S_val rfl (v_load rfl ty3 HS (by exact rfl)) ?_
  refine sp rfl (p_fieldAddr rfl fa247_1) <| S_val rfl (v_load rfl ty22 HS (by exact rfl)) ?_
  refine sp rfl (p_assign rfl) <| sp rfl (p_assign rfl) <| sp rfl (p_assign rfl) <| sq <| J_ret <| J_pick (A := coA p _) PC ?_
  refine J_asTo (B := coA p (kAct s i x36).1) (by rw [hka]) ?_
  refine J_return (x36) Tryz.results53 (.tmp rfl (.tmp rfl (.tmp rfl .nil))) ?_ ?_
  · rw [hka]; cases ho : (kDoes s T q i x36).2 with
    | none => rw [ho] at h37; cases h37
    | some y => rfl
  · exact SU
  refine x_alloc ty104 rfl fun b7 => i1 3 rfl <| xc fc51 (.cons rfl (.cons rfl .nil)) rfl (coRqGet (s := s) (i := i) PC) fun _ => ?_
  refine ip 4 rfl rfl rfl rfl (p_move rfl) <| ip 5 rfl rfl rfl rfl (p_extract rfl rfl) <| ip 6 rfl rfl rfl rfl (p_extract rfl rfl) <| i1 8 rfl <| x_store rfl rfl ty104 rfl SM SM RO PT ?_
  refine ip 9 rfl rfl rfl rfl (p_assign rfl) <| i0 <| Q_then <| J_seq <| sr <| mv rfl rfl <| L_pur rfl (p_not rfl) <| nq ?_
  refine C_split rfl (fun h19 => ?_) (fun h19 => ?_)
  have hq : look s.rt i = none := by
    cases hq : look s.rt i with
    | none => rfl
    | some y => rw [hq] at h19; simp at h19
  have hka : ∀ b, kAct s i b = (s, none) := fun b => by unfold kAct; rw [hq]
  refine sr <| ag rfl rfl <| ag rfl rfl <| ag rfl rfl <| nq <| J_ret <| Q_then_ret <| J_pick (A := coA p _) PC ?_
  refine J_asTo (B := coA p (kAct s i 0).1) (by rw [hka]) ?_
  refine J_return (0) Tryz.results53 (.tmp rfl (.tmp rfl (.tmp rfl .nil))) ?_ ?_
  · rw [hka]; rfl
  · exact SU
  obtain ⟨q, hq⟩ : ∃ x, look s.rt i = some x := by
    cases hq : look s.rt i with
    | none => rw [hq] at h19; simp at h19
    | some y => exact ⟨y, rfl⟩
  refine J_pick (A := blk b7 _ _) PC ?_
  refine J_asTo (B := blk b7 104 (encQ q)) (by rw [hq]; rfl) <| J_skip <| qx <| mv rfl rfl <| fa rfl rfl fa39_0 <| L_val rfl (v_load rfl ty3 HS (by exact rfl)) ?_
  refine L_op <| xc fc85 (.cons rfl (.cons rfl .nil)) rfl (coOwner (s := s) (r := i.1) PC) fun x24 => ?_
  refine J_pure fun hO => ?_
  obtain rfl := hG.own _ _ hO
  refine mv rfl rfl <| L_pur rfl (p_extract rfl rfl) <| L_pur rfl (p_extract rfl rfl) <| L_op <| x_alloc ty193 rfl fun b9 => L_op <| x_store rfl rfl ty193 rfl SM SM RO PT ?_
  refine ag rfl rfl <| nxx <| mv rfl rfl <| L_pur rfl (p_not rfl) <| nq ?_
  refine C_split rfl (fun h28 => ?_) (fun h28 => ?_)
  have hT : kOwner s i.1 = none := by
    cases hq : kOwner s i.1 with
    | none => rfl
    | some y => rw [hq] at h28; simp at h28
  have hka : ∀ b, kAct s i b = (s, failO 11) := fun b => by unfold kAct; rw [hq]; dsimp only; rw [hT]
  refine sr <| ag rfl rfl <| ag rfl rfl <| ag rfl rfl <| nq <| J_ret <| Q_then_ret <| J_pick (A := coA p _) PC ?_
  refine J_asTo (B := coA p (kAct s i 0).1) (by rw [hka]) ?_
  refine J_return (0) Tryz.results53 (.tmp rfl (.tmp rfl (.tmp rfl .nil))) ?_ ?_
  · rw [hka]; rfl
  · exact SU
  obtain ⟨T, hT⟩ : ∃ x, kOwner s i.1 = some x := by
    cases hq : kOwner s i.1 with
    | none => rw [hq] at h28; simp at h28
    | some y => exact ⟨y, rfl⟩
  have hka : ∀ b, kAct s i b = kDoes s T q i b := fun b => by unfold kAct; rw [hq]; dsimp only; rw [hT]
  refine J_skip <| qx <| mv rfl rfl <| L_val rfl (v_loadA rfl ty193 HS CT) ?_
  refine L_val rfl (v_loadA rfl ty104 HS CT) ?_
  refine L_val rfl (v_loadA rfl ty39 HS CT) ?_
  refine L_pur rfl (bld250 (.cons rfl (.cons rfl (.cons rfl (.cons rfl .nil)))) (by repeat constructor)) <| L_op <| x_box rfl rfl rfl fun b34 => J_pick (A := blk b34 _ _) PC ?_
  refine J_asTo (B := actA b34 p T q i) (by rw [hT]; rfl) <| L_op <| xc fc86 (.cons rfl .nil) rfl (hD q T hq _ _ _ b34 p PX) fun x36 => ?_
  refine L_op <| x_alloc ty247 rfl fun b10 => L_op <| x_store rfl rfl ty247 rfl SM SM RO PT ?_
  refine nxx <| fa rfl rfl fa247_2 <| L_val rfl (v_load rfl ty4 HS (by exact rfl)) ?_
  refine nq ?_
  refine C_split rfl (fun h37 => ?_) (fun h37 => ?_)
  refine sr <| ag rfl rfl <| ag rfl rfl <| ag rfl rfl <| nq <| J_ret <| Q_then_ret <| J_pick (A := coA p _) PC ?_
  refine J_asTo (B := coA p (kAct s i x36).1) (by rw [hka]) ?_
  refine J_return (x36) Tryz.results53 (.tmp rfl (.tmp rfl (.tmp rfl .nil))) ?_ ?_
  · rw [hka]; cases ho : (kDoes s T q i x36).2 with
    | none => rfl
    | some y => rw [ho] at h37; cases h37
  · exact SU
  refine J_skip <| Q_then <| J_seq <| J_drawS mixed (by kernel_rfl) <| sp rfl (p_fieldAddr rfl fa247_0) <| S_val rfl (v_load rfl ty3 HS (by exact rfl)) ?_
  refine sp rfl (p_fieldAddr rfl fa247_1) <| S_val rfl (v_load rfl ty22 HS (by exact rfl)) ?_
  refine sp rfl (p_assign rfl) <| sp rfl (p_assign rfl) <| sp rfl (p_assign rfl) <| sq <| J_ret <| J_pick (A := coA p _) PC ?_
  refine J_asTo (B := coA p (kAct s i x36).1) (by rw [hka]) ?_
  refine J_return (x36) Tryz.results53 (.tmp rfl (.tmp rfl (.tmp rfl .nil))) ?_ ?_
  · rw [hka]; cases ho : (kDoes s T q i x36).2 with
    | none => rw [ho] at h37; cases h37
    | some y => rfl
  · exact SU
  refine x_alloc ty104 rfl fun b7 => i1 1 rfl <| xc fc22 (.cons rfl .nil) rfl (coReqs) fun _ => i1 3 rfl <| xc fc51 (.cons rfl (.cons rfl .nil)) rfl (coRqGet (s := s) (i := i) PC) fun _ => ?_
  refine ip 4 rfl rfl rfl rfl (p_move rfl) <| ip 5 rfl rfl rfl rfl (p_extract rfl rfl) <| ip 6 rfl rfl rfl rfl (p_extract rfl rfl) <| i1 8 rfl <| x_store rfl rfl ty104 rfl SM SM RO PT ?_
  refine ip 9 rfl rfl rfl rfl (p_assign rfl) <| i0 <| Q_then <| J_seq <| sr <| mv rfl rfl <| L_pur rfl (p_not rfl) <| nq ?_
  refine C_split rfl (fun h19 => ?_) (fun h19 => ?_)
  have hq : look s.rt i = none := by
    cases hq : look s.rt i with
    | none => rfl
    | some y => rw [hq] at h19; simp at h19
  have hka : ∀ b, kAct s i b = (s, none) := fun b => by unfold kAct; rw [hq]
  refine sr <| ag rfl rfl <| ag rfl rfl <| ag rfl rfl <| nq <| J_ret <| Q_then_ret <| J_pick (A := coA p _) PC ?_
  refine J_asTo (B := coA p (kAct s i 0).1) (by rw [hka]) ?_
  refine J_return (0) Tryz.results53 (.tmp rfl (.tmp rfl (.tmp rfl .nil))) ?_ ?_
  · rw [hka]; rfl
  · exact SU
  obtain ⟨q, hq⟩ : ∃ x, look s.rt i = some x := by
    cases hq : look s.rt i with
    | none => rw [hq] at h19; simp at h19
    | some y => exact ⟨y, rfl⟩
  refine J_pick (A := blk b7 _ _) PC ?_
  refine J_asTo (B := blk b7 104 (encQ q)) (by rw [hq]; rfl) <| J_skip <| qx <| mv rfl rfl <| fa rfl rfl fa39_0 <| L_val rfl (v_load rfl ty3 HS (by exact rfl)) ?_
  refine L_op <| xc fc85 (.cons rfl (.cons rfl .nil)) rfl (coOwner (s := s) (r := i.1) PC) fun x24 => ?_
  refine J_pure fun hO => ?_
  obtain rfl := hG.own _ _ hO
  refine mv rfl rfl <| L_pur rfl (p_extract rfl rfl) <| L_pur rfl (p_extract rfl rfl) <| L_op <| x_alloc ty193 rfl fun b9 => L_op <| x_store rfl rfl ty193 rfl SM SM RO PT ?_
  refine ag rfl rfl <| nxx <| mv rfl rfl <| L_pur rfl (p_not rfl) <| nq ?_
  refine C_split rfl (fun h28 => ?_) (fun h28 => ?_)
  have hT : kOwner s i.1 = none := by
    cases hq : kOwner s i.1 with
    | none => rfl
    | some y => rw [hq] at h28; simp at h28
  have hka : ∀ b, kAct s i b = (s, failO 11) := fun b => by unfold kAct; rw [hq]; dsimp only; rw [hT]
  refine sr <| ag rfl rfl <| ag rfl rfl <| ag rfl rfl <| nq <| J_ret <| Q_then_ret <| J_pick (A := coA p _) PC ?_
  refine J_asTo (B := coA p (kAct s i 0).1) (by rw [hka]) ?_
  refine J_return (0) Tryz.results53 (.tmp rfl (.tmp rfl (.tmp rfl .nil))) ?_ ?_
  · rw [hka]; rfl
  · exact SU
  obtain ⟨T, hT⟩ : ∃ x, kOwner s i.1 = some x := by
    cases hq : kOwner s i.1 with
    | none => rw [hq] at h28; simp at h28
    | some y => exact ⟨y, rfl⟩
  have hka : ∀ b, kAct s i b = kDoes s T q i b := fun b => by unfold kAct; rw [hq]; dsimp only; rw [hT]
  refine J_skip <| qx <| mv rfl rfl <| L_val rfl (v_loadA rfl ty193 HS CT) ?_
  refine L_val rfl (v_loadA rfl ty104 HS CT) ?_
  refine L_val rfl (v_loadA rfl ty39 HS CT) ?_
  refine L_pur rfl (bld250 (.cons rfl (.cons rfl (.cons rfl (.cons rfl .nil)))) (by repeat constructor)) <| L_op <| x_box rfl rfl rfl fun b34 => J_pick (A := blk b34 _ _) PC ?_
  refine J_asTo (B := actA b34 p T q i) (by rw [hT]; rfl) <| L_op <| xc fc86 (.cons rfl .nil) rfl (hD q T hq _ _ _ b34 p PX) fun x36 => ?_
  refine L_op <| x_alloc ty247 rfl fun b10 => L_op <| x_store rfl rfl ty247 rfl SM SM RO PT ?_
  refine nxx <| fa rfl rfl fa247_2 <| L_val rfl (v_load rfl ty4 HS (by exact rfl)) ?_
  refine nq ?_
  refine C_split rfl (fun h37 => ?_) (fun h37 => ?_)
  refine sr <| ag rfl rfl <| ag rfl rfl <| ag rfl rfl <| nq <| J_ret <| Q_then_ret <| J_pick (A := coA p _) PC ?_
  refine J_asTo (B := coA p (kAct s i x36).1) (by rw [hka]) ?_
  refine J_return (x36) Tryz.results53 (.tmp rfl (.tmp rfl (.tmp rfl .nil))) ?_ ?_
  · rw [hka]; cases ho : (kDoes s T q i x36).2 with
    | none => rfl
    | some y => rw [ho] at h37; cases h37
  · exact SU
  refine J_skip <| Q_then <| J_seq <| J_drawS mixed (by kernel_rfl) <| sp rfl (p_fieldAddr rfl fa247_0) <| S_val rfl (v_load rfl ty3 HS (by exact rfl)) ?_
  refine sp rfl (p_fieldAddr rfl fa247_1) <| S_val rfl (v_load rfl ty22 HS (by exact rfl)) ?_
  refine sp rfl (p_assign rfl) <| sp rfl (p_assign rfl) <| sp rfl (p_assign rfl) <| sq <| J_ret <| J_pick (A := coA p _) PC ?_
  refine J_asTo (B := coA p (kAct s i x36).1) (by rw [hka]) ?_
  refine J_return (x36) Tryz.results53 (.tmp rfl (.tmp rfl (.tmp rfl .nil))) ?_ ?_
  · rw [hka]; cases ho : (kDoes s T q i x36).2 with
    | none => rw [ho] at h37; cases h37
    | some y => rfl
  · exact SU
end Go.Pse
namespace Go.Pse
open Go.RowKit Go.Proofs
theorem nodup_length_le {α : Type} [DecidableEq α] : ∀ {l m : List α}, l.Nodup → (∀ x ∈ l, x ∈ m) → l.length ≤ m.length
  | [], _, _, _ => Nat.zero_le _
  | x :: l, m, hn, hm => by
    rw [List.nodup_cons] at hn
    have hx := hm x List.mem_cons_self
    have h1 := nodup_length_le (l := l) (m := m.erase x) hn.2 fun y hy => by
      rw [List.mem_erase_of_ne (fun e => hn.1 (by rw [← e]; exact hy))]
      exact hm y (List.mem_cons_of_mem _ hy)
    rw [List.length_erase_of_mem hx] at h1
    have := List.length_pos_of_mem hx
    simp only [List.length_cons]
    omega
/-! ### plain: the slots are a tree, whatever is asked -/
theorem kids_mem {ps : List (Place × SV)} {p a : Place} (hK : Keyd ps) : a ∈ kids ps p ↔ (look ps p).isSome = true ∧ ∃ s, look ps a = some s ∧ s.2 = p := by
  unfold kids
  split
  · rename_i h
    rw [heirs_mem]
    constructor
    · rintro ⟨s, h1, h2⟩
      exact ⟨h, s, look_mem hK h1, by simpa using h2⟩
    · rintro ⟨_, s, h1, h2⟩
      exact ⟨s, mem_look h1, by simpa using h2⟩
  · rename_i h
    constructor
    · intro e; cases e
    · rintro ⟨e, _⟩; exact absurd e h
theorem turnL_keyd {to : Place} : ∀ {l : List Place} {ps : List (Place × SV)}, Keyd ps → Keyd (turnL ps to l)
  | [], _, h => h
  | _ :: l, _, h => turnL_keyd (l := l) (h.ins _ _)
theorem turnL_look {to x : Place} : ∀ {l : List Place} {ps : List (Place × SV)}, look (turnL ps to l) x = if x ∈ l then some (((look ps x).getD s0).1, to) else look ps x
  | [], _ => rfl
  | k :: l, ps => by
    have h := turnL_look (to := to) (x := x) (l := l) (ps := ins ps k (((look ps k).getD s0).1, to))
    show look (turnL (ins ps k (((look ps k).getD s0).1, to)) to l) x = _
    rw [h, look_ins]
    by_cases h1 : k = x
    · subst h1
      simp
    · have h2 : (x ∈ k :: l) ↔ x ∈ l := by simp [Ne.symm h1]
      simp [h1, h2]
structure TreeOk (ps : List (Place × SV)) : Prop where
  keyd : Keyd ps
  can : ∀ x s, look ps x = some s → canP x = true
  par : ∀ x s, look ps x = some s → s.2 = (0, 0) ∨ (look ps s.2).isSome = true
  caps : ∀ x s, look ps x = some s → checkC s.1 = true
  rank : ∃ rk : Place → Nat, ∀ x s, look ps x = some s → s.2 ≠ (0, 0) → rk s.2 < rk x
theorem TreeOk.capsOk {ps : List (Place × SV)} (h : TreeOk ps) : CapsOk ps := fun e he => h.caps e.1 e.2 (look_mem h.keyd he)
theorem canP_zero : canP (0, 0) = false := by decide
theorem TreeOk.nz {ps : List (Place × SV)} (h : TreeOk ps) {x : Place} (hx : (look ps x).isSome = true) : x ≠ (0, 0) := fun e => by
  obtain ⟨s, hs⟩ := Option.isSome_iff_exists.1 hx
  have := h.can x s hs
  rw [e, canP_zero] at this; cases this
def maxRk (rk : Place → Nat) (ps : List (Place × SV)) : Nat := ps.foldr (fun e n => max (rk e.1) n) 0
theorem TreeOk.put {ps : List (Place × SV)} (h : TreeOk ps) (p : Place) (c : Cap) (q : Place) : TreeOk (slPut ps p c q) := by
  unfold slPut
  split
  · rename_i hok
    unfold slPutOk at hok
    simp only [Bool.and_eq_true, Bool.not_eq_true', Bool.or_eq_true, decide_eq_true_eq] at hok
    obtain ⟨⟨⟨h1, h2⟩, h3⟩, h4⟩ := hok
    have hnone : look ps p = none := by cases hq : look ps p with
      | none => rfl
      | some y => rw [hq] at h2; cases h2
    obtain ⟨rk, hrk⟩ := h.rank
    have hold : ∀ x s, look ps x = some s → x ≠ p := fun x s hx e => by rw [e, hnone] at hx; cases hx
    refine ⟨h.keyd.ins _ _, fun x s hx => ?_, fun x s hx => ?_, fun x s hx => ?_, ⟨fun x => if x = p then maxRk rk ps + rk q + 1 else rk x, fun x s hx hs => ?_⟩⟩
    · rw [look_ins] at hx
      split at hx
      · rename_i e; rw [← e]; exact h1
      · exact h.can x s hx
    · rw [look_ins] at hx ⊢
      split at hx
      · cases hx
        rcases h4 with h4 | h4
        · exact .inl h4
        · right; split
          · rfl
          · exact h4
      · rcases h.par x s hx with h5 | h5
        · exact .inl h5
        · right; split
          · rfl
          · exact h5
    · rw [look_ins] at hx
      split at hx
      · cases hx; exact h3
      · exact h.caps x s hx
    · rw [look_ins] at hx
      split at hx
      · rename_i e
        cases hx
        rcases h4 with h4 | h4
        · exact absurd h4 hs
        · have hqp : q ≠ p := fun e2 => by rw [e2, hnone] at h4; cases h4
          dsimp only
          rw [if_neg hqp, if_pos e.symm]; omega
      · have hsp : s.2 ≠ p := fun e => by
          rcases h.par x s hx with h5 | h5
          · exact hs h5
          · rw [e, hnone] at h5; cases h5
        dsimp only
        rw [if_neg hsp, if_neg (hold x s hx)]
        exact hrk x s hx hs
  · exact h
theorem TreeOk.drop {ps : List (Place × SV)} (h : TreeOk ps) (p : Place) : TreeOk (dropS ps p) := by
  unfold dropS
  cases hp : look ps p with
  | none => exact h
  | some s0' =>
    obtain ⟨rk, hrk⟩ := h.rank
    have hsp : s0'.2 ≠ p := fun e => by
      have h1 := h.nz (x := p) (by rw [hp]; rfl)
      have := hrk p s0' hp (by rw [e]; exact h1)
      rw [e] at this; omega
    have hlk : ∀ x s, look (del (turnS ps p s0'.2) p) x = some s → x ≠ p ∧ ∃ t, look ps x = some t ∧ ((t.2 = p ∧ s = (t.1, s0'.2)) ∨ (t.2 ≠ p ∧ s = t)) := fun x s hx => by
      rw [look_del] at hx
      split at hx
      · cases hx
      · rename_i hne
        refine ⟨fun e => hne e.symm, ?_⟩
        unfold turnS at hx
        rw [turnL_look] at hx
        split at hx
        · rename_i hk
          obtain ⟨_, t, h1, h2⟩ := (kids_mem h.keyd).1 hk
          refine ⟨t, h1, .inl ⟨h2, ?_⟩⟩
          rw [h1] at hx; exact (Option.some.inj hx).symm
        · rename_i hk
          refine ⟨s, hx, .inr ⟨fun e => hk ((kids_mem h.keyd).2 ⟨by rw [hp]; rfl, s, hx, e⟩), rfl⟩⟩
    have hsome : ∀ x, x ≠ p → (look ps x).isSome = true → (look (del (turnS ps p s0'.2) p) x).isSome = true := fun x hx h1 => by
      rw [look_del, if_neg (fun e => hx e.symm)]
      unfold turnS
      exact turnL_some h1
    refine ⟨(turnL_keyd h.keyd).del _, fun x s hx => ?_, fun x s hx => ?_, fun x s hx => ?_, ⟨rk, fun x s hx hs => ?_⟩⟩
    · obtain ⟨_, t, h1, _⟩ := hlk x s hx
      exact h.can x t h1
    · obtain ⟨_, t, h1, h2⟩ := hlk x s hx
      rcases h2 with ⟨_, rfl⟩ | ⟨h2, rfl⟩
      · rcases h.par p s0' hp with h3 | h3
        · exact .inl h3
        · exact .inr (hsome _ hsp h3)
      · rcases h.par x s h1 with h3 | h3
        · exact .inl h3
        · exact .inr (hsome _ h2 h3)
    · obtain ⟨_, t, h1, h2⟩ := hlk x s hx
      rcases h2 with ⟨_, rfl⟩ | ⟨_, rfl⟩
      · exact h.caps x t h1
      · exact h.caps x s h1
    · obtain ⟨_, t, h1, h2⟩ := hlk x s hx
      rcases h2 with ⟨h2, rfl⟩ | ⟨_, rfl⟩
      · have h3 := hrk p s0' hp hs
        have h4 := hrk x t h1 (by rw [h2]; exact h.nz (by rw [hp]; rfl))
        rw [h2] at h4
        show rk s0'.2 < rk x
        omega
      · exact hrk x s h1 hs
theorem TreeOk.move {ps : List (Place × SV)} (h : TreeOk ps) (a b : Place) : TreeOk (moveS ps a b) := by
  unfold moveS
  split
  · rename_i hok
    unfold moveOk at hok
    simp only [Bool.and_eq_true, Bool.not_eq_true'] at hok
    obtain ⟨⟨h1, h2⟩, h3⟩ := hok
    obtain ⟨sa, ha⟩ := Option.isSome_iff_exists.1 h1
    have hnb : look ps b = none := by cases hq : look ps b with
      | none => rfl
      | some y => rw [hq] at h3; cases h3
    have hab : a ≠ b := fun e => by rw [e, hnb] at ha; cases ha
    rw [ha]
    show TreeOk (ins (del (turnS ps a b) a) b sa)
    obtain ⟨rk, hrk⟩ := h.rank
    have hsa : sa.2 ≠ a := fun e => by
      have := hrk a sa ha (by rw [e]; exact h.nz h1)
      rw [e] at this; omega
    have hsb : sa.2 ≠ b := fun e => by
      rcases h.par a sa ha with h4 | h4
      · rw [e] at h4; rw [h4, canP_zero] at h2; cases h2
      · rw [e, hnb] at h4; cases h4
    have hlk : ∀ x s, look (ins (del (turnS ps a b) a) b sa) x = some s → (x = b ∧ s = sa) ∨ (x ≠ b ∧ x ≠ a ∧ ∃ t, look ps x = some t ∧ ((t.2 = a ∧ s = (t.1, b)) ∨ (t.2 ≠ a ∧ s = t))) := fun x s hx => by
      rw [look_ins] at hx
      split at hx
      · rename_i e; exact .inl ⟨e.symm, (Option.some.inj hx).symm⟩
      · rename_i hne
        rw [look_del] at hx
        split at hx
        · cases hx
        · rename_i hne2
          refine .inr ⟨fun e => hne e.symm, fun e => hne2 e.symm, ?_⟩
          unfold turnS at hx
          rw [turnL_look] at hx
          split at hx
          · rename_i hk
            obtain ⟨_, t, g1, g2⟩ := (kids_mem h.keyd).1 hk
            refine ⟨t, g1, .inl ⟨g2, ?_⟩⟩
            rw [g1] at hx; exact (Option.some.inj hx).symm
          · rename_i hk
            exact ⟨s, hx, .inr ⟨fun e => hk ((kids_mem h.keyd).2 ⟨h1, s, hx, e⟩), rfl⟩⟩
    have hsome : ∀ x, x ≠ a → (look ps x).isSome = true → (look (ins (del (turnS ps a b) a) b sa) x).isSome = true := fun x hx g => by
      rw [look_ins]; split
      · rfl
      · rw [look_del, if_neg (fun e => hx e.symm)]
        unfold turnS
        exact turnL_some g
    have hb : (look (ins (del (turnS ps a b) a) b sa) b).isSome = true := by rw [look_ins, if_pos rfl]; rfl
    refine ⟨((turnL_keyd h.keyd).del _).ins _ _, fun x s hx => ?_, fun x s hx => ?_, fun x s hx => ?_, ⟨fun x => if x = b then rk a else rk x, fun x s hx hs => ?_⟩⟩
    · rcases hlk x s hx with ⟨rfl, _⟩ | ⟨_, _, t, g1, _⟩
      · exact h2
      · exact h.can x t g1
    · rcases hlk x s hx with ⟨rfl, rfl⟩ | ⟨_, _, t, g1, g2⟩
      · rcases h.par a s ha with g | g
        · exact .inl g
        · exact .inr (hsome _ hsa g)
      · rcases g2 with ⟨_, rfl⟩ | ⟨g2, rfl⟩
        · exact .inr hb
        · rcases h.par x s g1 with g | g
          · exact .inl g
          · exact .inr (hsome _ g2 g)
    · rcases hlk x s hx with ⟨rfl, rfl⟩ | ⟨_, _, t, g1, g2⟩
      · exact h.caps a s ha
      · rcases g2 with ⟨_, rfl⟩ | ⟨_, rfl⟩
        · exact h.caps x t g1
        · exact h.caps x s g1
    · rcases hlk x s hx with ⟨rfl, rfl⟩ | ⟨gx, gy, t, g1, g2⟩
      · dsimp only
        rw [if_neg hsb, if_pos rfl]
        exact hrk a s ha hs
      · rcases g2 with ⟨g2, rfl⟩ | ⟨g2, rfl⟩
        · dsimp only
          rw [if_pos rfl, if_neg gx]
          have := hrk x t g1 (by rw [g2]; exact h.nz h1)
          rw [g2] at this; exact this
        · have g3 : s.2 ≠ b := fun e => by
            rcases h.par x s g1 with g | g
            · exact hs g
            · rw [e, hnb] at g; cases g
          dsimp only
          rw [if_neg g3, if_neg gx]
          exact hrk x s g1 hs
  · exact h
theorem dropK_ind {D : List (Place × SV) → Place → List (Place × SV) × List Obj2} {Q : List (Place × SV) → Prop} (hD : ∀ ps p, Q ps → Q (D ps p).1) {u : Int} {x : List (Place × SV) × List Obj2} (hx : Q x.1) : ∀ n, Q (dropK D u n x).1
  | 0 => hx
  | n + 1 => by rw [dropK_succ]; exact hD _ _ (dropK_ind hD hx n)
theorem TreeOk.dropT : ∀ n {ps : List (Place × SV)} (p : Place), TreeOk ps → TreeOk (kDropT n ps p).1
  | 0, _, _, h => h
  | n + 1, ps, p, h => by
    rw [kDropT]
    split
    · exact h
    · split
      · exact h.drop p
      · split
        · exact dropK_ind (Q := TreeOk) (fun ps p h => TreeOk.dropT n p h) (x := (dropS ps p, _)) (h.drop p) 16
        · exact h.drop p
theorem TreeOk.belowL {ps : List (Place × SV)} (h : TreeOk ps) {p : Place} {rk : Place → Nat} (hrk : ∀ x s, look ps x = some s → s.2 ≠ (0, 0) → rk s.2 < rk x) (hp : (look ps p).isSome = true) : ∀ (n : Nat) (done todo : List Place), (done ++ todo).Nodup → (∀ x ∈ done ++ todo, rk p < rk x ∧ ∃ s, look ps x = some s ∧ (s.2 = p ∨ s.2 ∈ done)) → ps.length ≤ n + done.length → ∃ L, belowL ps n done todo = some L ∧ ∀ x ∈ L, (look ps x).isSome = true
  | n, done, [], _, hm, _ => ⟨done, by unfold Go.Pse.belowL; rfl, fun x hx => by
    obtain ⟨_, s, hs, _⟩ := hm x (by simpa using hx)
    rw [hs]; rfl⟩
  | 0, done, a :: ts, hn, hm, hl => by
    exfalso
    have h1 : (done ++ a :: ts).length ≤ (ps.map Prod.fst).length := nodup_length_le hn fun x hx => by
      obtain ⟨_, s, hs, _⟩ := hm x hx
      exact List.mem_map.2 ⟨(x, s), mem_look hs, rfl⟩
    rw [List.length_map] at h1
    simp at h1; omega
  | n + 1, done, a :: ts, hn, hm, hl => by
    rw [Go.Pse.belowL]
    have ha := hm a (by simp)
    obtain ⟨hra, sa, hsa, hpa⟩ := ha
    refine TreeOk.belowL h hrk hp n (done ++ [a]) (ts ++ kids ps a) ?_ ?_ (by simp; omega)
    · have e : done ++ [a] ++ (ts ++ kids ps a) = (done ++ a :: ts) ++ kids ps a := by simp
      rw [e, List.nodup_append]
      refine ⟨hn, ?_, ?_⟩
      · unfold kids
        split
        · unfold heirs
          refine ((sortF_isPerm _).nodup_iff).2 ?_
          exact List.Nodup.sublist (List.Sublist.map _ List.filter_sublist) h.keyd
        · exact List.nodup_nil
      · intro x hx y hy hxy
        subst hxy
        obtain ⟨_, s, hs, h2⟩ := (kids_mem h.keyd).1 hy
        obtain ⟨_, s', hs', h3⟩ := hm x hx
        rw [hs] at hs'
        cases hs'
        rw [h2] at h3
        rcases h3 with h3 | h3
        · rw [h3] at hra; omega
        · have := (List.nodup_append.1 hn).2.2 a h3 a (by simp)
          exact this rfl
    · intro x hx
      rw [show done ++ [a] ++ (ts ++ kids ps a) = (done ++ a :: ts) ++ kids ps a by simp] at hx
      rcases List.mem_append.1 hx with hx | hx
      · obtain ⟨h1, s, h2, h3⟩ := hm x hx
        exact ⟨h1, s, h2, h3.imp id fun h => by simp [h]⟩
      · obtain ⟨_, s, h1, h2⟩ := (kids_mem h.keyd).1 hx
        have h3 := hrk x s h1 (by rw [h2]; exact h.nz (by rw [hsa]; rfl))
        rw [h2] at h3
        exact ⟨by omega, s, h1, .inr (by simp [h2])⟩
theorem TreeOk.below {ps : List (Place × SV)} (h : TreeOk ps) {p : Place} (hp : (look ps p).isSome = true) : ∃ L, belowS ps p = some L ∧ ∀ x ∈ L, (look ps x).isSome = true := by
 obtain ⟨rk, hrk⟩ := h.rank
 obtain ⟨L, h1, h2⟩ := h.belowL hrk hp ps.length [] (kids ps p) (by
  rw [List.nil_append]
  unfold kids
  rw [if_pos hp]
  unfold heirs
  refine ((sortF_isPerm _).nodup_iff).2 ?_
  exact List.Nodup.sublist (List.Sublist.map _ List.filter_sublist) h.keyd) (fun x hx => by
   rw [List.nil_append] at hx
   obtain ⟨_, s, h1, h2⟩ := (kids_mem h.keyd).1 hx
   have h3 := hrk x s h1 (by rw [h2]; exact h.nz hp)
   rw [h2] at h3
   exact ⟨h3, s, h1, .inl h2⟩) (by simp)
 exact ⟨sortP L, by unfold belowS; rw [h1]; rfl, fun x hx => h2 x (by unfold sortP at hx; exact sortF_mem.1 hx)⟩
theorem belowS_none {ps : List (Place × SV)} {p : Place} (hp : look ps p = none) : belowS ps p = some [] := by
  have : kids ps p = [] := by unfold kids; rw [hp]; rfl
  unfold belowS
  rw [this]
  unfold Go.Pse.belowL
  rfl
theorem TreeOk.revL : ∀ {n : Nat} {ps : List (Place × SV)} {p : Place} {out : List Obj2}, TreeOk ps → ps.length < n → (revL p n ps out).isSome = true
 | 0, _, _, _, _, hl => by omega
 | n + 1, ps, p, out, h, hl => by
  have hb : ∃ L, belowS ps p = some L ∧ ∀ x ∈ L, (look ps x).isSome = true := by
   cases hp : look ps p with
   | none => exact ⟨[], belowS_none hp, fun _ hx => by cases hx⟩
   | some s => exact h.below (by rw [hp]; rfl)
  obtain ⟨L, h1, h2⟩ := hb
  cases L with
  | nil => rw [Go.Pse.revL, h1]; rfl
  | cons a ls =>
   rw [revL_step h1]
   obtain ⟨s, hs⟩ := Option.isSome_iff_exists.1 (h2 a List.mem_cons_self)
   obtain ⟨k, hk⟩ : ∃ k, ps.length = k + 1 := ⟨ps.length - 1, by have := del_less hs; omega⟩
   have hless := kDropT_less (n := k) hs
   rw [← hk] at hless
   exact TreeOk.revL (h.dropT _ a) (by omega)
theorem TreeOk.revOk {ps : List (Place × SV)} (h : TreeOk ps) (p : Place) : RevOk ps p := fun _ => h.revL (by omega)
theorem TreeOk.revT {p : Place} : ∀ {n : Nat} {ps : List (Place × SV)} {out : List Obj2} {r : List (Place × SV) × List Obj2}, TreeOk ps → Go.Pse.revL p n ps out = some r → TreeOk r.1 ∧ r.1.length ≤ ps.length
  | 0, _, _, _, _, hr => by simp [Go.Pse.revL] at hr
  | n + 1, ps, out, r, h, hr => by
    obtain ⟨L, hb⟩ := revL_below hr
    cases L with
    | nil => rw [Go.Pse.revL, hb] at hr; cases hr; exact ⟨h, Nat.le_refl _⟩
    | cons a ls =>
      rw [revL_step hb] at hr
      have h1 := TreeOk.revT (h.dropT _ a) hr
      exact ⟨h1.1, Nat.le_trans h1.2 (by have := kDropT_len ps.length ps a; omega)⟩
end Go.Pse
namespace Go.Pse
open Go.RowKit Go.Proofs
/-! ### plain: what holds of every state, whatever is asked -/
structure Well (s : KS) (N M : Nat) : Prop where
  fit : Fits s N M
  q : s.q.length ≤ N
  mp : s.mp.length ≤ N
  sl : s.sl.length ≤ N
  rg : s.rg.length ≤ 1000
  tree : TreeOk s.sl
  marks : MarksOk s.mr
  thr : (s.th.map fun e => e.2.ring).Nodup
  ent : ∀ e ∈ s.rt, SqeOk e.2.e
  rtk : Keyd s.rt
theorem own_of {s : KS} (h : (s.th.map fun e => e.2.ring).Nodup) {r : Int} {x : Option Th} (ho : Owns s r x) : x = kOwner s r := by
 unfold kOwner
 cases x with
 | none =>
  rw [List.find?_eq_none.2 (fun e he => by simpa using ho e he)]; rfl
 | some t =>
  obtain ⟨k, hk, hr⟩ := ho
  have hm := mem_look hk
  cases hf : s.th.find? (fun e => decide (e.2.ring = r)) with
  | none =>
   have := List.find?_eq_none.1 hf (k, t) hm
   simp [hr] at this
  | some e =>
   have he := List.mem_of_find?_eq_some hf
   have hr2 : e.2.ring = r := by have := List.find?_some hf; simpa using this
   obtain ⟨i, hi⟩ := List.getElem?_of_mem hm
   obtain ⟨j, hj⟩ := List.getElem?_of_mem he
   have hij : i = j := nodup_idx h (x := r) (by rw [List.getElem?_map, hi]; simp [hr]) (by rw [List.getElem?_map, hj]; simp [hr2])
   subst hij
   rw [hi] at hj
   cases hj
   rfl
theorem Well.good {s : KS} {N M : Nat} (h : Well s N M) (hN : N + 1 ≤ 90000) (hM : M ≤ 45000) : Good s N M :=
  ⟨h.fit, hN, hM, h.q, h.mp, h.sl, h.rg, h.tree.capsOk, h.marks, h.tree.revOk, fun _ _ => own_of h.thr, h.ent⟩
theorem Well.more {s : KS} {N M : Nat} (h : Well s N M) (hN : N + 1 ≤ 90000) : Well s (N + 1) M :=
  ⟨h.fit.more hN, Nat.le_succ_of_le h.q, Nat.le_succ_of_le h.mp, Nat.le_succ_of_le h.sl, h.rg, h.tree, h.marks, h.thr, h.ent, h.rtk⟩
theorem Well.ended {s t : KS} {N M : Nat} (h : Well s N M) (hf : Fits t N M) (hq : t.q.length ≤ s.q.length) (hmp : t.mp.length ≤ s.mp.length) (hsl : t.sl = s.sl) (hmr : t.mr = s.mr) (hth : t.th.Sublist s.th) (hrg : t.rg.length ≤ s.rg.length) (hrt : t.rt.Sublist s.rt) : Well t N M :=
  ⟨hf, Nat.le_trans hq h.q, Nat.le_trans hmp h.mp, by rw [hsl]; exact h.sl, Nat.le_trans hrg h.rg, by rw [hsl]; exact h.tree, by rw [hmr]; exact h.marks, List.Nodup.sublist (hth.map _) h.thr, fun e he => h.ent e (hrt.subset he), h.rtk.sub hrt⟩
theorem kSaid_th (s : KS) (d : Deed) : (kSaid s d).th = s.th := by unfold kSaid kPost; split <;> rfl
theorem tell_th {D : KS → ID → Int → Int → KS} (hD : ∀ s i r v, (D s i r v).th = s.th) (s : KS) (d : Deed) : (kTell D s d).th = s.th := by
  unfold kTell
  split
  · exact kSaid_th s d
  · split
    · exact (hD _ _ _ _).trans (kSaid_th s d)
    · exact kSaid_th s d
theorem dec_th : ∀ n (s : KS) (i : ID) (r v : Int), (kDec n s i r v).th = s.th
  | 0, s, _, _, _ => rfl
  | n + 1, s, i, r, v => by
    cases hq : look s.rt i with
    | none => rw [kDec_none hq]
    | some q =>
      rw [kDec_some hq]
      have h := tell_th (D := kDec n) (fun s i r v => dec_th n s i r v) (kForget { s with rt := del s.rt i } i) (i, q.e.tag, q.e.op, r, v, false)
      unfold kNext
      split
      · exact h
      · split
        · exact (dec_th n _ _ _ _).trans h
        · exact h
theorem ends_th : ∀ (l : List ID) (s : KS), (kEnds s l).th = s.th
  | [], s => rfl
  | i :: l, s => (ends_th l _).trans (dec_th _ _ _ _ _)
theorem kTearL_th : ∀ (l : List Rq) (s : KS), (kTearL s l).th = s.th
  | [], _ => rfl
  | q :: l, s => kTearL_th l (kTear1 s q)
theorem kTear_th (s : KS) (g : Int) : (kTear s g).th = s.th := by
  unfold kTear
  split
  · exact kTearL_th (ofQ s.rt g) s
  · rfl
theorem torn_th (u : Int) : ∀ (l : List Int) (s : KS), (kTorn s u l).th = s.th
  | [], s => rfl
  | g :: l, s => by
    refine (torn_th u l (tornStep u s g)).trans ?_
    unfold tornStep
    split
    · rfl
    · split
      · exact kTear_th s g
      · rfl
theorem gone_th (s : KS) (k u : Int) : (kGone s k u).th.Sublist s.th := by
  unfold kGone
  (repeat' split) <;> first | exact List.Sublist.refl _ | exact List.filter_sublist (l := s.th)
theorem destroy_th (s : KS) (o : Obj2) : (kDestroy s o).th.Sublist s.th := by
  unfold kDestroy
  refine (gone_th _ _ _).trans ?_
  split
  · rw [torn_th, ends_th]; exact List.Sublist.refl _
  · split
    · rw [kTear_th, ends_th]; exact List.Sublist.refl _
    · rw [ends_th]; exact List.Sublist.refl _
theorem destroyL_th : ∀ (l : List Obj2) (s : KS), (kDestroyL s l).th.Sublist s.th
  | [], _ => List.Sublist.refl _
  | o :: l, s => (destroyL_th l _).trans (destroy_th s o)
theorem Well.dec {s : KS} {N M : Nat} (h : Well s N M) (n : Nat) (i : ID) (r v : Int) : Well (kDec n s i r v) N M := by
  have hk := Kept.dec n s i r v
  exact h.ended (Fits.dec n h.fit).1 (by rw [hk.q]; exact Nat.le_refl _) (by rw [hk.mp]; exact Nat.le_refl _) hk.sl hk.mr (by rw [dec_th]; exact List.Sublist.refl _) (by rw [dec_rglen]; exact Nat.le_refl _) (dec_rt n s i r v)
theorem Well.destroyL {s : KS} {N M : Nat} (h : Well s N M) (l : List Obj2) : Well (kDestroyL s l) N M := by
  have hl := destroyL_len l s
  exact h.ended (h.fit.destroyL h.rtk) hl.1 hl.2.1 hl.2.2.1 hl.2.2.2 (destroyL_th l s) (destroyL_rglen l s) (destroyL_rt l s)
theorem Well.rpU {s : KS} {N M : Nat} (h : Well s N M) (u : Int) (f : ID × Bool → ID × Bool) : Well { s with rp := updO s.rp u f } N M :=
  ⟨h.fit.rpF u f, h.q, h.mp, h.sl, h.rg, h.tree, h.marks, h.thr, h.ent, h.rtk⟩
theorem Well.epU {s : KS} {N M : Nat} (h : Well s N M) (hN : N + 1 ≤ 90000) (u : Int) {f : List Msg × List Rcv → List Msg × List Rcv} (hf : ∀ a, (f a).1.length ≤ a.1.length + 1 ∧ (f a).2.length ≤ a.2.length + 1) : Well { s with ep := updO s.ep u f } (N + 1) M :=
  ⟨h.fit.epF hN u hf, Nat.le_succ_of_le h.q, Nat.le_succ_of_le h.mp, Nat.le_succ_of_le h.sl, h.rg, h.tree, h.marks, h.thr, h.ent, h.rtk⟩
theorem Well.ntU {s : KS} {N M : Nat} (h : Well s N M) (hN : N + 1 ≤ 90000) (u : Int) {f : Int × List ID → Int × List ID} (hf : ∀ a, (f a).2.length ≤ a.2.length + 1) : Well { s with nt := updO s.nt u f } (N + 1) M :=
  ⟨h.fit.ntF hN u hf, Nat.le_succ_of_le h.q, Nat.le_succ_of_le h.mp, Nat.le_succ_of_le h.sl, h.rg, h.tree, h.marks, h.thr, h.ent, h.rtk⟩
theorem Well.slU {s : KS} {N M : Nat} (h : Well s N M) (hN : N + 1 ≤ 90000) {ps : List (Place × SV)} (ht : TreeOk ps) (hl : ps.length ≤ s.sl.length + 1) : Well { s with sl := ps } (N + 1) M := by
  have h2 := h.more hN
  have := h.sl
  exact ⟨⟨h2.fit.n, h2.fit.mm, h2.fit.ids, h2.fit.jn, h2.fit.tm, h2.fit.ep, h2.fit.nt, h2.fit.rp, h2.fit.rg, h2.fit.mem⟩, h2.q, h2.mp, (show ps.length ≤ N + 1 by omega), h2.rg, ht, h2.marks, h2.thr, h2.ent, h2.rtk⟩
theorem Well.mrU {s : KS} {N M : Nat} (h : Well s N M) {mr : List (Place × Int)} (hm : MarksOk mr) : Well { s with mr := mr } N M :=
  ⟨⟨h.fit.n, h.fit.mm, h.fit.ids, h.fit.jn, h.fit.tm, h.fit.ep, h.fit.nt, h.fit.rp, h.fit.rg, h.fit.mem⟩, h.q, h.mp, h.sl, h.rg, h.tree, hm, h.thr, h.ent, h.rtk⟩
theorem Well.mpU {s : KS} {N M : Nat} (h : Well s N M) (hN : N + 1 ≤ 90000) {ps : List (Place × M1)} (hl : ps.length ≤ s.mp.length + 1) : Well { s with mp := ps } (N + 1) M := by
  have h2 := h.more hN
  have := h.mp
  exact ⟨⟨h2.fit.n, h2.fit.mm, h2.fit.ids, h2.fit.jn, h2.fit.tm, h2.fit.ep, h2.fit.nt, h2.fit.rp, h2.fit.rg, h2.fit.mem⟩, h2.q, (show ps.length ≤ N + 1 by omega), h2.sl, h2.rg, h2.tree, h2.marks, h2.thr, h2.ent, h2.rtk⟩
theorem Well.qU {s : KS} {N M : Nat} (h : Well s N M) (hN : N + 1 ≤ 90000) {q : List (Int × Int)} {pr : List (Int × Int)} (hl : q.length ≤ s.q.length + 1) : Well { s with q := q, pr := pr } (N + 1) M := by
  have h2 := h.more hN
  have := h.q
  exact ⟨⟨h2.fit.n, h2.fit.mm, h2.fit.ids, h2.fit.jn, h2.fit.tm, h2.fit.ep, h2.fit.nt, h2.fit.rp, h2.fit.rg, h2.fit.mem⟩, (show q.length ≤ N + 1 by omega), h2.mp, h2.sl, h2.rg, h2.tree, h2.marks, h2.thr, h2.ent, h2.rtk⟩
theorem ins_le {κ υ : Type} [DecidableEq κ] (ps : List (κ × υ)) (a : κ) (u : υ) : (ins ps a u).length ≤ ps.length + 1 := by
  unfold Go.Pse.ins; split <;> simp
theorem slPut_le (ps : List (Place × SV)) (p : Place) (c : Cap) (q : Place) : (slPut ps p c q).length ≤ ps.length + 1 := by
  unfold slPut; split
  · exact ins_le _ _ _
  · omega
theorem copyS_tree {ps : List (Place × SV)} (h : TreeOk ps) (p q : Place) (r : Int) : TreeOk (copyS ps p q r).1 ∧ (copyS ps p q r).1.length ≤ ps.length + 1 := by
  unfold copyS
  (repeat' split) <;> first | exact ⟨h, Nat.le_succ _⟩ | exact ⟨h.put _ _ _, slPut_le _ _ _ _⟩
theorem mintS_tree {ps : List (Place × SV)} (h : TreeOk ps) (p q : Place) (r : Int) : TreeOk (mintS ps p q r).1 ∧ (mintS ps p q r).1.length ≤ ps.length + 1 := by
  unfold mintS
  (repeat' split) <;> first | exact ⟨h, Nat.le_succ _⟩ | exact ⟨h.put _ _ _, slPut_le _ _ _ _⟩
theorem moveS_le (ps : List (Place × SV)) (a b : Place) : (moveS ps a b).length ≤ ps.length + 1 := by
  unfold moveS; split
  · refine Nat.le_trans (ins_le _ _ _) ?_
    have := del_le (ps := turnS ps a b) (i := a)
    rw [turnS_len] at this
    omega
  · omega
theorem dmoveS_tree {ps : List (Place × SV)} (h : TreeOk ps) (p q : Place) : TreeOk (dmoveS ps p q).1 ∧ (dmoveS ps p q).1.length ≤ ps.length + 1 := by
  unfold dmoveS
  dsimp only
  split
  · exact ⟨h.move _ _, moveS_le _ _ _⟩
  · exact ⟨h, Nat.le_succ _⟩
theorem deleteS_tree {ps : List (Place × SV)} (h : TreeOk ps) (p : Place) : TreeOk (deleteS ps p).1.1 ∧ (deleteS ps p).1.1.length ≤ ps.length + 1 := by
  unfold deleteS
  split
  · exact ⟨h, Nat.le_succ _⟩
  · exact ⟨h.dropT _ _, by have := kDropT_len ps.length ps p; show (kDropT ps.length ps p).1.length ≤ _; omega⟩
theorem revokeS_tree {ps : List (Place × SV)} (h : TreeOk ps) (p : Place) : TreeOk (revokeS ps p).1.1 ∧ (revokeS ps p).1.1.length ≤ ps.length + 1 := by
  unfold revokeS
  split
  · exact ⟨h, Nat.le_succ _⟩
  · dsimp only
    cases hr : revL p (ps.length + 1) ps [] with
    | none => exact ⟨h, Nat.le_succ _⟩
    | some r =>
      have := h.revT hr
      exact ⟨this.1, Nat.le_succ_of_le this.2⟩
theorem makeS_tree {ps : List (Place × SV)} {mr : List (Place × Int)} (h : TreeOk ps) (hm : MarksOk mr) (p q : Place) (k z : Int) : TreeOk (makeS ps mr p q k z).1.1 ∧ (makeS ps mr p q k z).1.1.length ≤ ps.length + 1 ∧ MarksOk (makeS ps mr p q k z).1.2 := by
  unfold makeS
  split
  · exact ⟨h, Nat.le_succ _, hm⟩
  · rename_i u hu
    have hcu := checkC_is (h.caps p u hu)
    split
    · exact ⟨h, Nat.le_succ _, hm⟩
    · rename_i h1
      split
      · exact ⟨h, Nat.le_succ _, hm⟩
      · split
        · exact ⟨h, Nat.le_succ _, hm⟩
        · split
          · exact ⟨h, Nat.le_succ _, hm⟩
          · split
            · rename_i hto
              refine ⟨h.put _ _ _, slPut_le _ _ _ _, ?_⟩
              show MarksOk (mtkM _ _ _)
              unfold mtkM
              rw [if_pos hto]
              have hr : rangeC u.1 = (u.1.obj, u.1.size) := if_neg h1
              have hus := usedM_is (hm.reset ps u.1) (rangeC u.1)
              unfold mtkOk at hto
              simp only [Bool.and_eq_true, decide_eq_true_eq] at hto
              rw [hr] at hto hus ⊢
              intro e he
              unfold Go.Pse.ins at he
              split at he
              · obtain ⟨x, hx, rfl⟩ := List.mem_map.1 he
                split
                · dsimp only at hto ⊢; omega
                · exact hm.reset ps u.1 x hx
              · rcases List.mem_append.1 he with he | he
                · exact hm.reset ps u.1 e he
                · rw [List.mem_singleton.1 he]; dsimp only at hto ⊢; omega
            · exact ⟨h, Nat.le_succ _, hm.reset _ _⟩
theorem Well.two {s : KS} {N M : Nat} (h : Well s N M) (hN : N + 1 ≤ 90000) {F : Place → Place → KS × Int} (hF : ∀ x y, Well (F x y).1 (N + 1) M) (o : Option (Place × Place)) : Well (twoS s F o).1 (N + 1) M := by
  cases o with
  | none => exact h.more hN
  | some x => exact hF _ _
theorem Well.kill {s : KS} {N M : Nat} (h : Well s N M) (hN : N + 1 ≤ 90000) {F : Place → (List (Place × SV) × List Obj2) × Int} (hF : ∀ x, TreeOk (F x).1.1 ∧ (F x).1.1.length ≤ s.sl.length + 1) (o : Option Place) : Well (killS s F o).1 (N + 1) M := by
  cases o with
  | none => exact h.more hN
  | some x => exact (h.slU hN (hF x).1 (hF x).2).destroyL _
theorem Well.slots {s : KS} {N M : Nat} (h : Well s N M) (hN : N + 1 ≤ 90000) (T : Th) (e : Sqe) : Well (kSlots s T e).1 (N + 1) M := by
  unfold kSlots
  split
  · exact h.two hN (fun x y => h.slU hN (copyS_tree h.tree x y e.b).1 (copyS_tree h.tree x y e.b).2) _
  · split
    · exact h.two hN (fun x y => h.slU hN (mintS_tree h.tree x y e.b).1 (mintS_tree h.tree x y e.b).2) _
    · split
      · exact h.two hN (fun x y => h.slU hN (dmoveS_tree h.tree x y).1 (dmoveS_tree h.tree x y).2) _
      · split
        · exact h.kill hN (fun x => deleteS_tree h.tree x) _
        · exact h.kill hN (fun x => revokeS_tree h.tree x) _
theorem zrow_len : zrow.length = 512 ∧ Bytes zrow := ⟨List.length_replicate, fun x hx => by
  have := (List.mem_replicate.1 hx).2
  omega⟩
theorem ins_memO {α : Type} {xs : List (Int × α)} {u : Int} {a : α} {x : Int × α} (h : x ∈ ins xs u a) : x ∈ xs ∨ x = (u, a) := by
  unfold Go.Pse.ins at h
  split at h
  · obtain ⟨y, hy, rfl⟩ := List.mem_map.1 h
    split
    · exact .inr rfl
    · exact .inl hy
  · rcases List.mem_append.1 h with h | h
    · exact .inl h
    · exact .inr (List.mem_singleton.1 h)
theorem Well.made {s : KS} {N M : Nat} (h : Well s N M) {c : Cap} (hc : 1 ≤ c.obj ∧ c.obj ≤ 64) (b : Nat) : Well (kMade s c b) N M := by
  have hf := h.fit
  unfold kMade
  split
  · exact ⟨⟨hf.n, hf.mm, hf.ids, hf.jn, hf.tm, fun x hx => by
      rcases ins_memO hx with hx | rfl
      · exact hf.ep x hx
      · exact ⟨hc, Nat.zero_le _, Nat.zero_le _⟩, hf.nt, hf.rp, hf.rg, hf.mem⟩, h.q, h.mp, h.sl, h.rg, h.tree, h.marks, h.thr, h.ent, h.rtk⟩
  · split
    · exact ⟨⟨hf.n, hf.mm, hf.ids, hf.jn, hf.tm, hf.ep, fun x hx => by
        rcases ins_memO hx with hx | rfl
        · exact hf.nt x hx
        · exact ⟨hc, Nat.zero_le _⟩, hf.rp, hf.rg, hf.mem⟩, h.q, h.mp, h.sl, h.rg, h.tree, h.marks, h.thr, h.ent, h.rtk⟩
    · split
      · exact ⟨⟨hf.n, hf.mm, hf.ids, hf.jn, hf.tm, hf.ep, hf.nt, fun x hx => by
          rcases ins_memO hx with hx | rfl
          · exact hf.rp x hx
          · exact hc, hf.rg, hf.mem⟩, h.q, h.mp, h.sl, h.rg, h.tree, h.marks, h.thr, h.ent, h.rtk⟩
      · split
        · exact ⟨⟨hf.n, hf.mm, hf.ids, hf.jn, hf.tm, hf.ep, hf.nt, hf.rp, hf.rg, hf.mem.put zrow_len⟩, h.q, h.mp, h.sl, h.rg, h.tree, h.marks, h.thr, h.ent, h.rtk⟩
        · exact h
theorem Well.ret {s : KS} {N M : Nat} (h : Well s N M) (hN : N + 1 ≤ 90000) (T : Th) (e : Sqe) (b : Nat) : Well (kRetS s T e b) (N + 1) M := by
  have h2 : Well (twoS s (retF s e) (twoAt s T e)).1 (N + 1) M := h.two hN (fun x y => by
    have := makeS_tree h.tree h.marks x y e.b e.c
    exact (h.slU hN this.1 this.2.1).mrU this.2.2) _
  unfold kRetS
  split
  · rename_i hc
    refine h2.made ?_ b
    unfold kRetC at hc
    unfold kRetK
    cases hq : twoAt s T e with
    | none => rw [hq] at hc; simp [twoS] at hc
    | some x => rw [hq] at hc; exact makeS_obj h.tree.capsOk h.marks hc
  · exact h2
theorem spSet_le (ps : List (Place × M1)) (p : Place) (f : M1) : (spSet ps p f).length ≤ ps.length + 1 := by
  unfold spSet; split
  · exact ins_le _ _ _
  · omega
theorem Well.maps {s : KS} {N M : Nat} (h : Well s N M) (hN : N + 1 ≤ 90000) (T : Th) (e : Sqe) : Well (kMaps s T e).1 (N + 1) M := by
  unfold kMaps
  (repeat' split) <;> first | exact h.more hN | exact h.mpU hN (spSet_le _ _ _)
theorem Well.unmap {s : KS} {N M : Nat} (h : Well s N M) (hN : N + 1 ≤ 90000) (T : Th) (e : Sqe) : Well (kUnmap s T e).1 (N + 1) M := by
  have hd : (del s.mp (T.space, e.a)).length ≤ s.mp.length + 1 := Nat.le_succ_of_le del_le
  unfold kUnmap
  (repeat' split) <;> first | exact h.more hN | exact h.mpU hN hd
theorem qSet_le (q : List (Int × Int)) (i p : Int) : (qSet q i p).length ≤ q.length + 1 := by
  unfold qSet
  split
  · split
    · omega
    · exact Nat.le_trans (qAdd_len _ _ _) (Nat.succ_le_succ (qRem_len _ _))
  · omega
theorem Well.thrS {s : KS} {N M : Nat} (h : Well s N M) (hN : N + 1 ≤ 90000) (T : Th) (e : Sqe) : Well (kThreads s T e).1 (N + 1) M := by
  unfold kThreads
  split
  · exact h.more hN
  · split
    · exact h.more hN
    · show Well (kThr s e _).1 (N + 1) M
      unfold kThr
      split
      · exact h.qU hN (pr := s.pr) (qSet_le _ _ _)
      · split
        · show Well (kStop s _) (N + 1) M
          unfold kStop
          split
          · exact h.qU hN (Nat.le_succ_of_le (qRem_len _ _))
          · exact h.more hN
        · show Well (kGo s _) (N + 1) M
          unfold kGo
          split
          · exact h.qU hN (pr := s.pr) (qAdd_len _ _ _)
          · exact h.more hN
theorem Well.bind {s : KS} {N M : Nat} (h : Well s N M) (u : Int) (j : ID) : Well (kBind s u j) N M := by
  unfold kBind
  split
  · exact h
  · split
    · exact (h.rpU _ _).dec _ _ _ _
    · exact h.rpU _ _
theorem Well.send1 {s : KS} {N M : Nat} (h : Well s N M) (hN : N + 1 ≤ 90000) (c : Cap) (e : Sqe) (i : ID) (call : Bool) : Well (kSend1 s c e i call).1 (N + 1) M := by
  unfold kSend1
  split
  · exact h.more hN
  · rename_i y _
    obtain ⟨yb, yo, yi⟩ := y
    have h1 := h.epU hN c.obj (f := sendE (i, e.a, c.badge, call)) fun a => by have := sendE_len (i, e.a, c.badge, call) a; omega
    cases yi with
    | nil => exact h1
    | cons z zs =>
      show Well (kSend3 _ _ _ _).1 (N + 1) M
      unfold kSend3
      split
      · exact h1.dec _ _ _ _
      · split
        · exact h1.dec _ _ _ _
        · exact (h1.dec _ _ _ _).bind _ _
theorem Well.sends {s : KS} {N M : Nat} (h : Well s N M) (hN : N + 1 ≤ 90000) (T : Th) (e : Sqe) (i : ID) (call : Bool) : Well (kSends s T e i call).1 (N + 1) M := by
  unfold kSends
  generalize (if call = true then (6 : Int) else 2) = r
  split
  · exact h.more hN
  · exact h.send1 hN _ _ _ _
theorem Well.met {s : KS} {N M : Nat} (h : Well s N M) (u : Int) (x : Msg) : Well (kMet s u x) N M := by
  unfold kMet
  split
  · split
    · exact h.dec _ _ _ _
    · exact h.bind _ _
  · exact h.dec _ _ _ _
theorem Well.recv1 {s : KS} {N M : Nat} (h : Well s N M) (hN : N + 1 ≤ 90000) (c : Cap) (u : Int) (i : ID) : Well (kRecv1 s c u i).1 (N + 1) M := by
  unfold kRecv1
  split
  · exact h.more hN
  · rename_i y _
    obtain ⟨yb, yo, yi⟩ := y
    have h1 := h.epU hN c.obj (f := recvE (i, u)) fun a => by have := recvE_len (i, u) a; omega
    cases yo with
    | nil => exact h1
    | cons z zs => exact h1.met _ _
theorem Well.recvs {s : KS} {N M : Nat} (h : Well s N M) (hN : N + 1 ≤ 90000) (T : Th) (e : Sqe) (i : ID) : Well (kRecvs s T e i).1 (N + 1) M := by
  unfold kRecvs
  (repeat' split) <;> first | exact h.more hN | exact h.recv1 hN _ _ _
theorem Well.answers {s : KS} {N M : Nat} (h : Well s N M) (hN : N + 1 ≤ 90000) (T : Th) (e : Sqe) : Well (kAnswers s T e).1 (N + 1) M := by
  unfold kAnswers
  (repeat' split) <;> first | exact h.more hN | exact (h.rpU _ _).more hN | exact ((h.rpU _ _).dec _ _ _ _).more hN
theorem Well.sig {s : KS} {N M : Nat} (h : Well s N M) (hN : N + 1 ≤ 90000) (u x : Int) : Well { s with nt := updO s.nt u (ntS x) } (N + 1) M :=
  h.ntU hN u fun a => by have := sigL_len a.1 a.2 x; show (sigL a.1 a.2 x).length ≤ _; omega
theorem Well.signals {s : KS} {N M : Nat} (h : Well s N M) (hN : N + 1 ≤ 90000) (T : Th) (e : Sqe) : Well (kSignals s T e).1 (N + 1) M := by
  unfold kSignals
  split
  · exact h.more hN
  · split
    · exact h.more hN
    · dsimp only
      split
      · exact (h.sig hN _ _).dec _ _ _ _
      · exact h.sig hN _ _
theorem Well.nwaits {s : KS} {N M : Nat} (h : Well s N M) (hN : N + 1 ≤ 90000) (T : Th) (e : Sqe) (i : ID) : Well (kNWaits s T e i).1 (N + 1) M := by
  unfold kNWaits
  split
  · exact h.more hN
  · split
    · exact h.more hN
    · exact h.ntU hN _ fun a => waitL_len a.1 a.2 i
theorem Well.cancels {s : KS} {N M : Nat} (h : Well s N M) (hN : N + 1 ≤ 90000) (e : Sqe) (i : ID) : Well (kCancels s e i).1 (N + 1) M := by
  unfold kCancels
  split
  · exact h.more hN
  · exact (h.dec _ _ _ _).more hN
theorem wif {c : Prop} [Decidable c] {x y : KS × Out} {N M : Nat} (h1 : Well x.1 N M) (h2 : Well y.1 N M) : Well (if c then x else y).1 N M := by
  by_cases h : c
  · rw [if_pos h]; exact h1
  · rw [if_neg h]; exact h2
theorem Well.does {s : KS} {N M : Nat} (h : Well s N M) (hN : N + 1 ≤ 90000) (T : Th) (q : Rq) (i : ID) (b : Nat) : Well (kDoes s T q i b).1 (N + 1) M :=
  wif (h.more hN) <| wif (h.slots hN _ _) <| wif (h.ret hN _ _ _) <| wif (h.maps hN _ _) <| wif (h.unmap hN _ _) <| wif (h.sends hN _ _ _ _) <| wif (h.recvs hN _ _ _) <| wif (h.answers hN _ _) <| wif (h.signals hN _ _) <| wif (h.nwaits hN _ _ _) <| wif (h.thrS hN _ _) <| wif (h.more hN) <| wif (h.cancels hN _ _) <| h.more hN
theorem Well.act {s : KS} {N M : Nat} (h : Well s N M) (hN : N + 1 ≤ 90000) (i : ID) (b : Nat) : Well (kAct s i b).1 (N + 1) M := by
  unfold kAct
  split
  · exact h.more hN
  · split
    · exact h.more hN
    · exact h.does hN _ _ _ _
end Go.Pse
namespace Go.Pse
open Go.RowKit Go.Proofs
theorem addQ_look {ps : List (ID × Rq)} {q : Rq} (h : addOk ps q = true) : look (addQ ps q) q.id = some q := by
  unfold addQ
  rw [if_pos h, look_ins, if_pos rfl]
theorem addQ_ids {ps : List (ID × Rq)} {q : Rq} (h : Ids ps) : Ids (addQ ps q) := fun e he => by
  unfold addQ at he
  split at he
  · rename_i h1
    have hn : look ps q.id = none := by
      unfold addOk at h1
      simp at h1
      cases hq : look ps q.id with
      | none => rfl
      | some y => rw [hq] at h1; simp at h1
    unfold Go.Pse.ins at he
    rw [hn] at he
    simp at he
    rcases he with h2 | rfl
    · exact h e h2
    · rfl
  · exact h e he
theorem alone2 {E : World} {l : List As} :
    Con Tryz.prog 14 #[.int .i64 2] E l (fun g : NewG => .pointer (some ⟨g.p, 0, none⟩)) (fun g => coA g.p (kNew 2 6 3 4 true g) :: l) := by
  refine Con.body (vs := [.int .i64 2]) (n := 37) Tryz.func14 rfl rfl [(0, .int .i64 2)] (env_ok 1 rfl) <| sr <| ag rfl rfl <| nx <| mv rfl rfl <| mv rfl rfl <| L_pur rfl (p_gtr rfl rfl) <| J_bool (t := 6) (c := true) rfl (by decide) ?_
  refine L_pur rfl (bld101 (.cons rfl (.cons rfl (.cons rfl (.cons rfl (.cons rfl .nil))))) (by repeat constructor)) <| J_slot (t := 7) (v := .agg (encG 2 6 3 4 true).toArray) rfl rfl <| L_op <| xc fc44 (.cons rfl .nil) rfl (coNew (ct := 2) (cu := 6) (cs := 3) (cc := 4) (sh := true)) fun g => ag rfl rfl <| nxx <| mv rfl rfl <| L_pur rfl (p_eqNilPtr Tryz.underlying25 rfl) ?_
  refine mv rfl rfl <| J_bool (t := 11) (c := false) rfl (rfl) <| L_op <| G_on rfl rfl rfl <| J_pur (p_move rfl) rfl rfl rfl <| L_op <| G_on rfl rfl rfl <| xc fc22 (.cons rfl .nil) rfl (coReqs) fun _ => ?_
  refine L_op <| G_on rfl rfl rfl <| J_pur (p_eqNilPtr Tryz.underlying48 rfl) rfl rfl rfl <| L_pur rfl (p_pick_f rfl rfl) <| mv rfl rfl <| J_bool (t := 16) (c := false) rfl (rfl) <| L_op <| G_on rfl rfl rfl ?_
  refine J_pur (p_move rfl) rfl rfl rfl <| L_op <| G_on rfl rfl rfl <| xc fc17 (.cons rfl .nil) rfl (coJournal) fun _ => L_op <| G_on rfl rfl rfl <| J_pur (p_eqNilPtr Tryz.underlying33 rfl) rfl rfl rfl <| L_pur rfl (p_pick_f rfl rfl) ?_
  refine mv rfl rfl <| J_bool (t := 21) (c := false) rfl (rfl) <| L_op <| G_on rfl rfl rfl <| J_pur (p_move rfl) rfl rfl rfl <| L_op <| G_on rfl rfl rfl <| xc fc29 (.cons rfl .nil) rfl (coSlots) fun _ => ?_
  refine L_op <| G_on rfl rfl rfl <| J_pur (p_eqNilPtr Tryz.underlying63 rfl) rfl rfl rfl <| L_pur rfl (p_pick_f rfl rfl) <| mv rfl rfl <| J_bool (t := 26) (c := false) rfl (rfl) <| L_op <| G_on rfl rfl rfl ?_
  refine J_pur (p_move rfl) rfl rfl rfl <| L_op <| G_on rfl rfl rfl <| xc fc38 (.cons rfl .nil) rfl (coMaps) fun _ => L_op <| G_on rfl rfl rfl <| J_pur (p_eqNilPtr Tryz.underlying87 rfl) rfl rfl rfl <| L_pur rfl (p_pick_f rfl rfl) ?_
  refine mv rfl rfl <| J_bool (t := 31) (c := false) rfl (rfl) <| L_op <| G_on rfl rfl rfl <| J_pur (p_move rfl) rfl rfl rfl <| L_op <| G_on rfl rfl rfl <| xc fc31 (.cons rfl .nil) rfl (coQueue) fun _ => ?_
  refine L_op <| G_on rfl rfl rfl <| J_pur (p_eqNilPtr Tryz.underlying70 rfl) rfl rfl rfl <| L_pur rfl (p_pick_f rfl rfl) <| nq <| J_bool (t := 35) (c := false) rfl (rfl) <| C_false rfl <| J_skip ?_
  refine qx <| mv rfl rfl <| ag rfl rfl <| nq <| J_ret ?_
  refine J_return (g) Tryz.results14 (.tmp rfl .nil) ?_ ?_
  · rfl
  · exact SU
theorem first_add {i : ID} {e : Sqe} : addOk [] (rqN i e) = true ∧ addQ [] (rqN i e) = [(i, rqN i e)] := by
  have h : addOk [] (rqN i e) = true := by
    unfold addOk; rw [ofQ_nil]; rfl
  exact ⟨h, by unfold addQ; rw [if_pos h]; rfl⟩
end Go.Pse
namespace Go.Pse
open Go.RowKit Go.Proofs
theorem ins_memK {κ υ : Type} [DecidableEq κ] {xs : List (κ × υ)} {u : κ} {a : υ} {x : κ × υ} (h : x ∈ ins xs u a) : x ∈ xs ∨ x = (u, a) := by
  unfold Go.Pse.ins at h
  split at h
  · obtain ⟨y, hy, rfl⟩ := List.mem_map.1 h
    split
    · exact .inr rfl
    · exact .inl hy
  · rcases List.mem_append.1 h with h | h
    · exact .inl h
    · exact .inr (List.mem_singleton.1 h)
theorem rtS_len {ps : List (ID × Rq)} {i : ID} : (rtS ps i).length = ps.length := by
  unfold rtS
  split
  · rfl
  · rename_i q hq
    unfold Go.Pse.ins
    rw [if_pos (by rw [hq]; rfl), List.length_map]
theorem rtS_mem {ps : List (ID × Rq)} {i : ID} {e : ID × Rq} (h : e ∈ rtS ps i) : ∃ x ∈ ps, e.1 = x.1 ∧ e.2.id = x.2.id ∧ e.2.e = x.2.e := by
  unfold rtS at h
  split at h
  · exact ⟨e, h, rfl, rfl, rfl⟩
  · rename_i q hq
    unfold Go.Pse.ins at h
    rw [if_pos (by rw [hq]; rfl)] at h
    obtain ⟨x, hx, rfl⟩ := List.mem_map.1 h
    split
    · rename_i hi
      exact ⟨(i, q), mem_look hq, rfl, rfl, rfl⟩
    · exact ⟨x, hx, rfl, rfl, rfl⟩
theorem Well.start {s : KS} {N M : Nat} (h : Well s N M) (i : ID) : Well { s with rt := rtS s.rt i } N M := by
  have hf := h.fit
  refine ⟨⟨hf.n, hf.mm, fun e he => ?_, by show s.jn.length + (rtS s.rt i).length ≤ M; rw [rtS_len]; exact hf.jn, hf.tm, hf.ep, hf.nt, hf.rp, fun x hx => ⟨(hf.rg x hx).1, by show _ + (rtS s.rt i).length ≤ M; rw [rtS_len]; exact (hf.rg x hx).2⟩, hf.mem⟩, h.q, h.mp, h.sl, h.rg, h.tree, h.marks, h.thr, fun e he => ?_, ?_⟩
  · obtain ⟨x, hx, h1, h2, _⟩ := rtS_mem he
    rw [h2, h1]; exact hf.ids x hx
  · obtain ⟨x, hx, _, _, h3⟩ := rtS_mem he
    rw [h3]; exact h.ent x hx
  · show Keyd (rtS s.rt i)
    unfold rtS
    split
    · exact h.rtk
    · exact h.rtk.ins _ _
theorem Well.take {s : KS} {N M : Nat} (h : Well s N M) (r n : Int) : Well (kTake s r n) N M := by
  have hf := h.fit
  unfold kTake
  split
  · exact ⟨⟨hf.n, hf.mm, hf.ids, hf.jn, hf.tm, hf.ep, hf.nt, hf.rp, hf.rg, hf.mem⟩, h.q, h.mp, h.sl, h.rg, h.tree, h.marks, h.thr, h.ent, h.rtk⟩
  · exact h
theorem Well.add {s : KS} {N M : Nat} (h : Well s N M) (hM : M + 1 ≤ 90000) {q : Rq} (hq : SqeOk q.e) : Well { s with rt := addQ s.rt q } N (M + 1) := by
  have hf := h.fit
  have hl : (addQ s.rt q).length ≤ s.rt.length + 1 := by
    unfold addQ; split
    · exact ins_le _ _ _
    · omega
  have hj := hf.jn
  refine ⟨⟨hf.n, hM, addQ_ids hf.ids, by show s.jn.length + (addQ s.rt q).length ≤ M + 1; omega, hf.tm, hf.ep, hf.nt, hf.rp, fun x hx => ⟨(hf.rg x hx).1, by have := (hf.rg x hx).2; show _ + (addQ s.rt q).length ≤ M + 1; omega⟩, hf.mem⟩, h.q, h.mp, h.sl, h.rg, h.tree, h.marks, h.thr, fun e he => ?_, ?_⟩
  · have he2 : e ∈ addQ s.rt q := he
    unfold addQ at he2
    split at he2
    · rcases ins_memK he2 with h1 | rfl
      · exact h.ent e h1
      · exact hq
    · exact h.ent e he2
  · show Keyd (addQ s.rt q)
    unfold addQ; split
    · exact h.rtk.ins _ _
    · exact h.rtk
theorem kStart_is {s : KS} {i : ID} {q : Rq} {b : Nat} (hq : look s.rt i = some q) (hs : q.started = false) : kStart s i b = match (kAct { s with rt := rtS s.rt i } i b).2 with
    | none => ((kAct { s with rt := rtS s.rt i } i b).1, true)
    | some x => (kDec (kAct { s with rt := rtS s.rt i } i b).1.rt.length (kAct { s with rt := rtS s.rt i } i b).1 i x.1 x.2, true) := by
  unfold kStart
  rw [hq]
  dsimp only
  rw [if_neg (by rw [hs]; decide)]
  cases h : kAct { s with rt := rtS s.rt i } i b with
  | mk t o => cases o <;> rfl
theorem Well.started {s : KS} {N M : Nat} (h : Well s N M) (hN : N + 1 ≤ 90000) (i : ID) (b : Nat) : Well (kStart s i b).1 (N + 1) M := by
  unfold kStart
  split
  · exact h.more hN
  · split
    · exact h.more hN
    · have h1 := (h.start i).act hN i b
      cases hk : kAct { s with rt := rtS s.rt i } i b with
      | mk t o =>
        rw [hk] at h1
        cases o with
        | none => exact h1
        | some x => exact h1.dec _ _ _ _
def askId (s : KS) (g : Int) : ID := (g, kTakeV s g 1)
def askT1 (s : KS) (g : Int) (e : Sqe) : KS := { kTake s g 1 with rt := addQ (kTake s g 1).rt (rqN (askId s g) e) }
def askT2 (s : KS) (g : Int) (e : Sqe) : KS := { askT1 s g e with rt := rtS (askT1 s g e).rt (askId s g) }
def kAskS (s : KS) (g : Int) (e : Sqe) (b : Nat) : KS := if addOk (kTake s g 1).rt (rqN (askId s g) e) = true then (kStart (askT1 s g e) (askId s g) b).1 else kTake s g 1
def kAskR (s : KS) (g : Int) (e : Sqe) (b : Nat) : Int × Int × Bool := if addOk (kTake s g 1).rt (rqN (askId s g) e) = true then askR (kStart (askT1 s g e) (askId s g) b).1.jn (askId s g) else (-999, 0, false)
theorem Well.ask {s : KS} {N M : Nat} (h : Well s N M) (hN : N + 1 ≤ 90000) (hM : M + 1 ≤ 90000) (g : Int) {e : Sqe} (he : SqeOk e) (b : Nat) : Well (kAskS s g e b) (N + 1) (M + 1) := by
  unfold kAskS
  split
  · exact ((h.take g 1).add hM (q := rqN (askId s g) e) he).started hN _ _
  · have h2 := (h.take g 1).more hN
    have hf := h2.fit
    exact ⟨⟨hf.n, hM, hf.ids, Nat.le_succ_of_le hf.jn, hf.tm, hf.ep, hf.nt, hf.rp, fun x hx => ⟨(hf.rg x hx).1, Nat.le_succ_of_le (hf.rg x hx).2⟩, hf.mem⟩, h2.q, h2.mp, h2.sl, h2.rg, h2.tree, h2.marks, h2.thr, h2.ent, h2.rtk⟩
theorem coStartG {E : World} {l m : List As} {p : Nat} {s : KS} (hp : Pick (coA p s) l m) {i : ID} {N M : Nat} (hW : Well s N M) (hN : N + 2 ≤ 90000) (hM : M ≤ 45000) (hD : ∀ (q : Rq) (T : Th), look (rtS s.rt i) i = some q → DoesC { s with rt := rtS s.rt i } T q i) :
    Con Tryz.prog 25 #[.pointer (some ⟨p, 0, none⟩), .agg (encI i).toArray] E l (fun b : Nat => .bool (kStart s i b).2) (fun b => coA p (kStart s i b).1 :: m) := by
  refine Con.body (vs := [.pointer (some ⟨p, 0, none⟩), .agg (encI i).toArray]) (n := 40) Tryz.func25 rfl rfl [(0, .pointer (some ⟨p, 0, none⟩)), (1, .agg (encI i).toArray)] (env_ok 2 rfl) <| J_pick hp <| sr <| L_op <| x_box rfl rfl rfl fun b3 => ag rfl rfl <| nq <| J_seq ?_
  refine J_drawL none mixed <| ip 0 rfl rfl rfl rfl (p_move rfl) <| iv 2 rfl rfl rfl rfl (fun _ => v_loadA rfl ty39 HS CT) ?_
  refine I_ready (rs := [1, 7]) SI (by kernel_rfl) (by simp) ?_
  refine (I_cons rfl ?_ (I_cons rfl ?_ I_nil))
  refine xc fc22 (.cons rfl .nil) rfl (coReqs) fun _ => I_ready (rs := [3, 7]) SI (by kernel_rfl) (by simp) ?_
  refine (I_cons rfl ?_ (I_cons rfl ?_ I_nil))
  refine xc fc51 (.cons rfl (.cons rfl .nil)) rfl (coRqGet (s := s) (i := i) PC) fun _ => ?_
  refine ip 4 rfl rfl rfl rfl (p_move rfl) <| ip 5 rfl rfl rfl rfl (p_extract rfl rfl) <| ip 6 rfl rfl rfl rfl (p_extract rfl rfl) <| i1 7 rfl <| x_alloc ty104 rfl fun b5 => i1 8 rfl <| x_store rfl rfl ty104 rfl SM SM RO PT ?_
  refine ip 9 rfl rfl rfl rfl (p_assign rfl) <| i0 <| Q_then <| J_seq <| sr <| mv rfl rfl <| L_pur rfl (p_not rfl) <| mv rfl rfl ?_
  refine J_gsplit (t := 19) rfl (fun h19 => ?_) (fun h19 => ?_)
  have hq : look s.rt i = none := by
    cases hq : look s.rt i with
    | none => rfl
    | some y => rw [hq] at h19; simp at h19
  have hks : ∀ b, kStart s i b = (s, false) := fun b => by unfold kStart; rw [hq]
  refine L_op <| G_off rfl rfl rfl rfl rfl rfl <| L_op <| G_off rfl rfl rfl rfl rfl rfl <| L_pur rfl (p_pick_t rfl rfl) <| nq <| C_true rfl <| sr ?_
  refine ag rfl rfl <| nq <| J_ret <| Q_then_ret <| J_pick (A := coA p _) PC ?_
  refine J_asTo (B := coA p (kStart s i 0).1) (by rw [hks]) ?_
  refine J_return (0) Tryz.results25 (.tmp rfl .nil) ?_ ?_
  · rw [hks]; rfl
  · exact SU
  obtain ⟨q, hq⟩ : ∃ x, look s.rt i = some x := by
    cases hq : look s.rt i with
    | none => rw [hq] at h19; simp at h19
    | some y => exact ⟨y, rfl⟩
  refine J_pick (A := blk b5 _ _) PC ?_
  refine J_asTo (B := blk b5 104 (encQ q)) (by rw [hq]; rfl) <| L_op <| G_on rfl rfl rfl <| J_pur (p_fieldAddr rfl fa104_4) rfl rfl rfl <| L_op <| G_on rfl rfl rfl <| J_val (v_load rfl ty4 HS (by exact rfl)) rfl rfl rfl ?_
  refine L_pur rfl (p_pick_f rfl rfl) <| nq ?_
  refine C_split rfl (fun h22 => ?_) (fun h22 => ?_)
  have hks : ∀ b, kStart s i b = (s, false) := fun b => by unfold kStart; rw [hq]; exact if_pos h22
  refine sr <| ag rfl rfl <| nq <| J_ret <| Q_then_ret <| J_pick (A := coA p _) PC ?_
  refine J_asTo (B := coA p (kStart s i 0).1) (by rw [hks]) ?_
  refine J_return (0) Tryz.results25 (.tmp rfl .nil) ?_ ?_
  · rw [hks]; rfl
  · exact SU
  have hst : q.started = false := by simpa using h22
  have hW1 := hW.start i
  refine J_skip <| Q_then <| J_seq <| J_drawL (some 3) mixed <| ip 0 rfl rfl rfl rfl (p_move rfl) <| iv 2 rfl rfl rfl rfl (fun _ => v_loadA rfl ty39 HS CT) ?_
  refine i1 1 rfl <| xc fc22 (.cons rfl .nil) rfl (coReqs) fun _ => i1 3 rfl <| xc fc52 (.cons rfl (.cons rfl .nil)) rfl (coRqStart (s := s) (i := i) PC) fun _ => ?_
  refine i0 <| Q_then <| J_seq <| sr <| mv rfl rfl <| L_val rfl (v_loadA rfl ty39 HS CT) ?_
  refine L_op <| xc fc53 (.cons rfl (.cons rfl .nil)) rfl (coActG (s := { s with rt := rtS s.rt i }) (i := i) PC (hW1.good (by omega) hM) hD) fun x30 => ?_
  have hF2 : Fits (kAct { s with rt := rtS s.rt i } i x30).1 (N + 1) M := (hW1.act (by omega) i x30).fit
  have hki := kStart_is (b := x30) hq hst
  refine mv rfl rfl <| L_pur rfl (p_extract rfl rfl) <| L_pur rfl (p_extract rfl rfl) <| L_pur rfl (p_extract rfl rfl) <| ag rfl rfl <| ag rfl rfl <| ag rfl rfl <| nx ?_
  refine mv rfl rfl <| nq ?_
  refine C_split rfl (fun h34 => ?_) (fun h34 => ?_)
  obtain ⟨o, ho⟩ : ∃ o, (kAct { s with rt := rtS s.rt i } i x30).2 = some o := Option.isSome_iff_exists.1 h34
  rw [ho] at hki
  refine J_slot (t := 7) (v := .int .i64 o.1) rfl (by rw [ho]; rfl) <| J_slot (t := 8) (v := .int .u32 o.2) rfl (by rw [ho]; rfl) <| J_region <| mv rfl rfl <| L_val rfl (v_loadA rfl ty39 HS CT) ?_
  refine mv rfl rfl <| mv rfl rfl <| L_op <| xc fc54 (.cons rfl (.cons rfl (.cons rfl (.cons rfl .nil)))) rfl (coDecide (s := (kAct { s with rt := rtS s.rt i } i x30).1) (i := i) (r := o.1) (v := o.2) PC hF2) fun _ => ?_
  refine nx <| ag rfl rfl <| nq <| J_ret <| J_pick (A := coA p _) PC ?_
  refine J_asTo (B := coA p (kStart s i x30).1) (by rw [hki]) ?_
  refine J_return (x30) Tryz.results25 (.tmp rfl .nil) ?_ ?_
  · rw [hki]; rfl
  · exact SU
  have ho : (kAct { s with rt := rtS s.rt i } i x30).2 = none := by
    cases ho : (kAct { s with rt := rtS s.rt i } i x30).2 with
    | none => rfl
    | some y => rw [ho] at h34; cases h34
  rw [ho] at hki
  refine J_skip <| qx <| ag rfl rfl <| nq <| J_ret <| J_pick (A := coA p _) PC ?_
  refine J_asTo (B := coA p (kStart s i x30).1) (by rw [hki]) ?_
  refine J_return (x30) Tryz.results25 (.tmp rfl .nil) ?_ ?_
  · rw [hki]; rfl
  · exact SU
  refine x_alloc ty104 rfl fun b5 => i1 3 rfl <| xc fc51 (.cons rfl (.cons rfl .nil)) rfl (coRqGet (s := s) (i := i) PC) fun _ => ?_
  refine ip 4 rfl rfl rfl rfl (p_move rfl) <| ip 5 rfl rfl rfl rfl (p_extract rfl rfl) <| ip 6 rfl rfl rfl rfl (p_extract rfl rfl) <| i1 8 rfl <| x_store rfl rfl ty104 rfl SM SM RO PT ?_
  refine ip 9 rfl rfl rfl rfl (p_assign rfl) <| i0 <| Q_then <| J_seq <| sr <| mv rfl rfl <| L_pur rfl (p_not rfl) <| mv rfl rfl ?_
  refine J_gsplit (t := 19) rfl (fun h19 => ?_) (fun h19 => ?_)
  have hq : look s.rt i = none := by
    cases hq : look s.rt i with
    | none => rfl
    | some y => rw [hq] at h19; simp at h19
  have hks : ∀ b, kStart s i b = (s, false) := fun b => by unfold kStart; rw [hq]
  refine L_op <| G_off rfl rfl rfl rfl rfl rfl <| L_op <| G_off rfl rfl rfl rfl rfl rfl <| L_pur rfl (p_pick_t rfl rfl) <| nq <| C_true rfl <| sr ?_
  refine ag rfl rfl <| nq <| J_ret <| Q_then_ret <| J_pick (A := coA p _) PC ?_
  refine J_asTo (B := coA p (kStart s i 0).1) (by rw [hks]) ?_
  refine J_return (0) Tryz.results25 (.tmp rfl .nil) ?_ ?_
  · rw [hks]; rfl
  · exact SU
  obtain ⟨q, hq⟩ : ∃ x, look s.rt i = some x := by
    cases hq : look s.rt i with
    | none => rw [hq] at h19; simp at h19
    | some y => exact ⟨y, rfl⟩
  refine J_pick (A := blk b5 _ _) PC ?_
  refine J_asTo (B := blk b5 104 (encQ q)) (by rw [hq]; rfl) <| L_op <| G_on rfl rfl rfl <| J_pur (p_fieldAddr rfl fa104_4) rfl rfl rfl <| L_op <| G_on rfl rfl rfl <| J_val (v_load rfl ty4 HS (by exact rfl)) rfl rfl rfl ?_
  refine L_pur rfl (p_pick_f rfl rfl) <| nq ?_
  refine C_split rfl (fun h22 => ?_) (fun h22 => ?_)
  have hks : ∀ b, kStart s i b = (s, false) := fun b => by unfold kStart; rw [hq]; exact if_pos h22
  refine sr <| ag rfl rfl <| nq <| J_ret <| Q_then_ret <| J_pick (A := coA p _) PC ?_
  refine J_asTo (B := coA p (kStart s i 0).1) (by rw [hks]) ?_
  refine J_return (0) Tryz.results25 (.tmp rfl .nil) ?_ ?_
  · rw [hks]; rfl
  · exact SU
  have hst : q.started = false := by simpa using h22
  have hW1 := hW.start i
  refine J_skip <| Q_then <| J_seq <| J_drawL (some 3) mixed <| ip 0 rfl rfl rfl rfl (p_move rfl) <| iv 2 rfl rfl rfl rfl (fun _ => v_loadA rfl ty39 HS CT) ?_
  refine i1 1 rfl <| xc fc22 (.cons rfl .nil) rfl (coReqs) fun _ => i1 3 rfl <| xc fc52 (.cons rfl (.cons rfl .nil)) rfl (coRqStart (s := s) (i := i) PC) fun _ => ?_
  refine i0 <| Q_then <| J_seq <| sr <| mv rfl rfl <| L_val rfl (v_loadA rfl ty39 HS CT) ?_
  refine L_op <| xc fc53 (.cons rfl (.cons rfl .nil)) rfl (coActG (s := { s with rt := rtS s.rt i }) (i := i) PC (hW1.good (by omega) hM) hD) fun x30 => ?_
  have hF2 : Fits (kAct { s with rt := rtS s.rt i } i x30).1 (N + 1) M := (hW1.act (by omega) i x30).fit
  have hki := kStart_is (b := x30) hq hst
  refine mv rfl rfl <| L_pur rfl (p_extract rfl rfl) <| L_pur rfl (p_extract rfl rfl) <| L_pur rfl (p_extract rfl rfl) <| ag rfl rfl <| ag rfl rfl <| ag rfl rfl <| nx ?_
  refine mv rfl rfl <| nq ?_
  refine C_split rfl (fun h34 => ?_) (fun h34 => ?_)
  obtain ⟨o, ho⟩ : ∃ o, (kAct { s with rt := rtS s.rt i } i x30).2 = some o := Option.isSome_iff_exists.1 h34
  rw [ho] at hki
  refine J_slot (t := 7) (v := .int .i64 o.1) rfl (by rw [ho]; rfl) <| J_slot (t := 8) (v := .int .u32 o.2) rfl (by rw [ho]; rfl) <| J_region <| mv rfl rfl <| L_val rfl (v_loadA rfl ty39 HS CT) ?_
  refine mv rfl rfl <| mv rfl rfl <| L_op <| xc fc54 (.cons rfl (.cons rfl (.cons rfl (.cons rfl .nil)))) rfl (coDecide (s := (kAct { s with rt := rtS s.rt i } i x30).1) (i := i) (r := o.1) (v := o.2) PC hF2) fun _ => ?_
  refine nx <| ag rfl rfl <| nq <| J_ret <| J_pick (A := coA p _) PC ?_
  refine J_asTo (B := coA p (kStart s i x30).1) (by rw [hki]) ?_
  refine J_return (x30) Tryz.results25 (.tmp rfl .nil) ?_ ?_
  · rw [hki]; rfl
  · exact SU
  have ho : (kAct { s with rt := rtS s.rt i } i x30).2 = none := by
    cases ho : (kAct { s with rt := rtS s.rt i } i x30).2 with
    | none => rfl
    | some y => rw [ho] at h34; cases h34
  rw [ho] at hki
  refine J_skip <| qx <| ag rfl rfl <| nq <| J_ret <| J_pick (A := coA p _) PC ?_
  refine J_asTo (B := coA p (kStart s i x30).1) (by rw [hki]) ?_
  refine J_return (x30) Tryz.results25 (.tmp rfl .nil) ?_ ?_
  · rw [hki]; rfl
  · exact SU
  refine x_alloc ty104 rfl fun b5 => i1 1 rfl <| xc fc22 (.cons rfl .nil) rfl (coReqs) fun _ => i1 3 rfl <| xc fc51 (.cons rfl (.cons rfl .nil)) rfl (coRqGet (s := s) (i := i) PC) fun _ => ?_
  refine ip 4 rfl rfl rfl rfl (p_move rfl) <| ip 5 rfl rfl rfl rfl (p_extract rfl rfl) <| ip 6 rfl rfl rfl rfl (p_extract rfl rfl) <| i1 8 rfl <| x_store rfl rfl ty104 rfl SM SM RO PT ?_
  refine ip 9 rfl rfl rfl rfl (p_assign rfl) <| i0 <| Q_then <| J_seq <| sr <| mv rfl rfl <| L_pur rfl (p_not rfl) <| mv rfl rfl ?_
  refine J_gsplit (t := 19) rfl (fun h19 => ?_) (fun h19 => ?_)
  have hq : look s.rt i = none := by
    cases hq : look s.rt i with
    | none => rfl
    | some y => rw [hq] at h19; simp at h19
  have hks : ∀ b, kStart s i b = (s, false) := fun b => by unfold kStart; rw [hq]
  refine L_op <| G_off rfl rfl rfl rfl rfl rfl <| L_op <| G_off rfl rfl rfl rfl rfl rfl <| L_pur rfl (p_pick_t rfl rfl) <| nq <| C_true rfl <| sr ?_
  refine ag rfl rfl <| nq <| J_ret <| Q_then_ret <| J_pick (A := coA p _) PC ?_
  refine J_asTo (B := coA p (kStart s i 0).1) (by rw [hks]) ?_
  refine J_return (0) Tryz.results25 (.tmp rfl .nil) ?_ ?_
  · rw [hks]; rfl
  · exact SU
  obtain ⟨q, hq⟩ : ∃ x, look s.rt i = some x := by
    cases hq : look s.rt i with
    | none => rw [hq] at h19; simp at h19
    | some y => exact ⟨y, rfl⟩
  refine J_pick (A := blk b5 _ _) PC ?_
  refine J_asTo (B := blk b5 104 (encQ q)) (by rw [hq]; rfl) <| L_op <| G_on rfl rfl rfl <| J_pur (p_fieldAddr rfl fa104_4) rfl rfl rfl <| L_op <| G_on rfl rfl rfl <| J_val (v_load rfl ty4 HS (by exact rfl)) rfl rfl rfl ?_
  refine L_pur rfl (p_pick_f rfl rfl) <| nq ?_
  refine C_split rfl (fun h22 => ?_) (fun h22 => ?_)
  have hks : ∀ b, kStart s i b = (s, false) := fun b => by unfold kStart; rw [hq]; exact if_pos h22
  refine sr <| ag rfl rfl <| nq <| J_ret <| Q_then_ret <| J_pick (A := coA p _) PC ?_
  refine J_asTo (B := coA p (kStart s i 0).1) (by rw [hks]) ?_
  refine J_return (0) Tryz.results25 (.tmp rfl .nil) ?_ ?_
  · rw [hks]; rfl
  · exact SU
  have hst : q.started = false := by simpa using h22
  have hW1 := hW.start i
  refine J_skip <| Q_then <| J_seq <| J_drawL (some 3) mixed <| ip 0 rfl rfl rfl rfl (p_move rfl) <| iv 2 rfl rfl rfl rfl (fun _ => v_loadA rfl ty39 HS CT) ?_
  refine i1 1 rfl <| xc fc22 (.cons rfl .nil) rfl (coReqs) fun _ => i1 3 rfl <| xc fc52 (.cons rfl (.cons rfl .nil)) rfl (coRqStart (s := s) (i := i) PC) fun _ => ?_
  refine i0 <| Q_then <| J_seq <| sr <| mv rfl rfl <| L_val rfl (v_loadA rfl ty39 HS CT) ?_
  refine L_op <| xc fc53 (.cons rfl (.cons rfl .nil)) rfl (coActG (s := { s with rt := rtS s.rt i }) (i := i) PC (hW1.good (by omega) hM) hD) fun x30 => ?_
  have hF2 : Fits (kAct { s with rt := rtS s.rt i } i x30).1 (N + 1) M := (hW1.act (by omega) i x30).fit
  have hki := kStart_is (b := x30) hq hst
  refine mv rfl rfl <| L_pur rfl (p_extract rfl rfl) <| L_pur rfl (p_extract rfl rfl) <| L_pur rfl (p_extract rfl rfl) <| ag rfl rfl <| ag rfl rfl <| ag rfl rfl <| nx ?_
  refine mv rfl rfl <| nq ?_
  refine C_split rfl (fun h34 => ?_) (fun h34 => ?_)
  obtain ⟨o, ho⟩ : ∃ o, (kAct { s with rt := rtS s.rt i } i x30).2 = some o := Option.isSome_iff_exists.1 h34
  rw [ho] at hki
  refine J_slot (t := 7) (v := .int .i64 o.1) rfl (by rw [ho]; rfl) <| J_slot (t := 8) (v := .int .u32 o.2) rfl (by rw [ho]; rfl) <| J_region <| mv rfl rfl <| L_val rfl (v_loadA rfl ty39 HS CT) ?_
  refine mv rfl rfl <| mv rfl rfl <| L_op <| xc fc54 (.cons rfl (.cons rfl (.cons rfl (.cons rfl .nil)))) rfl (coDecide (s := (kAct { s with rt := rtS s.rt i } i x30).1) (i := i) (r := o.1) (v := o.2) PC hF2) fun _ => ?_
  refine nx <| ag rfl rfl <| nq <| J_ret <| J_pick (A := coA p _) PC ?_
  refine J_asTo (B := coA p (kStart s i x30).1) (by rw [hki]) ?_
  refine J_return (x30) Tryz.results25 (.tmp rfl .nil) ?_ ?_
  · rw [hki]; rfl
  · exact SU
  have ho : (kAct { s with rt := rtS s.rt i } i x30).2 = none := by
    cases ho : (kAct { s with rt := rtS s.rt i } i x30).2 with
    | none => rfl
    | some y => rw [ho] at h34; cases h34
  rw [ho] at hki
  refine J_skip <| qx <| ag rfl rfl <| nq <| J_ret <| J_pick (A := coA p _) PC ?_
  refine J_asTo (B := coA p (kStart s i x30).1) (by rw [hki]) ?_
  refine J_return (x30) Tryz.results25 (.tmp rfl .nil) ?_ ?_
  · rw [hki]; rfl
  · exact SU
end Go.Pse
namespace Go.Pse
open Go.RowKit Go.Proofs
theorem coAskG {E : World} {l m : List As} {p : Nat} {s : KS} (hp : Pick (coA p s) l m) {g : Int} {e : Sqe} {N M : Nat} (hW : Well s N M) (hN : N + 2 ≤ 90000) (hM : M + 1 ≤ 45000) (he : SqeOk e) (htk : -1000000000000 ≤ (look s.tk g).getD 0 ∧ (look s.tk g).getD 0 ≤ 1000000000000) (hadd : addOk (kTake s g 1).rt (rqN (askId s g) e) = true) (hD : ∀ (q : Rq) (T : Th), q.e = e → Good (askT2 s g e) N (M + 1) → SqeOk q.e → DoesC (askT2 s g e) T q (askId s g)) :
    Con Tryz.prog 15 #[.pointer (some ⟨p, 0, none⟩), .int .i64 g, .agg #[.int .i64 e.op, .int .i64 e.flags, .int .u32 e.tag, .int .u32 e.cap, .int .u32 e.a, .int .u32 e.b, .int .u32 e.c, .int .u32 e.time]] E l (fun b : Nat => .tuple #[.int .i64 (kAskR s g e b).1, .int .u32 (kAskR s g e b).2.1, .bool (kAskR s g e b).2.2]) (fun b => coA p (kAskS s g e b) :: m) := by
  refine Con.body (vs := [.pointer (some ⟨p, 0, none⟩), .int .i64 g, .agg #[.int .i64 e.op, .int .i64 e.flags, .int .u32 e.tag, .int .u32 e.cap, .int .u32 e.a, .int .u32 e.b, .int .u32 e.c, .int .u32 e.time]]) (n := 52) Tryz.func15 rfl rfl [(0, .pointer (some ⟨p, 0, none⟩)), (1, .int .i64 g), (2, .agg #[.int .i64 e.op, .int .i64 e.flags, .int .u32 e.tag, .int .u32 e.cap, .int .u32 e.a, .int .u32 e.b, .int .u32 e.c, .int .u32 e.time])] (env_ok 3 rfl) <| J_pick hp <| sr <| L_op <| x_box rfl rfl rfl fun b5 => ag rfl rfl <| ag rfl rfl <| ag rfl rfl ?_
  refine nx <| mv rfl rfl <| mv rfl rfl <| mv rfl rfl <| L_op <| xc fc46 (.cons rfl (.cons rfl (.cons rfl .nil))) rfl (coTake (s := s) (r := g) (n := 1) PC htk (by omega)) fun _ => ?_
  refine L_pur rfl (bld39 (.cons rfl (.cons rfl .nil)) (by repeat constructor)) <| L_op <| x_alloc ty39 rfl fun b9 => L_op <| x_store rfl rfl ty39 rfl SM SM RO PT ?_
  have hW1 := hW.take g 1
  have haR : ∀ b, kAskR s g e b = askR (kStart (askT1 s g e) (askId s g) b).1.jn (askId s g) := fun b => by unfold kAskR; rw [if_pos hadd]
  have haS : ∀ b, kAskS s g e b = (kStart (askT1 s g e) (askId s g) b).1 := fun b => by unfold kAskS; rw [if_pos hadd]
  have hW2 : Well (askT1 s g e) N (M + 1) := hW1.add (by omega) (q := rqN (askId s g) e) he
  have hlk : look (KS.rt (askT1 s g e)) (askId s g) = some (rqN (askId s g) e) := addQ_look hadd
  have hD2 : ∀ (q : Rq) (T : Th), look (rtS (KS.rt (askT1 s g e)) (askId s g)) (askId s g) = some q → DoesC { askT1 s g e with rt := rtS (KS.rt (askT1 s g e)) (askId s g) } T q (askId s g) := fun q T hq => by
    have hqe : q.e = e := by
      have h1 := hq
      unfold rtS at h1
      rw [hlk] at h1
      dsimp only at h1
      rw [look_ins, if_pos rfl] at h1
      rw [← Option.some.inj h1]; rfl
    exact hD q T hqe ((hW2.start (askId s g)).good (by omega) hM) (by rw [hqe]; exact he)
  refine J_pick (A := blk b9 _ _) PC ?_
  refine J_asTo (B := blk b9 39 (encI (askId s g))) (by rfl) <| nq <| J_seq <| J_seq <| J_drawL (some 5) mixed <| ip 0 rfl rfl rfl rfl (p_move rfl) <| iv 2 rfl rfl rfl rfl (fun _ => v_loadA rfl ty39 HS CT) ?_
  refine iv 3 rfl rfl rfl rfl (fun _ => v_loadA rfl ty31 HS CT) ?_
  refine ip 4 rfl rfl rfl rfl (bld104 (.cons rfl (.cons rfl .nil)) (by repeat constructor)) <| J_slot (t := 22) (v := .agg (encQ (rqN (askId s g) e)).toArray) rfl rfl <| i1 1 rfl <| xc fc22 (.cons rfl .nil) rfl (coReqs) fun _ => i1 5 rfl <| xc fc45 (.cons rfl (.cons rfl .nil)) rfl (coRqAdd (s := kTake s g 1) (q := rqN (askId s g) e) PC hW1.fit.ids (by have := hW1.fit.jn; have := hW1.fit.mm; omega)) fun _ => ?_
  refine J_slot (t := 23) (v := .bool true) rfl (by rw [hadd]) <| J_pick (A := coA p _) PC ?_
  refine J_asTo (B := coA p (askT1 s g e)) (by rfl) <| ip 6 rfl rfl rfl rfl (p_not rfl) <| ip 7 rfl rfl rfl rfl (p_move rfl) <| J_bool (t := 25) (c := false) rfl (rfl) <| I_takeOnP (i := 8) rfl rfl rfl rfl rfl rfl rfl (by kernel_rfl) (fun _ _ _ _ h => h) (p_move rfl) <| i1 9 rfl <| G_on rfl rfl rfl <| J_val (v_loadA rfl ty39 HS CT) rfl rfl rfl ?_
  refine i1 10 rfl <| G_on rfl rfl rfl <| xc fc25 (.cons rfl (.cons rfl .nil)) rfl (coStartG (s := (askT1 s g e)) (i := (askId s g)) PC hW2 (by omega) hM hD2) fun x29 => ?_
  refine I_takeOnP (i := 11) rfl rfl rfl rfl rfl rfl rfl (by kernel_rfl) (fun _ _ _ _ h => h) (p_not rfl) <| ip 12 rfl rfl rfl rfl (p_pick_f rfl rfl) ?_
  obtain ⟨S4, hS4⟩ : ∃ S4, S4 = (kStart (askT1 s g e) (askId s g) x29).1 := ⟨_, rfl⟩
  refine J_pick (A := coA p _) PC ?_
  refine J_asTo (B := coA p S4) (by rw [hS4]) ?_
  have hj4 : S4.jn.length ≤ 200000 := by
    have h4 : Well S4 (N + 1) (M + 1) := by rw [hS4]; exact hW2.started (by omega) _ _
    have := h4.fit.jn; have := h4.fit.mm; omega
  refine i0 <| Q_then <| J_bool (t := 30) (c := false) rfl (by rw [kStart_is hlk rfl]; split <;> rfl) <| C_false rfl <| J_skip <| qx <| mv rfl rfl <| L_op <| xc fc17 (.cons rfl .nil) rfl (coJournal) fun _ => ?_
  refine L_op <| xc fc18 (.cons rfl .nil) rfl (coJAll (s := S4) PC hj4) <| JR fun a33 c33 hw33 hl33 hm33 hz33 => ?_
  have hml : (S4.jn.map encD).length = S4.jn.length := List.length_map _
  have hmcap : c33 ≤ 9223372036854775807 := hm33
  refine ag rfl rfl <| nx <| mv rfl rfl <| L_val rfl (v_loadA rfl ty39 HS CT) ?_
  refine L_op <| xc fc19 (.cons rfl (.cons rfl .nil)) rfl (atC (xs := S4.jn) (i := (askId s g)) (fun w H => sep_reads (xs := S4.jn.map encD) HS H) hj4) fun _ => ?_
  refine mv rfl rfl <| L_pur rfl (p_extract rfl rfl) <| L_pur rfl (p_extract rfl rfl) <| ag rfl rfl <| ag rfl rfl <| nxx <| mv rfl rfl <| L_pur rfl (p_not rfl) ?_
  refine nq ?_
  refine C_split rfl (fun h41 => ?_) (fun h41 => ?_)
  have hno : idxJ S4.jn (askId s g) = none := by
    cases hq : idxJ S4.jn (askId s g) with
    | none => rfl
    | some y => rw [hq] at h41; simp at h41
  have hat := idxJ_no hno
  refine sr <| ag rfl rfl <| ag rfl rfl <| ag rfl rfl <| nq <| J_ret <| Q_then_ret <| J_pick (A := coA p _) PC ?_
  refine J_asTo (B := coA p (kAskS s g e x29)) (by rw [haS, hS4]) ?_
  refine J_return (x29) Tryz.results15 (.tmp rfl (.tmp rfl (.tmp rfl .nil))) ?_ ?_
  · rw [haR, ← hS4]; unfold askR; rw [hat]; rfl
  · exact SU
  obtain ⟨k, hk0⟩ : ∃ x, idxJ S4.jn (askId s g) = some x := by
    cases hq : idxJ S4.jn (askId s g) with
    | none => rw [hq] at h41; simp at h41
    | some y => exact ⟨y, rfl⟩
  obtain ⟨d, hcc, hat⟩ := idxJ_at hk0
  have hlt : k < S4.jn.length := (List.getElem?_eq_some_iff.1 hcc).1
  obtain ⟨bx, ox, rfl⟩ := hz33 (by intro h; rw [h] at hml; simp at hml; omega)
  refine J_slot (t := 11) (v := .int .i64 (k : Int)) rfl (by rw [hk0]; rfl) <| J_skip <| Q_then <| J_seq <| J_drawS mixed (by kernel_rfl) <| sm rfl rfl <| sm rfl rfl <| sp rfl (p_indexAddr rfl rfl Tryz.underlying32 ty41 (by omega) (by omega)) ?_
  refine sp rfl (p_fieldAddr rfl fa41_3) ?_
  refine S_val rfl (v_loadF rfl ty3 HS (by first | (simp only [Int.toNat_natCast, List.getElem?_map, hcc]; rfl) | (simp only [Int.toNat_natCast, List.getElem?_map, hcd]; rfl) | simp | rfl) (by exact rfl)) ?_
  refine sm rfl rfl <| sm rfl rfl <| sp rfl (p_indexAddr rfl rfl Tryz.underlying32 ty41 (by omega) (by omega)) <| sp rfl (p_fieldAddr rfl fa41_4) ?_
  refine S_val rfl (v_loadF rfl ty22 HS (by first | (simp only [Int.toNat_natCast, List.getElem?_map, hcc]; rfl) | (simp only [Int.toNat_natCast, List.getElem?_map, hcd]; rfl) | simp | rfl) (by exact rfl)) ?_
  refine sp rfl (p_assign rfl) <| sp rfl (p_assign rfl) <| sp rfl (p_assign rfl) <| sq <| J_ret <| J_pick (A := coA p _) PC ?_
  refine J_asTo (B := coA p (kAskS s g e x29)) (by rw [haS, hS4]) ?_
  refine J_return (x29) Tryz.results15 (.tmp rfl (.tmp rfl (.tmp rfl .nil))) ?_ ?_
  · rw [haR, ← hS4]; unfold askR; rw [hat]; rfl
  · exact SU
end Go.Pse
namespace Go.Pse
open Go.RowKit Go.Proofs
/-! ### plain: an entry asked, reckoned -/
def chk (s : KS) (g : Int) (e : Sqe) (b : Nat) (r v : Int) (d : Bool) (n : Int) : Bool := decide (look s.tk g = some n) && addOk (kTake s g 1).rt (rqN (askId s g) e) && decide (kAskR s g e b = (r, v, d))
theorem chk_is {s : KS} {g : Int} {e : Sqe} {b : Nat} {r v : Int} {d : Bool} {n : Int} (h : chk s g e b r v d n = true) : look s.tk g = some n ∧ addOk (kTake s g 1).rt (rqN (askId s g) e) = true ∧ kAskR s g e b = (r, v, d) := by
  unfold chk at h
  simp only [Bool.and_eq_true, decide_eq_true_eq] at h
  exact ⟨h.1.1, h.1.2, h.2⟩
theorem tk_is {s : KS} {g n : Int} (h : look s.tk g = some n) (hn : 0 ≤ n ∧ n ≤ 1000) : -1000000000000 ≤ (look s.tk g).getD 0 ∧ (look s.tk g).getD 0 ≤ 1000000000000 := by
  rw [h]; show _ ≤ n ∧ n ≤ _; omega
theorem all_range {n : Nat} {f : Nat → Bool} (h : (List.range n).all f = true) {k : Nat} (hk : k < n) : f k = true := List.all_eq_true.1 h k (List.mem_range.2 hk)
theorem TreeOk.flat {ps : List (Place × SV)} (hK : (ps.map Prod.fst).Nodup) (h : (ps.all fun e => canP e.1 && decide (e.2.2 = (0, 0)) && checkC e.2.1) = true) : TreeOk ps := by
  have h2 : ∀ x s, look ps x = some s → (canP x = true ∧ s.2 = (0, 0)) ∧ checkC s.1 = true := fun x s hx => by
    have := List.all_eq_true.1 h (x, s) (mem_look hx)
    simpa only [Bool.and_eq_true, decide_eq_true_eq] using this
  exact ⟨hK, fun x s hx => (h2 x s hx).1.1, fun x s hx => .inl (h2 x s hx).1.2, fun x s hx => (h2 x s hx).2, ⟨fun _ => 0, fun x s hx hs => absurd (h2 x s hx).1.2 hs⟩⟩
theorem tree2 : TreeOk (coreN 2 6 true).2.2.1 := TreeOk.flat (by decide +kernel) (by decide +kernel)
theorem well2 (g : NewG) : Well (kNew 2 6 3 4 true g) 40 60 := by
  have h := al2_is g
  exact ⟨h.fit, by rw [h.q]; decide, by rw [h.mp]; decide, by rw [h.sl]; decide +kernel, (by rw [h.rg]; show (2 : Nat) ≤ 1000; omega), by rw [h.sl]; exact tree2, (by rw [h.mr]; exact fun _ he => (by cases he)), by rw [h.th]; decide, (by rw [h.rt]; exact fun _ he => (by cases he)), by rw [h.rt]; exact Keyd.nil⟩
theorem rt_eta {s : KS} (h : s.rt = []) : { s with rt := [] } = s := by cases s; cases h; rfl
theorem alF_sl (g : NewG) : (kNew 1 1 0 0 false g).sl = (coreN 1 1 false).2.2.1 := by
  have hc : kCore (kNew ((1 : Nat) : Int) ((1 : Nat) : Int) 0 0 false g) = coreN 1 1 false := kNew_core (by omega) (by omega)
  rw [show ((1 : Nat) : Int) = 1 from rfl] at hc
  unfold kCore at hc
  rw [← hc]
theorem treeF : TreeOk (coreN 1 1 false).2.2.1 := TreeOk.flat (by decide +kernel) (by decide +kernel)
theorem wellF (g : NewG) : Well (kNew 1 1 0 0 false g) 20 60 := by
  have h := (one_is g).1
  have hf := h.fits (ps := []) (fun e he => (by cases he)) (by decide)
  rw [rt_eta h.rt] at hf
  exact ⟨hf, (by show (1 : Nat) ≤ 20; omega), (by show (2 : Nat) ≤ 20; omega), (by rw [alF_sl]; decide +kernel), (by show (1 : Nat) ≤ 1000; omega), (by rw [alF_sl]; exact treeF), fun _ he => (by cases he), (by show [(4 : Int)].Nodup; decide), fun _ he => (by cases he), Keyd.nil⟩
theorem kStart_nil {s : KS} {i : ID} {b : Nat} (h : s.rt = []) : kStart s i b = (s, false) := by unfold kStart; rw [h]; rfl
theorem first_kr (g : NewG) (b : Nat) : (kStart { kNew 1 1 0 0 false g with rt := [((4, 1), (rqN (4, 1) ⟨1, 0, 0, 0, 0, 0, 0, 0⟩))] } (4, 1) b).1.rt = [] := by kernel_rfl
theorem sqe_nop : SqeOk ⟨1, 0, 0, 0, 0, 0, 0, 0⟩ := by refine ⟨?_, ?_, ?_, ?_⟩ <;> exact ⟨by decide, by decide⟩
theorem firstG {E : World} {l : List As} :
  Con Tryz.prog 12 #[] E l (fun _ : Unit => .bool true) (fun _ => l) := by
 refine Con.body (vs := []) (n := 32) Tryz.func12 rfl rfl [] (env_ok 0 rfl) <| sr <| ag rfl rfl <| nx <| L_pur rfl (bld101 (.cons rfl (.cons rfl .nil)) (by repeat constructor)) <| J_slot (t := 2) (v := .agg (encG 1 1 0 0 false).toArray) rfl rfl <| L_op <| xc fc44 (.cons rfl .nil) rfl (coNew (ct := 1) (cu := 1) (cs := 0) (cc := 0) (sh := false)) fun g => ?_
 have hT := (one_is g).1
 have WK := wellF g
 have hkr := first_kr g
 obtain ⟨K, hK⟩ : ∃ K, K = kNew 1 1 0 0 false g := ⟨_, rfl⟩
 rw [← hK] at hT WK hkr
 refine J_pick (A := coA g.p _) PC ?_
 refine J_asTo (B := coA g.p K) (by rw [hK]) ?_
 have WKN : Well { K with rt := [((4, 1), (rqN (4, 1) ⟨1, 0, 0, 0, 0, 0, 0, 0⟩))] } 20 61 := by
  have h := WK.add (by omega) (q := (rqN (4, 1) ⟨1, 0, 0, 0, 0, 0, 0, 0⟩)) sqe_nop
  rw [hT.rt, first_add.2] at h
  exact h
 refine ag rfl rfl <| nxx <| mv rfl rfl <| L_pur rfl (p_eqNilPtr Tryz.underlying25 rfl) <| mv rfl rfl <| J_bool (t := 6) (c := false) rfl (rfl) <| L_op <| G_on rfl rfl rfl ?_
 refine J_pur (p_move rfl) rfl rfl rfl <| L_op <| G_on rfl rfl rfl <| xc fc22 (.cons rfl .nil) rfl (coReqs) fun _ => L_op <| G_on rfl rfl rfl <| J_pur (p_eqNilPtr Tryz.underlying48 rfl) rfl rfl rfl <| L_pur rfl (p_pick_f rfl rfl) ?_
 refine mv rfl rfl <| J_bool (t := 11) (c := false) rfl (rfl) <| L_op <| G_on rfl rfl rfl <| J_pur (p_move rfl) rfl rfl rfl <| L_op <| G_on rfl rfl rfl <| J_pur (bld39 (.cons rfl (.cons rfl .nil)) (by repeat constructor)) rfl rfl rfl ?_
 refine J_slot (t := 13) (v := .agg (encI (4, 1)).toArray) rfl rfl <| L_op <| G_on rfl rfl rfl <| xc fc25 (.cons rfl (.cons rfl .nil)) rfl (coStartG (s := K) (i := (4, 1)) PC WK (by omega) (by omega) (fun q T hq => by rw [hT.rt] at hq; exact nomatch (show (none : Option Rq) = some q from hq))) fun x14 => ?_
 refine J_slot (t := 14) (v := .bool false) rfl (by rw [kStart_nil hT.rt]) <| J_pick (A := coA g.p _) PC ?_
 refine J_asTo (B := coA g.p K) (by rw [kStart_nil hT.rt]) <| L_pur rfl (p_pick_f rfl rfl) <| nq <| J_bool (t := 15) (c := false) rfl (rfl) <| C_false rfl <| J_skip <| qx <| mv rfl rfl ?_
 refine L_op <| xc fc22 (.cons rfl .nil) rfl (coReqs) fun _ => L_pur rfl (bld39 (.cons rfl (.cons rfl .nil)) (by repeat constructor)) <| J_slot (t := 18) (v := .agg (encI (4, 1)).toArray) rfl rfl <| L_pur rfl (bld31 (.cons rfl .nil) (by repeat constructor)) <| L_pur rfl (bld104 (.cons rfl (.cons rfl .nil)) (by repeat constructor)) <| J_slot (t := 20) (v := .agg (encQ (rqN (4, 1) ⟨1, 0, 0, 0, 0, 0, 0, 0⟩)).toArray) rfl rfl <| L_op <| xc fc45 (.cons rfl (.cons rfl .nil)) rfl (coRqAdd (s := K) (q := (rqN (4, 1) ⟨1, 0, 0, 0, 0, 0, 0, 0⟩)) PC (by rw [hT.rt]; exact Ids.nil) (by rw [hT.rt]; decide)) fun _ => ?_
 refine J_pick (A := coA g.p _) PC ?_
 refine J_asTo (B := coA g.p { K with rt := [((4, 1), (rqN (4, 1) ⟨1, 0, 0, 0, 0, 0, 0, 0⟩))] }) (by rw [hT.rt, first_add.2]) <| nx <| mv rfl rfl <| L_pur rfl (bld39 (.cons rfl (.cons rfl .nil)) (by repeat constructor)) <| J_slot (t := 23) (v := .agg (encI (4, 1)).toArray) rfl rfl ?_
 refine L_op (xc fc25 (.cons rfl (.cons rfl .nil)) rfl (coStartG (s := { K with rt := [((4, 1), (rqN (4, 1) ⟨1, 0, 0, 0, 0, 0, 0, 0⟩))] }) (i := (4, 1)) PC WKN (by omega) (by omega) (fun q T hq => by
   have hq2 : some (⟨(4, 1), ⟨1, 0, 0, 0, 0, 0, 0, 0⟩, 0, false, true⟩ : Rq) = some q := hq
   cases hq2
   exact doesC1 ((WKN.start (4, 1)).good (by omega) (by omega)) sqe_nop rfl)) fun x24 => ?_)
 have hr := hkr x24
 refine J_slot (t := 24) (v := .bool true) rfl (by rw [kStart_is (s := { K with rt := [((4, 1), (rqN (4, 1) ⟨1, 0, 0, 0, 0, 0, 0, 0⟩))] }) (i := (4, 1)) (q := (rqN (4, 1) ⟨1, 0, 0, 0, 0, 0, 0, 0⟩)) rfl rfl]; split <;> rfl) ?_
 obtain ⟨S1, hS1⟩ : ∃ S1, S1 = (kStart { K with rt := [((4, 1), (rqN (4, 1) ⟨1, 0, 0, 0, 0, 0, 0, 0⟩))] } (4, 1) x24).1 := ⟨_, rfl⟩
 refine J_pick (A := coA g.p _) PC ?_
 refine J_asTo (B := coA g.p S1) (by rw [hS1]) ?_
 rw [← hS1] at hr
 refine mv rfl rfl <| J_bool (t := 25) (c := true) rfl (rfl) <| L_op <| G_on rfl rfl rfl <| J_pur (p_move rfl) rfl rfl rfl <| L_op <| G_on rfl rfl rfl <| xc fc22 (.cons rfl .nil) rfl (coReqs) fun _ => ?_
 refine L_op <| G_on rfl rfl rfl <| xc fc26 (.cons rfl (.cons rfl .nil)) rfl (coRqOf (s := S1) (g := 4) PC (by rw [hr]; exact Ids.nil) (by rw [hr]; decide)) <| JR fun a28 c28 hw28 hl28 hm28 hz28 => L_op <| G_on rfl rfl rfl <| J_pur (p_len rfl Tryz.underlying54) rfl rfl rfl <| L_op <| G_on rfl rfl rfl ?_
 refine J_pur (p_eql rfl rfl) rfl rfl rfl <| J_slot (t := 30) (v := .bool true) rfl (by congr 1; rw [List.length_map, hr, ofQ_nil]; rfl) <| L_pur rfl (p_pick_t rfl rfl) <| ag rfl rfl <| nq <| J_ret ?_
 exact J_return (()) Tryz.results12 (.tmp rfl .nil) rfl SU
end Go.Pse
namespace Go.Pse
open Go.RowKit Go.Proofs
theorem sqeOk_mk {op fl tag cap a b c time : Int} (h1 : in32 cap := by unfold in32; first | omega | (unfold atK; omega)) (h2 : in32 a := by unfold in32; first | omega | (unfold atK; omega)) (h3 : in32 b := by unfold in32; first | omega | (unfold atK; omega)) (h4 : in32 c := by unfold in32; first | omega | (unfold atK; omega)) : SqeOk ⟨op, fl, tag, cap, a, b, c, time⟩ := ⟨h1, h2, h3, h4⟩
end Go.Pse
namespace Go.Pse
open Go.RowKit Go.Proofs Go.Proofs.YtjhbhjenmijmfaaGreat
theorem pf_laidOut : laidOutB Tryz.prog = true := by kernel_rfl
theorem pf_rowed : mapsRowed Tryz.prog = true := by kernel_rfl
theorem pf_stops : (Tryz.prog.stops == []) = true := by kernel_rfl
theorem pf_knobs : (Tryz.prog.stopKnobs == []) = true := by kernel_rfl
theorem pf_heard : Tryz.prog.stopsHeard = true := by kernel_rfl
theorem pf_own : ownKnob Tryz.prog.godebug = none := by kernel_rfl
theorem pf_plain : (false == Tryz.prog.plainKeys) = true := by kernel_rfl
def ioNs : List Nat := [104, 97, 114, 110, 101, 115, 115, 32, 98, 50, 101, 100, 50, 97, 97, 48, 53, 50, 55, 50, 49, 57, 52, 53, 55, 100, 99, 51, 100, 52, 55, 55, 102, 102, 53, 53, 55, 101, 51, 50, 102, 56, 57, 50, 52, 100, 51, 54, 49, 54, 51, 102, 98, 50, 49, 53, 55, 99, 48, 99, 51, 56, 48, 54, 100, 56, 100, 50, 99, 97, 54, 53, 32, 99, 117, 116, 32, 97, 116, 32, 114, 105, 110, 103, 107, 101, 114, 110, 47, 114, 105, 110, 103, 107, 101, 114, 110, 108, 97, 119, 50, 53, 46, 65, 99, 116, 82, 101, 112, 108, 105, 101, 115, 32, 114, 105, 110, 103, 107, 101, 114, 110, 47, 114, 105, 110, 103, 107, 101, 114, 110, 108, 97, 119, 50, 53, 46, 65, 99, 116, 77, 101, 101, 116, 115, 32, 114, 105, 110, 103, 107, 101, 114, 110, 47, 114, 105, 110, 103, 107, 101, 114, 110, 108, 97, 119, 50, 53, 46, 65, 99, 116, 67, 97, 110, 99, 101, 108, 115, 32, 114, 105, 110, 103, 107, 101, 114, 110, 47, 114, 105, 110, 103, 107, 101, 114, 110, 108, 97, 119, 50, 53, 46, 65, 99, 116, 83, 105, 103, 110, 97, 108, 115, 32, 114, 105, 110, 103, 107, 101, 114, 110, 47, 114, 105, 110, 103, 107, 101, 114, 110, 108, 97, 119, 50, 53, 46, 65, 99, 116, 84, 104, 114, 101, 97, 100, 115, 32, 114, 105, 110, 103, 107, 101, 114, 110, 47, 114, 105, 110, 103, 107, 101, 114, 110, 108, 97, 119, 50, 53, 46, 65, 99, 116, 77, 97, 107, 101, 115, 32, 114, 105, 110, 103, 107, 101, 114, 110, 47, 114, 105, 110, 103, 107, 101, 114, 110, 108, 97, 119, 50, 53, 46, 65, 99, 116, 80, 97, 103, 101, 115, 32, 114, 105, 110, 103, 107, 101, 114, 110, 47, 114, 105, 110, 103, 107, 101, 114, 110, 108, 97, 119, 50, 53, 46, 65, 99, 116, 82, 105, 103, 104, 116, 115, 32, 114, 105, 110, 103, 107, 101, 114, 110, 47, 114, 105, 110, 103, 107, 101, 114, 110, 108, 97, 119, 50, 53, 46, 65, 99, 116, 69, 114, 114, 111, 114, 115]
def ioCs : List Char := ioNs.map Char.ofNat
theorem io : Tryz.prog.initOrder = String.ofList ioCs := by kernel_rfl
theorem words : wordsSigns Tryz.prog.initOrder.toList = wordsSigns ioCs := by rw [io, String.toList_ofList]
theorem make_of {P : Program} {c : List Char} {r : List (List Char)} (h : behindMainWord (wordsSigns P.initOrder.toList) = c :: r) (h1 : (c == "gc".toList) = false) (h2 : (c == "spec".toList) = false) (h3 : (c == "cut".toList) = true) : (P.make == some .cut) = true := by
  unfold Program.make
  rw [h]
  simp only [h1, h2, h3, Bool.or_self, Bool.true_or, Bool.false_eq_true, if_false, if_true]
  rfl
theorem enter_of {P : Program} {c : List Char} {r : List (List Char)} (h : behindMainWord (wordsSigns P.initOrder.toList) = c :: r) (hs : stripLifts liftWords (c :: r) = ([], c :: r)) (hh : (some c == some "cut".toList) = true) (h1 : P.laysLater = false) (h2 : P.bearsReflect = false) (h3 : P.doorFits [] = true) : P.mayEnter = true := by
  unfold Program.mayEnter
  rw [h]
  simp only [hs, h1, h2, h3, List.head?_cons, hh]
  simp
def ioW0 : List Char := [Char.ofNat 99, Char.ofNat 117, Char.ofNat 116]
def ioWr : List (List Char) := [[Char.ofNat 97, Char.ofNat 116], [Char.ofNat 114, Char.ofNat 105, Char.ofNat 110, Char.ofNat 103, Char.ofNat 107, Char.ofNat 101, Char.ofNat 114, Char.ofNat 110, Char.ofNat 47, Char.ofNat 114, Char.ofNat 105, Char.ofNat 110, Char.ofNat 103, Char.ofNat 107, Char.ofNat 101, Char.ofNat 114, Char.ofNat 110, Char.ofNat 108, Char.ofNat 97, Char.ofNat 119, Char.ofNat 50, Char.ofNat 53, Char.ofNat 46, Char.ofNat 65, Char.ofNat 99, Char.ofNat 116, Char.ofNat 82, Char.ofNat 101, Char.ofNat 112, Char.ofNat 108, Char.ofNat 105, Char.ofNat 101, Char.ofNat 115], [Char.ofNat 114, Char.ofNat 105, Char.ofNat 110, Char.ofNat 103, Char.ofNat 107, Char.ofNat 101, Char.ofNat 114, Char.ofNat 110, Char.ofNat 47, Char.ofNat 114, Char.ofNat 105, Char.ofNat 110, Char.ofNat 103, Char.ofNat 107, Char.ofNat 101, Char.ofNat 114, Char.ofNat 110, Char.ofNat 108, Char.ofNat 97, Char.ofNat 119, Char.ofNat 50, Char.ofNat 53, Char.ofNat 46, Char.ofNat 65, Char.ofNat 99, Char.ofNat 116, Char.ofNat 77, Char.ofNat 101, Char.ofNat 101, Char.ofNat 116, Char.ofNat 115], [Char.ofNat 114, Char.ofNat 105, Char.ofNat 110, Char.ofNat 103, Char.ofNat 107, Char.ofNat 101, Char.ofNat 114, Char.ofNat 110, Char.ofNat 47, Char.ofNat 114, Char.ofNat 105, Char.ofNat 110, Char.ofNat 103, Char.ofNat 107, Char.ofNat 101, Char.ofNat 114, Char.ofNat 110, Char.ofNat 108, Char.ofNat 97, Char.ofNat 119, Char.ofNat 50, Char.ofNat 53, Char.ofNat 46, Char.ofNat 65, Char.ofNat 99, Char.ofNat 116, Char.ofNat 67, Char.ofNat 97, Char.ofNat 110, Char.ofNat 99, Char.ofNat 101, Char.ofNat 108, Char.ofNat 115], [Char.ofNat 114, Char.ofNat 105, Char.ofNat 110, Char.ofNat 103, Char.ofNat 107, Char.ofNat 101, Char.ofNat 114, Char.ofNat 110, Char.ofNat 47, Char.ofNat 114, Char.ofNat 105, Char.ofNat 110, Char.ofNat 103, Char.ofNat 107, Char.ofNat 101, Char.ofNat 114, Char.ofNat 110, Char.ofNat 108, Char.ofNat 97, Char.ofNat 119, Char.ofNat 50, Char.ofNat 53, Char.ofNat 46, Char.ofNat 65, Char.ofNat 99, Char.ofNat 116, Char.ofNat 83, Char.ofNat 105, Char.ofNat 103, Char.ofNat 110, Char.ofNat 97, Char.ofNat 108, Char.ofNat 115], [Char.ofNat 114, Char.ofNat 105, Char.ofNat 110, Char.ofNat 103, Char.ofNat 107, Char.ofNat 101, Char.ofNat 114, Char.ofNat 110, Char.ofNat 47, Char.ofNat 114, Char.ofNat 105, Char.ofNat 110, Char.ofNat 103, Char.ofNat 107, Char.ofNat 101, Char.ofNat 114, Char.ofNat 110, Char.ofNat 108, Char.ofNat 97, Char.ofNat 119, Char.ofNat 50, Char.ofNat 53, Char.ofNat 46, Char.ofNat 65, Char.ofNat 99, Char.ofNat 116, Char.ofNat 84, Char.ofNat 104, Char.ofNat 114, Char.ofNat 101, Char.ofNat 97, Char.ofNat 100, Char.ofNat 115], [Char.ofNat 114, Char.ofNat 105, Char.ofNat 110, Char.ofNat 103, Char.ofNat 107, Char.ofNat 101, Char.ofNat 114, Char.ofNat 110, Char.ofNat 47, Char.ofNat 114, Char.ofNat 105, Char.ofNat 110, Char.ofNat 103, Char.ofNat 107, Char.ofNat 101, Char.ofNat 114, Char.ofNat 110, Char.ofNat 108, Char.ofNat 97, Char.ofNat 119, Char.ofNat 50, Char.ofNat 53, Char.ofNat 46, Char.ofNat 65, Char.ofNat 99, Char.ofNat 116, Char.ofNat 77, Char.ofNat 97, Char.ofNat 107, Char.ofNat 101, Char.ofNat 115], [Char.ofNat 114, Char.ofNat 105, Char.ofNat 110, Char.ofNat 103, Char.ofNat 107, Char.ofNat 101, Char.ofNat 114, Char.ofNat 110, Char.ofNat 47, Char.ofNat 114, Char.ofNat 105, Char.ofNat 110, Char.ofNat 103, Char.ofNat 107, Char.ofNat 101, Char.ofNat 114, Char.ofNat 110, Char.ofNat 108, Char.ofNat 97, Char.ofNat 119, Char.ofNat 50, Char.ofNat 53, Char.ofNat 46, Char.ofNat 65, Char.ofNat 99, Char.ofNat 116, Char.ofNat 80, Char.ofNat 97, Char.ofNat 103, Char.ofNat 101, Char.ofNat 115], [Char.ofNat 114, Char.ofNat 105, Char.ofNat 110, Char.ofNat 103, Char.ofNat 107, Char.ofNat 101, Char.ofNat 114, Char.ofNat 110, Char.ofNat 47, Char.ofNat 114, Char.ofNat 105, Char.ofNat 110, Char.ofNat 103, Char.ofNat 107, Char.ofNat 101, Char.ofNat 114, Char.ofNat 110, Char.ofNat 108, Char.ofNat 97, Char.ofNat 119, Char.ofNat 50, Char.ofNat 53, Char.ofNat 46, Char.ofNat 65, Char.ofNat 99, Char.ofNat 116, Char.ofNat 82, Char.ofNat 105, Char.ofNat 103, Char.ofNat 104, Char.ofNat 116, Char.ofNat 115], [Char.ofNat 114, Char.ofNat 105, Char.ofNat 110, Char.ofNat 103, Char.ofNat 107, Char.ofNat 101, Char.ofNat 114, Char.ofNat 110, Char.ofNat 47, Char.ofNat 114, Char.ofNat 105, Char.ofNat 110, Char.ofNat 103, Char.ofNat 107, Char.ofNat 101, Char.ofNat 114, Char.ofNat 110, Char.ofNat 108, Char.ofNat 97, Char.ofNat 119, Char.ofNat 50, Char.ofNat 53, Char.ofNat 46, Char.ofNat 65, Char.ofNat 99, Char.ofNat 116, Char.ofNat 69, Char.ofNat 114, Char.ofNat 114, Char.ofNat 111, Char.ofNat 114, Char.ofNat 115]]
theorem words2 : behindMainWord (wordsSigns Tryz.prog.initOrder.toList) = ioW0 :: ioWr := by
  rw [words]
  kernel_rfl
theorem w_gc : (ioW0 == "gc".toList) = false := by kernel_rfl
theorem w_spec : (ioW0 == "spec".toList) = false := by kernel_rfl
theorem w_cut : (ioW0 == "cut".toList) = true := by kernel_rfl
theorem w_strip : stripLifts liftWords (ioW0 :: ioWr) = ([], ioW0 :: ioWr) := by kernel_rfl
theorem w_head : (some ioW0 == some "cut".toList) = true := by kernel_rfl
theorem w_later : Tryz.prog.laysLater = false := by kernel_rfl
theorem w_refl : Tryz.prog.bearsReflect = false := by kernel_rfl
theorem w_door : Tryz.prog.doorFits [] = true := by kernel_rfl
theorem pf_enter : Tryz.prog.mayEnter = true := enter_of words2 w_strip w_head w_later w_refl w_door
theorem pf_lifts : (false == Tryz.prog.liftsFinal) = true := by
  unfold Program.liftsFinal Program.headLifts
  rw [words2]
  kernel_rfl
theorem pf_make : (Tryz.prog.make == some .cut) = true := make_of words2 w_gc w_spec w_cut
end Go.Pse
