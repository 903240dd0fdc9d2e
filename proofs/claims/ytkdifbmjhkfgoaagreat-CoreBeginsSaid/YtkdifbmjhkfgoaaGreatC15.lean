/-
  The law on how all begins, walked.
-/
import Derived.Test.YtkdifbmjhkfgoaaGreatC14
namespace Go.Pse
open Go.RowKit Go.Proofs

theorem ring_at {K : KS} {ct cu : Nat} {cs cc : Int} {bs : Nat → Nat × Nat} {u : Int} (hrg : K.rg = (List.range ct).map fun j => (bOf (cu : Int) j + 3, (bs j).1, rgNew (bOf (cu : Int) j + 4) (bOf (cu : Int) j + 5) cs cc)) (h : ∃ j, j < ct ∧ u = bOf (cu : Int) j + 3) :
  ∃ (n b : Nat) (r : Rg), look (ptrs K.rg) u = some b ∧ K.rg[n]? = some (u, b, r) ∧ r.sq = u + 1 ∧ r.cq = u + 2 := by
 have hk : u ∈ (ptrs K.rg).map Prod.fst := by
  obtain ⟨j, hj, rfl⟩ := h
  rw [hrg]
  simp only [ptrs, List.map_map, List.mem_map, List.mem_range]
  exact ⟨j, hj, rfl⟩
 obtain ⟨b, hb, hm⟩ := key_look hk
 obtain ⟨x, hx, he⟩ := List.mem_map.1 hm
 obtain ⟨n, hn⟩ := List.mem_iff_getElem?.1 hx
 obtain ⟨x1, x2, r⟩ := x
 cases he
 rw [hrg] at hx
 obtain ⟨j, _, hj⟩ := List.mem_map.1 hx
 cases hj
 exact ⟨n, _, _, hb, hn, by simp only [rgNew]; omega, by simp only [rgNew]; omega⟩
theorem owns_unit {K : KS} {t : Int} {T : Th} {x : Option Th} (hT : look K.th t = some T) (hu : ∀ q ∈ K.th, q.2.ring = T.ring → q.2.unit = T.unit) (ho : Owns K T.ring x) : ∃ O, x = some O ∧ O.unit = T.unit := by
  cases x with
  | none => exact absurd rfl (ho (t, T) (mem_look hT))
  | some O =>
    obtain ⟨k, hk, hr⟩ := ho
    exact ⟨O, rfl, hu (k, O) (mem_look hk) hr⟩
set_option maxRecDepth 100000 in
set_option maxHeartbeats 4000000 in
theorem coreBegins {E W : World} {v : Value} {ns : List Int} (hr : Reads W 1 v (ns.map fun z => [Value.int .i64 z])) :
  Con Tryz.prog 3 #[v] E [old W] (fun _ : Unit => .bool true) (fun _ => [old W]) := by
 refine Con.body (vs := [v]) (n := 280) Tryz.func3 rfl rfl [(0, v)] (env_ok 1 rfl) <| J_readsB (fun w H => hr.old HS H) fun hw a cap hv h1 h2' h3 => ?_
 subst hv
 have hm : cap ≤ 9223372036854775807 := h2'
 have hml : (ns.map fun z => [Value.int .i64 z]).length = ns.length := List.length_map _
 refine sr <| ag rfl rfl <| nx <| L_op <| x_call Tryz.func6 nm6 bd6 .nil rfl (first23) fun _ => ag rfl rfl <| nxx <| mv rfl rfl ?_
 refine L_pur rfl (p_not rfl) <| nq <| J_bool (t := 31) (c := false) rfl (rfl) <| C_false rfl <| J_skip <| Q_then <| J_seq <| sr ?_
 refine mv rfl rfl <| L_pur rfl (p_len rfl Tryz.underlying22) <| L_pur rfl (p_gtr rfl rfl) <| nq ?_
 refine C_dec rfl (fun h34 => ?_) (fun h34 => ?_)
 ·
  refine sr <| mv rfl rfl <| ag rfl rfl <| nq <| J_ret <| Q_then_ret ?_
  exact J_return (()) Tryz.results3 (.tmp rfl .nil) rfl SU
 ·
  have hlen : ns.length ≤ 10 := by omega
  refine J_skip <| qx <| mv rfl rfl <| L_pur rfl (bld29 (.cons rfl .nil) (by repeat constructor)) <| L_op <| x_box rfl rfl rfl fun b38 => J_pick (A := blk b38 _ _) PC ?_
  refine J_asTo (B := blk b38 29 [.slice a (ns.map fun z => [Value.int .i64 z]).length cap, .int .i64 ((0 : Nat) : Int)]) (by rfl) <| L_op <| x_call Tryz.func7 nm7 bd7 (.cons rfl .nil) rfl (confC (zs := ns) PC (fun w H => hr.old HS H) (by omega)) fun _ => ?_
  have hn0 := num_lt (x := seqAt ns 0) (b := 3) (by omega)
  have hn1 := num_lt (x := seqAt ns 1) (b := 12) (by omega)
  obtain ⟨ct, hct⟩ : ∃ ct : Nat, ct = 1 + num (seqAt ns 0) 3 := ⟨_, rfl⟩
  obtain ⟨cu, hcu⟩ : ∃ cu : Nat, cu = 1 + num (seqAt ns 1) 12 := ⟨_, rfl⟩
  obtain ⟨cs, hcs⟩ : ∃ cs : Int, cs = ((num (seqAt ns 2) 4 : Nat) : Int) := ⟨_, rfl⟩
  obtain ⟨cc, hcc0⟩ : ∃ cc : Int, cc = ((num (seqAt ns 3) 5 : Nat) : Int) := ⟨_, rfl⟩
  obtain ⟨sh, hsh⟩ : ∃ sh : Bool, sh = decide (((num (seqAt ns 4) 4 : Nat) : Int) > 0) := ⟨_, rfl⟩
  have hc3 : 1 ≤ ct ∧ ct ≤ 3 := by omega
  have hu12 : 1 ≤ cu ∧ cu ≤ 12 := by omega
  refine J_slot (t := 39) (v := .agg #[.int .i64 (ct : Int), .int .i64 (cu : Int), .int .i64 cs, .int .i64 cc, .bool sh]) rfl (by rw [hct, hcu, hcs, hcc0, hsh]; simp [encG]) <| L_op <| x_alloc ty25 rfl fun b4 => L_op <| x_store rfl rfl ty25 rfl SM SM RO PT ?_
  refine nx <| L_val rfl (v_loadA rfl ty25 HS CT) ?_
  refine J_slot (t := 40) (v := .agg (encG (ct : Int) (cu : Int) cs cc sh).toArray) rfl rfl <| L_op <| x_call Tryz.func8 nm8 bd8 (.cons rfl .nil) rfl (coNew (ct := (ct : Int)) (cu := (cu : Int)) (cs := cs) (cc := cc) (sh := sh)) fun g => ?_
  obtain ⟨K, hK⟩ : ∃ K, K = kNew (ct : Int) (cu : Int) cs cc sh g := ⟨_, rfl⟩
  have hB : Beg K ct cu (want sh) := beg_of (by rw [hK]; exact kNew_core hc3 hu12) (begOk_is hc3 hu12)
  have hrg := kNew_rg (cs := cs) (cc := cc) (sh := sh) (g := g) hc3 hu12
  rw [← hK] at hrg
  have hql : K.q.length ≤ 100000 := by
   have h := kTh_qlen (s := kBase (ct : Int) (cu : Int) (cutI cs 0 3) (cutI cc 0 4) sh g.mb g.be g.bn) (h := hOf (ct : Int) (cu : Int)) (bs := g.bs) ct
   rw [hK, kNew_is hc3 hu12]
   have h0 : (kBase (ct : Int) (cu : Int) (cutI cs 0 3) (cutI cc 0 4) sh g.mb g.be g.bn).q.length = 0 := by cases sh <;> rfl
   omega
  have hnow : K.now = 0 := by rw [hK]; exact kNew_now hc3 hu12
  have hw : want sh = 8 ∨ want sh = 10 := by cases sh <;> simp [want]
  have hsl : K.sl.length ≤ 30 := by
   rw [hB.nsl]
   have : ct = 1 ∨ ct = 2 ∨ ct = 3 := by omega
   rcases hw with h | h <;> rw [h] <;> omega
  refine J_pick (A := coA g.p _) PC ?_
  refine J_asTo (B := coA g.p K) (by rw [hK]) ?_
  obtain ⟨L, hL⟩ : ∃ L, L = sortP (K.sl.map Prod.fst) := ⟨_, rfl⟩
  have hLl : L.length = want sh * ct := by rw [hL, sortP_len, List.length_map, hB.nsl]
  have hL30 : L.length ≤ 30 := by rw [hLl, ← hB.nsl]; exact hsl
  have hLm : ∀ p ∈ L, p ∈ K.sl.map Prod.fst := fun p hp => by rw [hL] at hp; exact (sortF_mem).1 hp
  obtain ⟨TS, hTS⟩ : ∃ TS, TS = sortZ (K.th.map Prod.fst) := ⟨_, rfl⟩
  have hTl : TS.length = ct := by rw [hTS, sortZ_len, List.length_map, hB.nth]
  have hTm : ∀ p ∈ TS, p ∈ K.th.map Prod.fst := fun p hp => by rw [hTS] at hp; exact (List.mergeSort_perm _ _).mem_iff.1 hp
  refine ag rfl rfl <| nxx <| mv rfl rfl <| L_pur rfl (p_eqNilPtr Tryz.underlying30 rfl) <| nq <| J_bool (t := 43) (c := false) rfl (rfl) <| C_false rfl <| J_skip ?_
  refine qx <| mv rfl rfl <| L_op <| x_call Tryz.func9 nm9 bd9 (.cons rfl .nil) rfl (coSlots) fun _ => L_op <| x_call Tryz.func10 nm10 bd10 (.cons rfl .nil) rfl (coSlAll (s := K) PC (by omega)) <| JE (L.map encI) (by rw [hL]) fun a46 c46 hw46 hl46 hm46 hz46 => ?_
  have hmL : (L.map encI).length = L.length := List.length_map _
  refine ag rfl rfl <| nx <| ag rfl rfl <| nq ?_
  refine J_cut (α := Unit) (fun _ => [row 44 2 (.slice a46 (L.map encI).length c46) (L.map encI), blk b4 25 [.int .i64 (ct : Int), .int .i64 (cu : Int), .int .i64 cs, .int .i64 cc, .bool sh], coA g.p K, old W]) (fun _ => [(7, .int .i64 ((want sh : Nat) : Int)), (4, .pointer (some ⟨b4, 0, none⟩)), (5, .pointer (some ⟨g.p, 0, none⟩)), (3, .bool true), (6, .slice a46 (L.map encI).length c46)]) ?_ ?_
  ·
   refine sr <| fa rfl rfl fa25_4 <| L_val rfl (v_load rfl ty4 HS (by exact rfl)) ?_
   refine nq ?_
   refine C_split rfl (fun h48 => ?_) (fun h48 => ?_)
   ·
    refine J_region <| ag rfl rfl <| nq <| J_slot (t := 7) (v := .int .i64 ((want sh : Nat) : Int)) rfl (by rw [h48]; rfl) ?_
    exact J_at (α := Unit) (L := fun _ => [row 44 2 (.slice a46 (L.map encI).length c46) (L.map encI), blk b4 25 [.int .i64 (ct : Int), .int .i64 (cu : Int), .int .i64 cs, .int .i64 cc, .bool sh], coA g.p K, old W]) (G := fun _ => [(7, .int .i64 ((want sh : Nat) : Int)), (4, .pointer (some ⟨b4, 0, none⟩)), (5, .pointer (some ⟨g.p, 0, none⟩)), (3, .bool true), (6, .slice a46 (L.map encI).length c46)]) () SU KE
   ·
    refine J_skip <| Q_then <| J_slot (t := 7) (v := .int .i64 ((want sh : Nat) : Int)) rfl (by rw [h48]; rfl) ?_
    exact J_at (α := Unit) (L := fun _ => [row 44 2 (.slice a46 (L.map encI).length c46) (L.map encI), blk b4 25 [.int .i64 (ct : Int), .int .i64 (cu : Int), .int .i64 cs, .int .i64 cc, .bool sh], coA g.p K, old W]) (G := fun _ => [(7, .int .i64 ((want sh : Nat) : Int)), (4, .pointer (some ⟨b4, 0, none⟩)), (5, .pointer (some ⟨g.p, 0, none⟩)), (3, .bool true), (6, .slice a46 (L.map encI).length c46)]) () SU KE
  ·
   intro _
   refine sr <| mv rfl rfl <| L_op <| x_call Tryz.func11 nm11 bd11 (.cons rfl .nil) rfl (coThreads PC (by rw [hB.nth]; omega)) <| JE (TS.map encN) (by rw [hTS]) fun a50 c50 hw50 hl50 hm50 hz50 => ?_
   have hmT : (TS.map encN).length = TS.length := List.length_map _
   refine ag rfl rfl <| nq <| J_seq <| J_seq <| J_drawL none mixed <| ip 0 rfl rfl rfl rfl (p_move rfl) <| ip 1 rfl rfl rfl rfl (p_len rfl Tryz.underlying32) <| ip 2 rfl rfl rfl rfl (p_move rfl) ?_
   refine ip 3 rfl rfl rfl rfl (p_fieldAddr rfl fa25_0) <| iv 4 rfl rfl rfl rfl (fun _ => v_load rfl ty3 HS (by exact rfl)) ?_
   refine ip 5 rfl rfl rfl rfl (p_mul64 rfl rfl (by rcases hw with h | h <;> rw [h] <;> omega)) <| ip 6 rfl rfl rfl rfl (p_neq rfl rfl) <| J_bool (t := 57) (c := false) rfl (by rw [hmL, hLl]; simp) <| ip 7 rfl rfl rfl rfl (p_move rfl) <| J_bool (t := 58) (c := false) rfl (rfl) <| I_takeOn (i := 8) rfl rfl rfl rfl rfl rfl rfl (by kernel_rfl) (fun _ _ _ _ h => h) (fun _ => Pur.vl (p_move rfl)) <| I_takeOn (i := 9) rfl rfl rfl rfl rfl rfl rfl (by kernel_rfl) (fun _ _ _ _ h => h) (fun _ => Pur.vl (p_len rfl Tryz.underlying22)) <| I_takeOn (i := 10) rfl rfl rfl rfl rfl rfl rfl (by kernel_rfl) (fun _ _ _ _ h => h) (fun _ => Pur.vl (p_fieldAddr rfl fa25_0)) ?_
   refine I_takeOn (i := 11) rfl rfl rfl rfl rfl rfl rfl (by kernel_rfl) (fun _ _ _ _ h => h) (fun _ => v_load rfl ty3 HS (by exact rfl)) ?_
   refine I_takeOn (i := 12) rfl rfl rfl rfl rfl rfl rfl (by kernel_rfl) (fun _ _ _ _ h => h) (fun _ => Pur.vl (p_neq rfl rfl)) <| J_bool (t := 63) (c := false) rfl (by rw [hmT, hTl]; simp) <| ip 13 rfl rfl rfl rfl (p_pick_f rfl rfl) <| ip 14 rfl rfl rfl rfl (p_move rfl) <| J_bool (t := 65) (c := false) rfl (rfl) <| I_takeOn (i := 15) rfl rfl rfl rfl rfl rfl rfl (by kernel_rfl) (fun _ _ _ _ h => h) (fun _ => Pur.vl (p_move rfl)) <| I_takeOn (i := 18) rfl rfl rfl rfl rfl rfl rfl (by kernel_rfl) (fun _ _ _ _ h => h) (fun _ => Pur.vl (p_fieldAddr rfl fa25_0)) <| I_takeOn (i := 19) rfl rfl rfl rfl rfl rfl rfl (by kernel_rfl) (fun _ _ _ _ h => h) (fun _ => v_load rfl ty3 HS (by exact rfl)) ?_
   refine i1 16 rfl <| G_on rfl rfl rfl <| x_call Tryz.func12 nm12 bd12 (.cons rfl .nil) rfl (coRings PC (by rw [hrg]; simp; omega)) <| JE ((sortZ (K.rg.map Prod.fst)).map encN) (by rfl) fun a67 c67 hw67 hl67 hm67 hz67 => I_takeOn (i := 17) rfl rfl rfl rfl rfl rfl rfl (by kernel_rfl) (fun _ _ _ _ h => h) (fun _ => Pur.vl (p_len rfl Tryz.underlying22)) <| I_takeOn (i := 20) rfl rfl rfl rfl rfl rfl rfl (by kernel_rfl) (fun _ _ _ _ h => h) (fun _ => Pur.vl (p_neq rfl rfl)) <| J_bool (t := 71) (c := false) rfl (by rw [List.length_map, sortZ_len, List.length_map, hrg]; simp) <| ip 21 rfl rfl rfl rfl (p_pick_f rfl rfl) ?_
   refine ip 22 rfl rfl rfl rfl (p_move rfl) <| J_bool (t := 73) (c := false) rfl (rfl) <| I_takeOn (i := 23) rfl rfl rfl rfl rfl rfl rfl (by kernel_rfl) (fun _ _ _ _ h => h) (fun _ => Pur.vl (p_move rfl)) <| I_takeOn (i := 27) rfl rfl rfl rfl rfl rfl rfl (by kernel_rfl) (fun _ _ _ _ h => h) (fun _ => Pur.vl (p_fieldAddr rfl fa25_0)) <| I_takeOn (i := 28) rfl rfl rfl rfl rfl rfl rfl (by kernel_rfl) (fun _ _ _ _ h => h) (fun _ => v_load rfl ty3 HS (by exact rfl)) ?_
   refine i1 24 rfl <| G_on rfl rfl rfl <| x_call Tryz.func13 nm13 bd13 (.cons rfl .nil) rfl (coQueue) fun _ => i1 25 rfl <| G_on rfl rfl rfl <| x_call Tryz.func14 nm14 bd14 (.cons rfl .nil) rfl (coReady (s := K) PC hql) <| JE ((qReady K.q).map encN) (by rfl) fun a76 c76 hw76 hl76 hm76 hz76 => I_takeOn (i := 26) rfl rfl rfl rfl rfl rfl rfl (by kernel_rfl) (fun _ _ _ _ h => h) (fun _ => Pur.vl (p_len rfl Tryz.underlying22)) ?_
   refine I_takeOn (i := 29) rfl rfl rfl rfl rfl rfl rfl (by kernel_rfl) (fun _ _ _ _ h => h) (fun _ => Pur.vl (p_neq rfl rfl)) <| J_bool (t := 80) (c := false) rfl (by rw [List.length_map, hB.nq]; simp) <| ip 30 rfl rfl rfl rfl (p_pick_f rfl rfl) <| i0 <| Q_then <| J_bool (t := 81) (c := false) rfl (rfl) <| C_false rfl <| J_skip ?_
   refine Q_then <| J_seq <| sr <| ag rfl rfl <| nq <| J_block <| J_loop (α := Nat) (fun i => i ≤ L.length) (fun _ => [row 44 2 (.slice a46 (L.map encI).length c46) (L.map encI), row 3 1 (.slice a50 (TS.map encN).length c50) (TS.map encN), coA g.p K, old W]) (fun i => [(9, .int .i64 (i : Int)), (8, .slice a50 (TS.map encN).length c50), (5, .pointer (some ⟨g.p, 0, none⟩)), (3, .bool true), (6, .slice a46 (L.map encI).length c46)]) (fun i => L.length - i) 0 (by omega) SU KE ?_
   intro i hi
   refine J_seq <| sr <| mv rfl rfl <| mv rfl rfl <| L_pur rfl (p_len rfl Tryz.underlying32) <| L_pur rfl (p_lss rfl rfl) <| nq ?_
   refine C_dec rfl (fun h85 => ?_) (fun h85 => ?_)
   ·
    have hlt : i < L.length := by omega
    obtain ⟨bx, ox, rfl⟩ := hz46 (by intro h; rw [h] at hmL; simp at hmL; omega)
    obtain ⟨c, hcc⟩ : ∃ c, L[i]? = some c := ⟨_, List.getElem?_eq_getElem hlt⟩
    have hcm := hLm c (List.mem_of_getElem? hcc)
    obtain ⟨ho1, ho2⟩ := hB.one c hcm
    refine J_skip <| Q_then <| J_seq <| J_block <| J_seq <| J_drawL none mixed <| ip 0 rfl rfl rfl rfl (p_move rfl) <| ip 2 rfl rfl rfl rfl (p_move rfl) ?_
    refine ip 3 rfl rfl rfl rfl (p_move rfl) <| ip 4 rfl rfl rfl rfl (p_indexAddr rfl rfl Tryz.underlying32 ty44 (by omega) (by omega)) ?_
    refine I_take (i := 5) rfl rfl rfl rfl (by kernel_rfl) (fun _ _ _ _ h => h) (fun _ => v_loadE rfl ty44 HS (by first | (simp only [Int.toNat_natCast, List.getElem?_map, hcc]; rfl) | (simp only [Int.toNat_natCast, List.getElem?_map, hcd]; rfl) | simp | rfl)) ?_
    refine I_ready (rs := [1, 10]) SI (by kernel_rfl) (by simp) ?_
    refine (I_cons rfl ?_ (I_cons rfl ?_ I_nil))
    ·
     refine x_call Tryz.func9 nm9 bd9 (.cons rfl .nil) rfl (coSlots) fun _ => I_ready (rs := [6, 10]) SI (by kernel_rfl) (by simp) ?_
     refine (I_cons rfl ?_ (I_cons rfl ?_ I_nil))
     ·
      refine x_call Tryz.func15 nm15 bd15 (.cons rfl (.cons rfl .nil)) rfl (coSlGet (s := K) (a := c) PC) fun _ => ?_
      refine ip 7 rfl rfl rfl rfl (p_move rfl) <| ip 8 rfl rfl rfl rfl (p_extract rfl rfl) <| ip 9 rfl rfl rfl rfl (p_extract rfl rfl) <| i1 10 rfl <| x_alloc ty40 rfl fun b10 => i1 11 rfl <| x_store rfl rfl ty40 rfl SM SM RO PT ?_
      refine J_pick (A := blk b10 _ _) PC ?_
      refine J_asTo (B := blk b10 40 (encC ((look K.sl c).getD s0).1)) (by rfl) <| ip 12 rfl rfl rfl rfl (p_assign rfl) <| i0 <| Q_then <| J_seq <| J_seq <| J_drawL none mixed <| ip 0 rfl rfl rfl rfl (p_fieldAddr rfl fa40_4) ?_
      refine iv 1 rfl rfl rfl rfl (fun _ => v_load rfl ty3 HS (by exact rfl)) ?_
      refine ip 2 rfl rfl rfl rfl (p_neq rfl rfl) <| J_bool (t := 100) (c := false) rfl (by rw [ho1]; rfl) <| ip 3 rfl rfl rfl rfl (p_move rfl) <| J_bool (t := 101) (c := false) rfl (rfl) <| I_takeOn (i := 4) rfl rfl rfl rfl rfl rfl rfl (by kernel_rfl) (fun _ _ _ _ h => h) (fun _ => Pur.vl (p_move rfl)) <| I_takeOn (i := 6) rfl rfl rfl rfl rfl rfl rfl (by kernel_rfl) (fun _ _ _ _ h => h) (fun _ => Pur.vl (p_move rfl)) <| I_takeOn (i := 7) rfl rfl rfl rfl rfl rfl rfl (by kernel_rfl) (fun _ _ _ _ h => h) (fun _ => Pur.vl (p_move rfl)) <| I_takeOn (i := 8) rfl rfl rfl rfl rfl rfl rfl (by kernel_rfl) (fun _ _ _ _ h => h) (fun _ => Pur.vl (p_indexAddr rfl rfl Tryz.underlying32 ty44 (by omega) (by omega))) ?_
      refine I_takeOn (i := 9) rfl rfl rfl rfl rfl rfl rfl (by kernel_rfl) (fun _ _ _ _ h => h) (fun _ => v_loadE rfl ty44 HS (by first | (simp only [Int.toNat_natCast, List.getElem?_map, hcc]; rfl) | (simp only [Int.toNat_natCast, List.getElem?_map, hcd]; rfl) | simp | rfl)) ?_
      refine I_takeOn (i := 11) rfl rfl rfl rfl rfl rfl rfl (by kernel_rfl) (fun _ _ _ _ h => h) (fun _ => Pur.vl (bld44 .nil (by repeat constructor))) <| i1 5 rfl <| G_on rfl rfl rfl <| x_call Tryz.func9 nm9 bd9 (.cons rfl .nil) rfl (coSlots) fun _ => i1 10 rfl <| G_on rfl rfl rfl <| x_call Tryz.func16 nm16 bd16 (.cons rfl (.cons rfl .nil)) rfl (coSlPar (s := K) (a := c) PC) fun _ => ?_
      refine J_slot (t := 108) (v := kI (0, 0)) rfl (by rw [ho2]; rfl) <| I_takeOn (i := 12) rfl rfl rfl rfl rfl rfl rfl (by kernel_rfl) (fun _ _ _ _ h => h) (fun _ => Pur.vl (p_nev rfl rfl (fun w => eg44 _ _ _ _ _ w) (fun w => nev44 _ _ _ _ w))) <| ip 13 rfl rfl rfl rfl (p_pick_f rfl rfl) <| i0 <| Q_then <| J_bool (t := 111) (c := false) rfl (by simp) <| C_false rfl <| J_skip ?_
      refine qx <| ag rfl rfl <| nq <| J_block <| J_loop (α := Nat) (fun k => k ≤ i) (fun _ => [row 44 2 (.slice (some ⟨bx, ox, none⟩) (L.map encI).length c46) (L.map encI), row 3 1 (.slice a50 (TS.map encN).length c50) (TS.map encN), blk b10 40 (encC ((look K.sl c).getD s0).1), coA g.p K, old W]) (fun k => [(12, .int .i64 (k : Int)), (9, .int .i64 (i : Int)), (10, .pointer (some ⟨b10, 0, none⟩)), (8, .slice a50 (TS.map encN).length c50), (5, .pointer (some ⟨g.p, 0, none⟩)), (3, .bool true), (6, .slice (some ⟨bx, ox, none⟩) (L.map encI).length c46)]) (fun k => i - k) 0 (by omega) SU KE ?_
      intro k hk
      refine J_seq <| sr <| mv rfl rfl <| mv rfl rfl <| L_pur rfl (p_lss rfl rfl) <| nq ?_
      refine C_dec rfl (fun h114 => ?_) (fun h114 => ?_)
      ·
       have hltk : k < L.length := by omega
       obtain ⟨d, hcd⟩ : ∃ d, L[k]? = some d := ⟨_, List.getElem?_eq_getElem hltk⟩
       have hdm := hLm d (List.mem_of_getElem? hcd)
       have hap := hB.apart c hcm d hdm
       refine J_skip <| Q_then <| J_seq <| J_block <| J_seq <| J_drawL none mixed <| ip 0 rfl rfl rfl rfl (p_move rfl) <| ip 2 rfl rfl rfl rfl (p_move rfl) ?_
       refine ip 3 rfl rfl rfl rfl (p_move rfl) <| ip 4 rfl rfl rfl rfl (p_indexAddr rfl rfl Tryz.underlying32 ty44 (by omega) (by omega)) ?_
       refine I_take (i := 5) rfl rfl rfl rfl (by kernel_rfl) (fun _ _ _ _ h => h) (fun _ => v_loadE rfl ty44 HS (by first | (simp only [Int.toNat_natCast, List.getElem?_map, hcc]; rfl) | (simp only [Int.toNat_natCast, List.getElem?_map, hcd]; rfl) | simp | rfl)) ?_
       refine I_ready (rs := [1, 10]) SI (by kernel_rfl) (by simp) ?_
       refine (I_cons rfl ?_ (I_cons rfl ?_ I_nil))
       ·
        refine x_call Tryz.func9 nm9 bd9 (.cons rfl .nil) rfl (coSlots) fun _ => I_ready (rs := [6, 10]) SI (by kernel_rfl) (by simp) ?_
        refine (I_cons rfl ?_ (I_cons rfl ?_ I_nil))
        ·
         refine x_call Tryz.func15 nm15 bd15 (.cons rfl (.cons rfl .nil)) rfl (coSlGet (s := K) (a := d) PC) fun _ => ?_
         refine ip 7 rfl rfl rfl rfl (p_move rfl) <| ip 8 rfl rfl rfl rfl (p_extract rfl rfl) <| ip 9 rfl rfl rfl rfl (p_extract rfl rfl) <| i1 10 rfl <| x_alloc ty40 rfl fun b13 => i1 11 rfl <| x_store rfl rfl ty40 rfl SM SM RO PT ?_
         refine J_pick (A := blk b13 _ _) PC ?_
         refine J_asTo (B := blk b13 40 (encC ((look K.sl d).getD s0).1)) (by rfl) <| ip 12 rfl rfl rfl rfl (p_assign rfl) <| i0 <| Q_then <| J_seq <| J_seq <| J_drawS mixed (by kernel_rfl) <| sp rfl (p_fieldAddr rfl fa40_1) ?_
         refine S_val rfl (v_load rfl ty3 HS (by exact rfl)) ?_
         refine sp rfl (p_fieldAddr rfl fa40_1) <| S_val rfl (v_load rfl ty3 HS (by exact rfl)) ?_
         refine sp rfl (p_eql rfl rfl) <| sm rfl rfl ?_
         refine J_gsplit (t := 132) rfl (fun h132 => ?_) (fun h132 => ?_)
         ·
          have h132a : ((look K.sl c).getD s0).1.obj = ((look K.sl d).getD s0).1.obj := by simpa using h132
          obtain ⟨hk1, hk2⟩ := hap h132a
          refine S_on rfl rfl rfl rfl (Pur.vl (p_fieldAddr rfl fa40_0)) <| S_on rfl rfl rfl rfl (v_load rfl ty3 HS (by exact rfl)) ?_
          refine S_on rfl rfl rfl rfl (Pur.vl (p_fieldAddr rfl fa40_0)) <| S_on rfl rfl rfl rfl (v_load rfl ty3 HS (by exact rfl)) ?_
          refine S_on rfl rfl rfl rfl (Pur.vl (p_eql rfl rfl)) <| sp rfl (p_pick_t rfl rfl) <| sm rfl rfl <| J_bool (t := 139) (c := true) rfl (by simp [hk1]) <| S_on rfl rfl rfl rfl (Pur.vl (p_move rfl)) <| S_on rfl rfl rfl rfl (Pur.vl (p_move rfl)) <| S_on rfl rfl rfl rfl (Pur.vl (p_indexAddr rfl rfl Tryz.underlying32 ty44 (by omega) (by omega))) <| S_on rfl rfl rfl rfl (Pur.vl (p_fieldAddr rfl fa44_0)) ?_
          refine S_on rfl rfl rfl rfl (v_loadF rfl ty3 HS (by first | (simp only [Int.toNat_natCast, List.getElem?_map, hcc]; rfl) | (simp only [Int.toNat_natCast, List.getElem?_map, hcd]; rfl) | simp | rfl) (by exact rfl)) ?_
          refine S_on rfl rfl rfl rfl (Pur.vl (p_move rfl)) <| S_on rfl rfl rfl rfl (Pur.vl (p_move rfl)) <| S_on rfl rfl rfl rfl (Pur.vl (p_indexAddr rfl rfl Tryz.underlying32 ty44 (by omega) (by omega))) <| S_on rfl rfl rfl rfl (Pur.vl (p_fieldAddr rfl fa44_0)) ?_
          refine S_on rfl rfl rfl rfl (v_loadF rfl ty3 HS (by first | (simp only [Int.toNat_natCast, List.getElem?_map, hcc]; rfl) | (simp only [Int.toNat_natCast, List.getElem?_map, hcd]; rfl) | simp | rfl) (by exact rfl)) ?_
          refine S_on rfl rfl rfl rfl (Pur.vl (p_neq rfl rfl)) <| sp rfl (p_pick_t rfl rfl) <| sm rfl rfl ?_
          refine J_gsplit (t := 152) rfl (fun h152 => ?_) (fun h152 => ?_)
          ·
           refine S_on rfl rfl rfl rfl (Pur.vl (p_fieldAddr rfl fa40_0)) <| S_on rfl rfl rfl rfl (v_load rfl ty3 HS (by exact rfl)) ?_
           refine S_on rfl rfl rfl rfl (Pur.vl (p_neq rfl rfl)) <| sp rfl (p_pick_t rfl rfl) <| sm rfl rfl ?_
           refine J_gsplit (t := 157) rfl (fun h157 => ?_) (fun h157 => ?_)
           ·
            refine S_on rfl rfl rfl rfl (Pur.vl (p_fieldAddr rfl fa40_0)) <| S_on rfl rfl rfl rfl (v_load rfl ty3 HS (by exact rfl)) ?_
            refine S_on rfl rfl rfl rfl (Pur.vl (p_neq rfl rfl)) <| sp rfl (p_pick_t rfl rfl) <| sq <| J_bool (t := 161) (c := false) rfl (by simp at h152 h157 ⊢; rcases hk2 with h | h | h <;> simp_all) <| C_false rfl <| J_skip <| qx <| fa rfl rfl fa40_1 ?_
            refine L_val rfl (v_load rfl ty3 HS (by exact rfl)) ?_
            refine fa rfl rfl fa40_1 <| L_val rfl (v_load rfl ty3 HS (by exact rfl)) ?_
            refine L_pur rfl (p_eql rfl rfl) <| mv rfl rfl <| J_bool (t := 167) (c := true) rfl (by simpa using h132) <| L_op <| G_on rfl rfl rfl <| J_pur (p_fieldAddr rfl fa40_0) rfl rfl rfl <| L_op <| G_on rfl rfl rfl ?_
            refine J_val (v_load rfl ty3 HS (by exact rfl)) rfl rfl rfl ?_
            refine L_op <| G_on rfl rfl rfl <| J_pur (p_fieldAddr rfl fa40_0) rfl rfl rfl <| L_op <| G_on rfl rfl rfl <| J_val (v_load rfl ty3 HS (by exact rfl)) rfl rfl rfl ?_
            refine L_op <| G_on rfl rfl rfl <| J_pur (p_neq rfl rfl) rfl rfl rfl <| L_pur rfl (p_pick_t rfl rfl) <| nq <| J_bool (t := 173) (c := false) rfl (by simp [hk1]) <| C_false rfl <| J_skip ?_
            refine Q_blk_normal <| qr <| mv rfl rfl <| L_pur rfl (p_add64 rfl rfl (by omega)) <| ag rfl rfl <| nq ?_
            exact J_again (k + 1) (by omega) (by omega) SU KE
           ·
            refine S_off rfl rfl rfl rfl rfl <| S_off rfl rfl rfl rfl rfl <| S_off rfl rfl rfl rfl rfl <| sp rfl (p_pick_f rfl rfl) <| sq <| C_false rfl <| J_skip <| qx ?_
            refine fa rfl rfl fa40_1 <| L_val rfl (v_load rfl ty3 HS (by exact rfl)) ?_
            refine fa rfl rfl fa40_1 <| L_val rfl (v_load rfl ty3 HS (by exact rfl)) ?_
            refine L_pur rfl (p_eql rfl rfl) <| mv rfl rfl <| J_bool (t := 167) (c := true) rfl (by simpa using h132) <| L_op <| G_on rfl rfl rfl <| J_pur (p_fieldAddr rfl fa40_0) rfl rfl rfl <| L_op <| G_on rfl rfl rfl ?_
            refine J_val (v_load rfl ty3 HS (by exact rfl)) rfl rfl rfl ?_
            refine L_op <| G_on rfl rfl rfl <| J_pur (p_fieldAddr rfl fa40_0) rfl rfl rfl <| L_op <| G_on rfl rfl rfl <| J_val (v_load rfl ty3 HS (by exact rfl)) rfl rfl rfl ?_
            refine L_op <| G_on rfl rfl rfl <| J_pur (p_neq rfl rfl) rfl rfl rfl <| L_pur rfl (p_pick_t rfl rfl) <| nq <| J_bool (t := 173) (c := false) rfl (by simp [hk1]) <| C_false rfl <| J_skip ?_
            refine Q_blk_normal <| qr <| mv rfl rfl <| L_pur rfl (p_add64 rfl rfl (by omega)) <| ag rfl rfl <| nq ?_
            exact J_again (k + 1) (by omega) (by omega) SU KE
          ·
           refine S_off rfl rfl rfl rfl rfl <| S_off rfl rfl rfl rfl rfl <| S_off rfl rfl rfl rfl rfl <| sp rfl (p_pick_f rfl rfl) <| sm rfl rfl <| S_off rfl rfl rfl rfl rfl <| S_off rfl rfl rfl rfl rfl <| S_off rfl rfl rfl rfl rfl ?_
           refine sp rfl (p_pick_f rfl rfl) <| sq <| C_false rfl <| J_skip <| qx <| fa rfl rfl fa40_1 <| L_val rfl (v_load rfl ty3 HS (by exact rfl)) ?_
           refine fa rfl rfl fa40_1 <| L_val rfl (v_load rfl ty3 HS (by exact rfl)) ?_
           refine L_pur rfl (p_eql rfl rfl) <| mv rfl rfl <| J_bool (t := 167) (c := true) rfl (by simpa using h132) <| L_op <| G_on rfl rfl rfl <| J_pur (p_fieldAddr rfl fa40_0) rfl rfl rfl <| L_op <| G_on rfl rfl rfl ?_
           refine J_val (v_load rfl ty3 HS (by exact rfl)) rfl rfl rfl ?_
           refine L_op <| G_on rfl rfl rfl <| J_pur (p_fieldAddr rfl fa40_0) rfl rfl rfl <| L_op <| G_on rfl rfl rfl <| J_val (v_load rfl ty3 HS (by exact rfl)) rfl rfl rfl ?_
           refine L_op <| G_on rfl rfl rfl <| J_pur (p_neq rfl rfl) rfl rfl rfl <| L_pur rfl (p_pick_t rfl rfl) <| nq <| J_bool (t := 173) (c := false) rfl (by simp [hk1]) <| C_false rfl <| J_skip ?_
           refine Q_blk_normal <| qr <| mv rfl rfl <| L_pur rfl (p_add64 rfl rfl (by omega)) <| ag rfl rfl <| nq ?_
           exact J_again (k + 1) (by omega) (by omega) SU KE
         ·
          refine S_off rfl rfl rfl rfl rfl <| S_off rfl rfl rfl rfl rfl <| S_off rfl rfl rfl rfl rfl <| S_off rfl rfl rfl rfl rfl <| S_off rfl rfl rfl rfl rfl <| sp rfl (p_pick_f rfl rfl) <| sm rfl rfl <| S_off rfl rfl rfl rfl rfl ?_
          refine S_off rfl rfl rfl rfl rfl <| S_off rfl rfl rfl rfl rfl <| S_off rfl rfl rfl rfl rfl <| S_off rfl rfl rfl rfl rfl <| S_off rfl rfl rfl rfl rfl <| S_off rfl rfl rfl rfl rfl <| S_off rfl rfl rfl rfl rfl <| S_off rfl rfl rfl rfl rfl ?_
          refine S_off rfl rfl rfl rfl rfl <| S_off rfl rfl rfl rfl rfl <| sp rfl (p_pick_f rfl rfl) <| sm rfl rfl <| S_off rfl rfl rfl rfl rfl <| S_off rfl rfl rfl rfl rfl <| S_off rfl rfl rfl rfl rfl <| sp rfl (p_pick_f rfl rfl) ?_
          refine sm rfl rfl <| S_off rfl rfl rfl rfl rfl <| S_off rfl rfl rfl rfl rfl <| S_off rfl rfl rfl rfl rfl <| sp rfl (p_pick_f rfl rfl) <| sq <| C_false rfl <| J_skip ?_
          refine qx <| fa rfl rfl fa40_1 <| L_val rfl (v_load rfl ty3 HS (by exact rfl)) ?_
          refine fa rfl rfl fa40_1 <| L_val rfl (v_load rfl ty3 HS (by exact rfl)) ?_
          refine L_pur rfl (p_eql rfl rfl) <| mv rfl rfl <| J_bool (t := 167) (c := false) rfl (by simpa using h132) <| L_op <| G_off rfl rfl rfl rfl rfl rfl <| L_op <| G_off rfl rfl rfl rfl rfl rfl <| L_op <| G_off rfl rfl rfl rfl rfl rfl ?_
          refine L_op <| G_off rfl rfl rfl rfl rfl rfl <| L_op <| G_off rfl rfl rfl rfl rfl rfl <| L_pur rfl (p_pick_f rfl rfl) <| nq <| C_false rfl <| J_skip ?_
          refine Q_blk_normal <| qr <| mv rfl rfl <| L_pur rfl (p_add64 rfl rfl (by omega)) <| ag rfl rfl <| nq ?_
          exact J_again (k + 1) (by omega) (by omega) SU KE
        ·
         refine x_alloc ty40 rfl fun b13 => i1 6 rfl <| x_call Tryz.func15 nm15 bd15 (.cons rfl (.cons rfl .nil)) rfl (coSlGet (s := K) (a := d) PC) fun _ => ?_
         refine ip 7 rfl rfl rfl rfl (p_move rfl) <| ip 8 rfl rfl rfl rfl (p_extract rfl rfl) <| ip 9 rfl rfl rfl rfl (p_extract rfl rfl) <| i1 11 rfl <| x_store rfl rfl ty40 rfl SM SM RO PT ?_
         refine J_pick (A := blk b13 _ _) PC ?_
         refine J_asTo (B := blk b13 40 (encC ((look K.sl d).getD s0).1)) (by rfl) <| ip 12 rfl rfl rfl rfl (p_assign rfl) <| i0 <| Q_then <| J_seq <| J_seq <| J_drawS mixed (by kernel_rfl) <| sp rfl (p_fieldAddr rfl fa40_1) ?_
         refine S_val rfl (v_load rfl ty3 HS (by exact rfl)) ?_
         refine sp rfl (p_fieldAddr rfl fa40_1) <| S_val rfl (v_load rfl ty3 HS (by exact rfl)) ?_
         refine sp rfl (p_eql rfl rfl) <| sm rfl rfl ?_
         refine J_gsplit (t := 132) rfl (fun h132 => ?_) (fun h132 => ?_)
         ·
          have h132a : ((look K.sl c).getD s0).1.obj = ((look K.sl d).getD s0).1.obj := by simpa using h132
          obtain ⟨hk1, hk2⟩ := hap h132a
          refine S_on rfl rfl rfl rfl (Pur.vl (p_fieldAddr rfl fa40_0)) <| S_on rfl rfl rfl rfl (v_load rfl ty3 HS (by exact rfl)) ?_
          refine S_on rfl rfl rfl rfl (Pur.vl (p_fieldAddr rfl fa40_0)) <| S_on rfl rfl rfl rfl (v_load rfl ty3 HS (by exact rfl)) ?_
          refine S_on rfl rfl rfl rfl (Pur.vl (p_eql rfl rfl)) <| sp rfl (p_pick_t rfl rfl) <| sm rfl rfl <| J_bool (t := 139) (c := true) rfl (by simp [hk1]) <| S_on rfl rfl rfl rfl (Pur.vl (p_move rfl)) <| S_on rfl rfl rfl rfl (Pur.vl (p_move rfl)) <| S_on rfl rfl rfl rfl (Pur.vl (p_indexAddr rfl rfl Tryz.underlying32 ty44 (by omega) (by omega))) <| S_on rfl rfl rfl rfl (Pur.vl (p_fieldAddr rfl fa44_0)) ?_
          refine S_on rfl rfl rfl rfl (v_loadF rfl ty3 HS (by first | (simp only [Int.toNat_natCast, List.getElem?_map, hcc]; rfl) | (simp only [Int.toNat_natCast, List.getElem?_map, hcd]; rfl) | simp | rfl) (by exact rfl)) ?_
          refine S_on rfl rfl rfl rfl (Pur.vl (p_move rfl)) <| S_on rfl rfl rfl rfl (Pur.vl (p_move rfl)) <| S_on rfl rfl rfl rfl (Pur.vl (p_indexAddr rfl rfl Tryz.underlying32 ty44 (by omega) (by omega))) <| S_on rfl rfl rfl rfl (Pur.vl (p_fieldAddr rfl fa44_0)) ?_
          refine S_on rfl rfl rfl rfl (v_loadF rfl ty3 HS (by first | (simp only [Int.toNat_natCast, List.getElem?_map, hcc]; rfl) | (simp only [Int.toNat_natCast, List.getElem?_map, hcd]; rfl) | simp | rfl) (by exact rfl)) ?_
          refine S_on rfl rfl rfl rfl (Pur.vl (p_neq rfl rfl)) <| sp rfl (p_pick_t rfl rfl) <| sm rfl rfl ?_
          refine J_gsplit (t := 152) rfl (fun h152 => ?_) (fun h152 => ?_)
          ·
           refine S_on rfl rfl rfl rfl (Pur.vl (p_fieldAddr rfl fa40_0)) <| S_on rfl rfl rfl rfl (v_load rfl ty3 HS (by exact rfl)) ?_
           refine S_on rfl rfl rfl rfl (Pur.vl (p_neq rfl rfl)) <| sp rfl (p_pick_t rfl rfl) <| sm rfl rfl ?_
           refine J_gsplit (t := 157) rfl (fun h157 => ?_) (fun h157 => ?_)
           ·
            refine S_on rfl rfl rfl rfl (Pur.vl (p_fieldAddr rfl fa40_0)) <| S_on rfl rfl rfl rfl (v_load rfl ty3 HS (by exact rfl)) ?_
            refine S_on rfl rfl rfl rfl (Pur.vl (p_neq rfl rfl)) <| sp rfl (p_pick_t rfl rfl) <| sq <| J_bool (t := 161) (c := false) rfl (by simp at h152 h157 ⊢; rcases hk2 with h | h | h <;> simp_all) <| C_false rfl <| J_skip <| qx <| fa rfl rfl fa40_1 ?_
            refine L_val rfl (v_load rfl ty3 HS (by exact rfl)) ?_
            refine fa rfl rfl fa40_1 <| L_val rfl (v_load rfl ty3 HS (by exact rfl)) ?_
            refine L_pur rfl (p_eql rfl rfl) <| mv rfl rfl <| J_bool (t := 167) (c := true) rfl (by simpa using h132) <| L_op <| G_on rfl rfl rfl <| J_pur (p_fieldAddr rfl fa40_0) rfl rfl rfl <| L_op <| G_on rfl rfl rfl ?_
            refine J_val (v_load rfl ty3 HS (by exact rfl)) rfl rfl rfl ?_
            refine L_op <| G_on rfl rfl rfl <| J_pur (p_fieldAddr rfl fa40_0) rfl rfl rfl <| L_op <| G_on rfl rfl rfl <| J_val (v_load rfl ty3 HS (by exact rfl)) rfl rfl rfl ?_
            refine L_op <| G_on rfl rfl rfl <| J_pur (p_neq rfl rfl) rfl rfl rfl <| L_pur rfl (p_pick_t rfl rfl) <| nq <| J_bool (t := 173) (c := false) rfl (by simp [hk1]) <| C_false rfl <| J_skip ?_
            refine Q_blk_normal <| qr <| mv rfl rfl <| L_pur rfl (p_add64 rfl rfl (by omega)) <| ag rfl rfl <| nq ?_
            exact J_again (k + 1) (by omega) (by omega) SU KE
           ·
            refine S_off rfl rfl rfl rfl rfl <| S_off rfl rfl rfl rfl rfl <| S_off rfl rfl rfl rfl rfl <| sp rfl (p_pick_f rfl rfl) <| sq <| C_false rfl <| J_skip <| qx ?_
            refine fa rfl rfl fa40_1 <| L_val rfl (v_load rfl ty3 HS (by exact rfl)) ?_
            refine fa rfl rfl fa40_1 <| L_val rfl (v_load rfl ty3 HS (by exact rfl)) ?_
            refine L_pur rfl (p_eql rfl rfl) <| mv rfl rfl <| J_bool (t := 167) (c := true) rfl (by simpa using h132) <| L_op <| G_on rfl rfl rfl <| J_pur (p_fieldAddr rfl fa40_0) rfl rfl rfl <| L_op <| G_on rfl rfl rfl ?_
            refine J_val (v_load rfl ty3 HS (by exact rfl)) rfl rfl rfl ?_
            refine L_op <| G_on rfl rfl rfl <| J_pur (p_fieldAddr rfl fa40_0) rfl rfl rfl <| L_op <| G_on rfl rfl rfl <| J_val (v_load rfl ty3 HS (by exact rfl)) rfl rfl rfl ?_
            refine L_op <| G_on rfl rfl rfl <| J_pur (p_neq rfl rfl) rfl rfl rfl <| L_pur rfl (p_pick_t rfl rfl) <| nq <| J_bool (t := 173) (c := false) rfl (by simp [hk1]) <| C_false rfl <| J_skip ?_
            refine Q_blk_normal <| qr <| mv rfl rfl <| L_pur rfl (p_add64 rfl rfl (by omega)) <| ag rfl rfl <| nq ?_
            exact J_again (k + 1) (by omega) (by omega) SU KE
          ·
           refine S_off rfl rfl rfl rfl rfl <| S_off rfl rfl rfl rfl rfl <| S_off rfl rfl rfl rfl rfl <| sp rfl (p_pick_f rfl rfl) <| sm rfl rfl <| S_off rfl rfl rfl rfl rfl <| S_off rfl rfl rfl rfl rfl <| S_off rfl rfl rfl rfl rfl ?_
           refine sp rfl (p_pick_f rfl rfl) <| sq <| C_false rfl <| J_skip <| qx <| fa rfl rfl fa40_1 <| L_val rfl (v_load rfl ty3 HS (by exact rfl)) ?_
           refine fa rfl rfl fa40_1 <| L_val rfl (v_load rfl ty3 HS (by exact rfl)) ?_
           refine L_pur rfl (p_eql rfl rfl) <| mv rfl rfl <| J_bool (t := 167) (c := true) rfl (by simpa using h132) <| L_op <| G_on rfl rfl rfl <| J_pur (p_fieldAddr rfl fa40_0) rfl rfl rfl <| L_op <| G_on rfl rfl rfl ?_
           refine J_val (v_load rfl ty3 HS (by exact rfl)) rfl rfl rfl ?_
           refine L_op <| G_on rfl rfl rfl <| J_pur (p_fieldAddr rfl fa40_0) rfl rfl rfl <| L_op <| G_on rfl rfl rfl <| J_val (v_load rfl ty3 HS (by exact rfl)) rfl rfl rfl ?_
           refine L_op <| G_on rfl rfl rfl <| J_pur (p_neq rfl rfl) rfl rfl rfl <| L_pur rfl (p_pick_t rfl rfl) <| nq <| J_bool (t := 173) (c := false) rfl (by simp [hk1]) <| C_false rfl <| J_skip ?_
           refine Q_blk_normal <| qr <| mv rfl rfl <| L_pur rfl (p_add64 rfl rfl (by omega)) <| ag rfl rfl <| nq ?_
           exact J_again (k + 1) (by omega) (by omega) SU KE
         ·
          refine S_off rfl rfl rfl rfl rfl <| S_off rfl rfl rfl rfl rfl <| S_off rfl rfl rfl rfl rfl <| S_off rfl rfl rfl rfl rfl <| S_off rfl rfl rfl rfl rfl <| sp rfl (p_pick_f rfl rfl) <| sm rfl rfl <| S_off rfl rfl rfl rfl rfl ?_
          refine S_off rfl rfl rfl rfl rfl <| S_off rfl rfl rfl rfl rfl <| S_off rfl rfl rfl rfl rfl <| S_off rfl rfl rfl rfl rfl <| S_off rfl rfl rfl rfl rfl <| S_off rfl rfl rfl rfl rfl <| S_off rfl rfl rfl rfl rfl <| S_off rfl rfl rfl rfl rfl ?_
          refine S_off rfl rfl rfl rfl rfl <| S_off rfl rfl rfl rfl rfl <| sp rfl (p_pick_f rfl rfl) <| sm rfl rfl <| S_off rfl rfl rfl rfl rfl <| S_off rfl rfl rfl rfl rfl <| S_off rfl rfl rfl rfl rfl <| sp rfl (p_pick_f rfl rfl) ?_
          refine sm rfl rfl <| S_off rfl rfl rfl rfl rfl <| S_off rfl rfl rfl rfl rfl <| S_off rfl rfl rfl rfl rfl <| sp rfl (p_pick_f rfl rfl) <| sq <| C_false rfl <| J_skip ?_
          refine qx <| fa rfl rfl fa40_1 <| L_val rfl (v_load rfl ty3 HS (by exact rfl)) ?_
          refine fa rfl rfl fa40_1 <| L_val rfl (v_load rfl ty3 HS (by exact rfl)) ?_
          refine L_pur rfl (p_eql rfl rfl) <| mv rfl rfl <| J_bool (t := 167) (c := false) rfl (by simpa using h132) <| L_op <| G_off rfl rfl rfl rfl rfl rfl <| L_op <| G_off rfl rfl rfl rfl rfl rfl <| L_op <| G_off rfl rfl rfl rfl rfl rfl ?_
          refine L_op <| G_off rfl rfl rfl rfl rfl rfl <| L_op <| G_off rfl rfl rfl rfl rfl rfl <| L_pur rfl (p_pick_f rfl rfl) <| nq <| C_false rfl <| J_skip ?_
          refine Q_blk_normal <| qr <| mv rfl rfl <| L_pur rfl (p_add64 rfl rfl (by omega)) <| ag rfl rfl <| nq ?_
          exact J_again (k + 1) (by omega) (by omega) SU KE
       ·
        refine x_alloc ty40 rfl fun b13 => i1 1 rfl <| x_call Tryz.func9 nm9 bd9 (.cons rfl .nil) rfl (coSlots) fun _ => i1 6 rfl <| x_call Tryz.func15 nm15 bd15 (.cons rfl (.cons rfl .nil)) rfl (coSlGet (s := K) (a := d) PC) fun _ => ?_
        refine ip 7 rfl rfl rfl rfl (p_move rfl) <| ip 8 rfl rfl rfl rfl (p_extract rfl rfl) <| ip 9 rfl rfl rfl rfl (p_extract rfl rfl) <| i1 11 rfl <| x_store rfl rfl ty40 rfl SM SM RO PT ?_
        refine J_pick (A := blk b13 _ _) PC ?_
        refine J_asTo (B := blk b13 40 (encC ((look K.sl d).getD s0).1)) (by rfl) <| ip 12 rfl rfl rfl rfl (p_assign rfl) <| i0 <| Q_then <| J_seq <| J_seq <| J_drawS mixed (by kernel_rfl) <| sp rfl (p_fieldAddr rfl fa40_1) ?_
        refine S_val rfl (v_load rfl ty3 HS (by exact rfl)) ?_
        refine sp rfl (p_fieldAddr rfl fa40_1) <| S_val rfl (v_load rfl ty3 HS (by exact rfl)) ?_
        refine sp rfl (p_eql rfl rfl) <| sm rfl rfl ?_
        refine J_gsplit (t := 132) rfl (fun h132 => ?_) (fun h132 => ?_)
        ·
         have h132a : ((look K.sl c).getD s0).1.obj = ((look K.sl d).getD s0).1.obj := by simpa using h132
         obtain ⟨hk1, hk2⟩ := hap h132a
         refine S_on rfl rfl rfl rfl (Pur.vl (p_fieldAddr rfl fa40_0)) <| S_on rfl rfl rfl rfl (v_load rfl ty3 HS (by exact rfl)) ?_
         refine S_on rfl rfl rfl rfl (Pur.vl (p_fieldAddr rfl fa40_0)) <| S_on rfl rfl rfl rfl (v_load rfl ty3 HS (by exact rfl)) ?_
         refine S_on rfl rfl rfl rfl (Pur.vl (p_eql rfl rfl)) <| sp rfl (p_pick_t rfl rfl) <| sm rfl rfl <| J_bool (t := 139) (c := true) rfl (by simp [hk1]) <| S_on rfl rfl rfl rfl (Pur.vl (p_move rfl)) <| S_on rfl rfl rfl rfl (Pur.vl (p_move rfl)) <| S_on rfl rfl rfl rfl (Pur.vl (p_indexAddr rfl rfl Tryz.underlying32 ty44 (by omega) (by omega))) <| S_on rfl rfl rfl rfl (Pur.vl (p_fieldAddr rfl fa44_0)) ?_
         refine S_on rfl rfl rfl rfl (v_loadF rfl ty3 HS (by first | (simp only [Int.toNat_natCast, List.getElem?_map, hcc]; rfl) | (simp only [Int.toNat_natCast, List.getElem?_map, hcd]; rfl) | simp | rfl) (by exact rfl)) ?_
         refine S_on rfl rfl rfl rfl (Pur.vl (p_move rfl)) <| S_on rfl rfl rfl rfl (Pur.vl (p_move rfl)) <| S_on rfl rfl rfl rfl (Pur.vl (p_indexAddr rfl rfl Tryz.underlying32 ty44 (by omega) (by omega))) <| S_on rfl rfl rfl rfl (Pur.vl (p_fieldAddr rfl fa44_0)) ?_
         refine S_on rfl rfl rfl rfl (v_loadF rfl ty3 HS (by first | (simp only [Int.toNat_natCast, List.getElem?_map, hcc]; rfl) | (simp only [Int.toNat_natCast, List.getElem?_map, hcd]; rfl) | simp | rfl) (by exact rfl)) ?_
         refine S_on rfl rfl rfl rfl (Pur.vl (p_neq rfl rfl)) <| sp rfl (p_pick_t rfl rfl) <| sm rfl rfl ?_
         refine J_gsplit (t := 152) rfl (fun h152 => ?_) (fun h152 => ?_)
         ·
          refine S_on rfl rfl rfl rfl (Pur.vl (p_fieldAddr rfl fa40_0)) <| S_on rfl rfl rfl rfl (v_load rfl ty3 HS (by exact rfl)) ?_
          refine S_on rfl rfl rfl rfl (Pur.vl (p_neq rfl rfl)) <| sp rfl (p_pick_t rfl rfl) <| sm rfl rfl ?_
          refine J_gsplit (t := 157) rfl (fun h157 => ?_) (fun h157 => ?_)
          ·
           refine S_on rfl rfl rfl rfl (Pur.vl (p_fieldAddr rfl fa40_0)) <| S_on rfl rfl rfl rfl (v_load rfl ty3 HS (by exact rfl)) ?_
           refine S_on rfl rfl rfl rfl (Pur.vl (p_neq rfl rfl)) <| sp rfl (p_pick_t rfl rfl) <| sq <| J_bool (t := 161) (c := false) rfl (by simp at h152 h157 ⊢; rcases hk2 with h | h | h <;> simp_all) <| C_false rfl <| J_skip <| qx <| fa rfl rfl fa40_1 ?_
           refine L_val rfl (v_load rfl ty3 HS (by exact rfl)) ?_
           refine fa rfl rfl fa40_1 <| L_val rfl (v_load rfl ty3 HS (by exact rfl)) ?_
           refine L_pur rfl (p_eql rfl rfl) <| mv rfl rfl <| J_bool (t := 167) (c := true) rfl (by simpa using h132) <| L_op <| G_on rfl rfl rfl <| J_pur (p_fieldAddr rfl fa40_0) rfl rfl rfl <| L_op <| G_on rfl rfl rfl ?_
           refine J_val (v_load rfl ty3 HS (by exact rfl)) rfl rfl rfl ?_
           refine L_op <| G_on rfl rfl rfl <| J_pur (p_fieldAddr rfl fa40_0) rfl rfl rfl <| L_op <| G_on rfl rfl rfl <| J_val (v_load rfl ty3 HS (by exact rfl)) rfl rfl rfl ?_
           refine L_op <| G_on rfl rfl rfl <| J_pur (p_neq rfl rfl) rfl rfl rfl <| L_pur rfl (p_pick_t rfl rfl) <| nq <| J_bool (t := 173) (c := false) rfl (by simp [hk1]) <| C_false rfl <| J_skip ?_
           refine Q_blk_normal <| qr <| mv rfl rfl <| L_pur rfl (p_add64 rfl rfl (by omega)) <| ag rfl rfl <| nq ?_
           exact J_again (k + 1) (by omega) (by omega) SU KE
          ·
           refine S_off rfl rfl rfl rfl rfl <| S_off rfl rfl rfl rfl rfl <| S_off rfl rfl rfl rfl rfl <| sp rfl (p_pick_f rfl rfl) <| sq <| C_false rfl <| J_skip <| qx ?_
           refine fa rfl rfl fa40_1 <| L_val rfl (v_load rfl ty3 HS (by exact rfl)) ?_
           refine fa rfl rfl fa40_1 <| L_val rfl (v_load rfl ty3 HS (by exact rfl)) ?_
           refine L_pur rfl (p_eql rfl rfl) <| mv rfl rfl <| J_bool (t := 167) (c := true) rfl (by simpa using h132) <| L_op <| G_on rfl rfl rfl <| J_pur (p_fieldAddr rfl fa40_0) rfl rfl rfl <| L_op <| G_on rfl rfl rfl ?_
           refine J_val (v_load rfl ty3 HS (by exact rfl)) rfl rfl rfl ?_
           refine L_op <| G_on rfl rfl rfl <| J_pur (p_fieldAddr rfl fa40_0) rfl rfl rfl <| L_op <| G_on rfl rfl rfl <| J_val (v_load rfl ty3 HS (by exact rfl)) rfl rfl rfl ?_
           refine L_op <| G_on rfl rfl rfl <| J_pur (p_neq rfl rfl) rfl rfl rfl <| L_pur rfl (p_pick_t rfl rfl) <| nq <| J_bool (t := 173) (c := false) rfl (by simp [hk1]) <| C_false rfl <| J_skip ?_
           refine Q_blk_normal <| qr <| mv rfl rfl <| L_pur rfl (p_add64 rfl rfl (by omega)) <| ag rfl rfl <| nq ?_
           exact J_again (k + 1) (by omega) (by omega) SU KE
         ·
          refine S_off rfl rfl rfl rfl rfl <| S_off rfl rfl rfl rfl rfl <| S_off rfl rfl rfl rfl rfl <| sp rfl (p_pick_f rfl rfl) <| sm rfl rfl <| S_off rfl rfl rfl rfl rfl <| S_off rfl rfl rfl rfl rfl <| S_off rfl rfl rfl rfl rfl ?_
          refine sp rfl (p_pick_f rfl rfl) <| sq <| C_false rfl <| J_skip <| qx <| fa rfl rfl fa40_1 <| L_val rfl (v_load rfl ty3 HS (by exact rfl)) ?_
          refine fa rfl rfl fa40_1 <| L_val rfl (v_load rfl ty3 HS (by exact rfl)) ?_
          refine L_pur rfl (p_eql rfl rfl) <| mv rfl rfl <| J_bool (t := 167) (c := true) rfl (by simpa using h132) <| L_op <| G_on rfl rfl rfl <| J_pur (p_fieldAddr rfl fa40_0) rfl rfl rfl <| L_op <| G_on rfl rfl rfl ?_
          refine J_val (v_load rfl ty3 HS (by exact rfl)) rfl rfl rfl ?_
          refine L_op <| G_on rfl rfl rfl <| J_pur (p_fieldAddr rfl fa40_0) rfl rfl rfl <| L_op <| G_on rfl rfl rfl <| J_val (v_load rfl ty3 HS (by exact rfl)) rfl rfl rfl ?_
          refine L_op <| G_on rfl rfl rfl <| J_pur (p_neq rfl rfl) rfl rfl rfl <| L_pur rfl (p_pick_t rfl rfl) <| nq <| J_bool (t := 173) (c := false) rfl (by simp [hk1]) <| C_false rfl <| J_skip ?_
          refine Q_blk_normal <| qr <| mv rfl rfl <| L_pur rfl (p_add64 rfl rfl (by omega)) <| ag rfl rfl <| nq ?_
          exact J_again (k + 1) (by omega) (by omega) SU KE
        ·
         refine S_off rfl rfl rfl rfl rfl <| S_off rfl rfl rfl rfl rfl <| S_off rfl rfl rfl rfl rfl <| S_off rfl rfl rfl rfl rfl <| S_off rfl rfl rfl rfl rfl <| sp rfl (p_pick_f rfl rfl) <| sm rfl rfl <| S_off rfl rfl rfl rfl rfl ?_
         refine S_off rfl rfl rfl rfl rfl <| S_off rfl rfl rfl rfl rfl <| S_off rfl rfl rfl rfl rfl <| S_off rfl rfl rfl rfl rfl <| S_off rfl rfl rfl rfl rfl <| S_off rfl rfl rfl rfl rfl <| S_off rfl rfl rfl rfl rfl <| S_off rfl rfl rfl rfl rfl ?_
         refine S_off rfl rfl rfl rfl rfl <| S_off rfl rfl rfl rfl rfl <| sp rfl (p_pick_f rfl rfl) <| sm rfl rfl <| S_off rfl rfl rfl rfl rfl <| S_off rfl rfl rfl rfl rfl <| S_off rfl rfl rfl rfl rfl <| sp rfl (p_pick_f rfl rfl) ?_
         refine sm rfl rfl <| S_off rfl rfl rfl rfl rfl <| S_off rfl rfl rfl rfl rfl <| S_off rfl rfl rfl rfl rfl <| sp rfl (p_pick_f rfl rfl) <| sq <| C_false rfl <| J_skip ?_
         refine qx <| fa rfl rfl fa40_1 <| L_val rfl (v_load rfl ty3 HS (by exact rfl)) ?_
         refine fa rfl rfl fa40_1 <| L_val rfl (v_load rfl ty3 HS (by exact rfl)) ?_
         refine L_pur rfl (p_eql rfl rfl) <| mv rfl rfl <| J_bool (t := 167) (c := false) rfl (by simpa using h132) <| L_op <| G_off rfl rfl rfl rfl rfl rfl <| L_op <| G_off rfl rfl rfl rfl rfl rfl <| L_op <| G_off rfl rfl rfl rfl rfl rfl ?_
         refine L_op <| G_off rfl rfl rfl rfl rfl rfl <| L_op <| G_off rfl rfl rfl rfl rfl rfl <| L_pur rfl (p_pick_f rfl rfl) <| nq <| C_false rfl <| J_skip ?_
         refine Q_blk_normal <| qr <| mv rfl rfl <| L_pur rfl (p_add64 rfl rfl (by omega)) <| ag rfl rfl <| nq ?_
         exact J_again (k + 1) (by omega) (by omega) SU KE
      ·
       refine J_exit <| Q_then_exit <| Q_then_exit <| Q_blk_this <| Q_blk_normal <| qr <| mv rfl rfl <| L_pur rfl (p_add64 rfl rfl (by omega)) ?_
       refine ag rfl rfl <| nq ?_
       exact J_again (i + 1) (by omega) (by omega) SU KE
     ·
      refine x_alloc ty40 rfl fun b10 => i1 6 rfl <| x_call Tryz.func15 nm15 bd15 (.cons rfl (.cons rfl .nil)) rfl (coSlGet (s := K) (a := c) PC) fun _ => ?_
      refine ip 7 rfl rfl rfl rfl (p_move rfl) <| ip 8 rfl rfl rfl rfl (p_extract rfl rfl) <| ip 9 rfl rfl rfl rfl (p_extract rfl rfl) <| i1 11 rfl <| x_store rfl rfl ty40 rfl SM SM RO PT ?_
      refine J_pick (A := blk b10 _ _) PC ?_
      refine J_asTo (B := blk b10 40 (encC ((look K.sl c).getD s0).1)) (by rfl) <| ip 12 rfl rfl rfl rfl (p_assign rfl) <| i0 <| Q_then <| J_seq <| J_seq <| J_drawL none mixed <| ip 0 rfl rfl rfl rfl (p_fieldAddr rfl fa40_4) ?_
      refine iv 1 rfl rfl rfl rfl (fun _ => v_load rfl ty3 HS (by exact rfl)) ?_
      refine ip 2 rfl rfl rfl rfl (p_neq rfl rfl) <| J_bool (t := 100) (c := false) rfl (by rw [ho1]; rfl) <| ip 3 rfl rfl rfl rfl (p_move rfl) <| J_bool (t := 101) (c := false) rfl (rfl) <| I_takeOn (i := 4) rfl rfl rfl rfl rfl rfl rfl (by kernel_rfl) (fun _ _ _ _ h => h) (fun _ => Pur.vl (p_move rfl)) <| I_takeOn (i := 6) rfl rfl rfl rfl rfl rfl rfl (by kernel_rfl) (fun _ _ _ _ h => h) (fun _ => Pur.vl (p_move rfl)) <| I_takeOn (i := 7) rfl rfl rfl rfl rfl rfl rfl (by kernel_rfl) (fun _ _ _ _ h => h) (fun _ => Pur.vl (p_move rfl)) <| I_takeOn (i := 8) rfl rfl rfl rfl rfl rfl rfl (by kernel_rfl) (fun _ _ _ _ h => h) (fun _ => Pur.vl (p_indexAddr rfl rfl Tryz.underlying32 ty44 (by omega) (by omega))) ?_
      refine I_takeOn (i := 9) rfl rfl rfl rfl rfl rfl rfl (by kernel_rfl) (fun _ _ _ _ h => h) (fun _ => v_loadE rfl ty44 HS (by first | (simp only [Int.toNat_natCast, List.getElem?_map, hcc]; rfl) | (simp only [Int.toNat_natCast, List.getElem?_map, hcd]; rfl) | simp | rfl)) ?_
      refine I_takeOn (i := 11) rfl rfl rfl rfl rfl rfl rfl (by kernel_rfl) (fun _ _ _ _ h => h) (fun _ => Pur.vl (bld44 .nil (by repeat constructor))) <| i1 5 rfl <| G_on rfl rfl rfl <| x_call Tryz.func9 nm9 bd9 (.cons rfl .nil) rfl (coSlots) fun _ => i1 10 rfl <| G_on rfl rfl rfl <| x_call Tryz.func16 nm16 bd16 (.cons rfl (.cons rfl .nil)) rfl (coSlPar (s := K) (a := c) PC) fun _ => ?_
      refine J_slot (t := 108) (v := kI (0, 0)) rfl (by rw [ho2]; rfl) <| I_takeOn (i := 12) rfl rfl rfl rfl rfl rfl rfl (by kernel_rfl) (fun _ _ _ _ h => h) (fun _ => Pur.vl (p_nev rfl rfl (fun w => eg44 _ _ _ _ _ w) (fun w => nev44 _ _ _ _ w))) <| ip 13 rfl rfl rfl rfl (p_pick_f rfl rfl) <| i0 <| Q_then <| J_bool (t := 111) (c := false) rfl (by simp) <| C_false rfl <| J_skip ?_
      refine qx <| ag rfl rfl <| nq <| J_block <| J_loop (α := Nat) (fun k => k ≤ i) (fun _ => [row 44 2 (.slice (some ⟨bx, ox, none⟩) (L.map encI).length c46) (L.map encI), row 3 1 (.slice a50 (TS.map encN).length c50) (TS.map encN), blk b10 40 (encC ((look K.sl c).getD s0).1), coA g.p K, old W]) (fun k => [(12, .int .i64 (k : Int)), (9, .int .i64 (i : Int)), (10, .pointer (some ⟨b10, 0, none⟩)), (8, .slice a50 (TS.map encN).length c50), (5, .pointer (some ⟨g.p, 0, none⟩)), (3, .bool true), (6, .slice (some ⟨bx, ox, none⟩) (L.map encI).length c46)]) (fun k => i - k) 0 (by omega) SU KE ?_
      intro k hk
      refine J_seq <| sr <| mv rfl rfl <| mv rfl rfl <| L_pur rfl (p_lss rfl rfl) <| nq ?_
      refine C_dec rfl (fun h114 => ?_) (fun h114 => ?_)
      ·
       have hltk : k < L.length := by omega
       obtain ⟨d, hcd⟩ : ∃ d, L[k]? = some d := ⟨_, List.getElem?_eq_getElem hltk⟩
       have hdm := hLm d (List.mem_of_getElem? hcd)
       have hap := hB.apart c hcm d hdm
       refine J_skip <| Q_then <| J_seq <| J_block <| J_seq <| J_drawL none mixed <| ip 0 rfl rfl rfl rfl (p_move rfl) <| ip 2 rfl rfl rfl rfl (p_move rfl) ?_
       refine ip 3 rfl rfl rfl rfl (p_move rfl) <| ip 4 rfl rfl rfl rfl (p_indexAddr rfl rfl Tryz.underlying32 ty44 (by omega) (by omega)) ?_
       refine I_take (i := 5) rfl rfl rfl rfl (by kernel_rfl) (fun _ _ _ _ h => h) (fun _ => v_loadE rfl ty44 HS (by first | (simp only [Int.toNat_natCast, List.getElem?_map, hcc]; rfl) | (simp only [Int.toNat_natCast, List.getElem?_map, hcd]; rfl) | simp | rfl)) ?_
       refine I_ready (rs := [1, 10]) SI (by kernel_rfl) (by simp) ?_
       refine (I_cons rfl ?_ (I_cons rfl ?_ I_nil))
       ·
        refine x_call Tryz.func9 nm9 bd9 (.cons rfl .nil) rfl (coSlots) fun _ => I_ready (rs := [6, 10]) SI (by kernel_rfl) (by simp) ?_
        refine (I_cons rfl ?_ (I_cons rfl ?_ I_nil))
        ·
         refine x_call Tryz.func15 nm15 bd15 (.cons rfl (.cons rfl .nil)) rfl (coSlGet (s := K) (a := d) PC) fun _ => ?_
         refine ip 7 rfl rfl rfl rfl (p_move rfl) <| ip 8 rfl rfl rfl rfl (p_extract rfl rfl) <| ip 9 rfl rfl rfl rfl (p_extract rfl rfl) <| i1 10 rfl <| x_alloc ty40 rfl fun b13 => i1 11 rfl <| x_store rfl rfl ty40 rfl SM SM RO PT ?_
         refine J_pick (A := blk b13 _ _) PC ?_
         refine J_asTo (B := blk b13 40 (encC ((look K.sl d).getD s0).1)) (by rfl) <| ip 12 rfl rfl rfl rfl (p_assign rfl) <| i0 <| Q_then <| J_seq <| J_seq <| J_drawS mixed (by kernel_rfl) <| sp rfl (p_fieldAddr rfl fa40_1) ?_
         refine S_val rfl (v_load rfl ty3 HS (by exact rfl)) ?_
         refine sp rfl (p_fieldAddr rfl fa40_1) <| S_val rfl (v_load rfl ty3 HS (by exact rfl)) ?_
         refine sp rfl (p_eql rfl rfl) <| sm rfl rfl ?_
         refine J_gsplit (t := 132) rfl (fun h132 => ?_) (fun h132 => ?_)
         ·
          have h132a : ((look K.sl c).getD s0).1.obj = ((look K.sl d).getD s0).1.obj := by simpa using h132
          obtain ⟨hk1, hk2⟩ := hap h132a
          refine S_on rfl rfl rfl rfl (Pur.vl (p_fieldAddr rfl fa40_0)) <| S_on rfl rfl rfl rfl (v_load rfl ty3 HS (by exact rfl)) ?_
          refine S_on rfl rfl rfl rfl (Pur.vl (p_fieldAddr rfl fa40_0)) <| S_on rfl rfl rfl rfl (v_load rfl ty3 HS (by exact rfl)) ?_
          refine S_on rfl rfl rfl rfl (Pur.vl (p_eql rfl rfl)) <| sp rfl (p_pick_t rfl rfl) <| sm rfl rfl <| J_bool (t := 139) (c := true) rfl (by simp [hk1]) <| S_on rfl rfl rfl rfl (Pur.vl (p_move rfl)) <| S_on rfl rfl rfl rfl (Pur.vl (p_move rfl)) <| S_on rfl rfl rfl rfl (Pur.vl (p_indexAddr rfl rfl Tryz.underlying32 ty44 (by omega) (by omega))) <| S_on rfl rfl rfl rfl (Pur.vl (p_fieldAddr rfl fa44_0)) ?_
          refine S_on rfl rfl rfl rfl (v_loadF rfl ty3 HS (by first | (simp only [Int.toNat_natCast, List.getElem?_map, hcc]; rfl) | (simp only [Int.toNat_natCast, List.getElem?_map, hcd]; rfl) | simp | rfl) (by exact rfl)) ?_
          refine S_on rfl rfl rfl rfl (Pur.vl (p_move rfl)) <| S_on rfl rfl rfl rfl (Pur.vl (p_move rfl)) <| S_on rfl rfl rfl rfl (Pur.vl (p_indexAddr rfl rfl Tryz.underlying32 ty44 (by omega) (by omega))) <| S_on rfl rfl rfl rfl (Pur.vl (p_fieldAddr rfl fa44_0)) ?_
          refine S_on rfl rfl rfl rfl (v_loadF rfl ty3 HS (by first | (simp only [Int.toNat_natCast, List.getElem?_map, hcc]; rfl) | (simp only [Int.toNat_natCast, List.getElem?_map, hcd]; rfl) | simp | rfl) (by exact rfl)) ?_
          refine S_on rfl rfl rfl rfl (Pur.vl (p_neq rfl rfl)) <| sp rfl (p_pick_t rfl rfl) <| sm rfl rfl ?_
          refine J_gsplit (t := 152) rfl (fun h152 => ?_) (fun h152 => ?_)
          ·
           refine S_on rfl rfl rfl rfl (Pur.vl (p_fieldAddr rfl fa40_0)) <| S_on rfl rfl rfl rfl (v_load rfl ty3 HS (by exact rfl)) ?_
           refine S_on rfl rfl rfl rfl (Pur.vl (p_neq rfl rfl)) <| sp rfl (p_pick_t rfl rfl) <| sm rfl rfl ?_
           refine J_gsplit (t := 157) rfl (fun h157 => ?_) (fun h157 => ?_)
           ·
            refine S_on rfl rfl rfl rfl (Pur.vl (p_fieldAddr rfl fa40_0)) <| S_on rfl rfl rfl rfl (v_load rfl ty3 HS (by exact rfl)) ?_
            refine S_on rfl rfl rfl rfl (Pur.vl (p_neq rfl rfl)) <| sp rfl (p_pick_t rfl rfl) <| sq <| J_bool (t := 161) (c := false) rfl (by simp at h152 h157 ⊢; rcases hk2 with h | h | h <;> simp_all) <| C_false rfl <| J_skip <| qx <| fa rfl rfl fa40_1 ?_
            refine L_val rfl (v_load rfl ty3 HS (by exact rfl)) ?_
            refine fa rfl rfl fa40_1 <| L_val rfl (v_load rfl ty3 HS (by exact rfl)) ?_
            refine L_pur rfl (p_eql rfl rfl) <| mv rfl rfl <| J_bool (t := 167) (c := true) rfl (by simpa using h132) <| L_op <| G_on rfl rfl rfl <| J_pur (p_fieldAddr rfl fa40_0) rfl rfl rfl <| L_op <| G_on rfl rfl rfl ?_
            refine J_val (v_load rfl ty3 HS (by exact rfl)) rfl rfl rfl ?_
            refine L_op <| G_on rfl rfl rfl <| J_pur (p_fieldAddr rfl fa40_0) rfl rfl rfl <| L_op <| G_on rfl rfl rfl <| J_val (v_load rfl ty3 HS (by exact rfl)) rfl rfl rfl ?_
            refine L_op <| G_on rfl rfl rfl <| J_pur (p_neq rfl rfl) rfl rfl rfl <| L_pur rfl (p_pick_t rfl rfl) <| nq <| J_bool (t := 173) (c := false) rfl (by simp [hk1]) <| C_false rfl <| J_skip ?_
            refine Q_blk_normal <| qr <| mv rfl rfl <| L_pur rfl (p_add64 rfl rfl (by omega)) <| ag rfl rfl <| nq ?_
            exact J_again (k + 1) (by omega) (by omega) SU KE
           ·
            refine S_off rfl rfl rfl rfl rfl <| S_off rfl rfl rfl rfl rfl <| S_off rfl rfl rfl rfl rfl <| sp rfl (p_pick_f rfl rfl) <| sq <| C_false rfl <| J_skip <| qx ?_
            refine fa rfl rfl fa40_1 <| L_val rfl (v_load rfl ty3 HS (by exact rfl)) ?_
            refine fa rfl rfl fa40_1 <| L_val rfl (v_load rfl ty3 HS (by exact rfl)) ?_
            refine L_pur rfl (p_eql rfl rfl) <| mv rfl rfl <| J_bool (t := 167) (c := true) rfl (by simpa using h132) <| L_op <| G_on rfl rfl rfl <| J_pur (p_fieldAddr rfl fa40_0) rfl rfl rfl <| L_op <| G_on rfl rfl rfl ?_
            refine J_val (v_load rfl ty3 HS (by exact rfl)) rfl rfl rfl ?_
            refine L_op <| G_on rfl rfl rfl <| J_pur (p_fieldAddr rfl fa40_0) rfl rfl rfl <| L_op <| G_on rfl rfl rfl <| J_val (v_load rfl ty3 HS (by exact rfl)) rfl rfl rfl ?_
            refine L_op <| G_on rfl rfl rfl <| J_pur (p_neq rfl rfl) rfl rfl rfl <| L_pur rfl (p_pick_t rfl rfl) <| nq <| J_bool (t := 173) (c := false) rfl (by simp [hk1]) <| C_false rfl <| J_skip ?_
            refine Q_blk_normal <| qr <| mv rfl rfl <| L_pur rfl (p_add64 rfl rfl (by omega)) <| ag rfl rfl <| nq ?_
            exact J_again (k + 1) (by omega) (by omega) SU KE
          ·
           refine S_off rfl rfl rfl rfl rfl <| S_off rfl rfl rfl rfl rfl <| S_off rfl rfl rfl rfl rfl <| sp rfl (p_pick_f rfl rfl) <| sm rfl rfl <| S_off rfl rfl rfl rfl rfl <| S_off rfl rfl rfl rfl rfl <| S_off rfl rfl rfl rfl rfl ?_
           refine sp rfl (p_pick_f rfl rfl) <| sq <| C_false rfl <| J_skip <| qx <| fa rfl rfl fa40_1 <| L_val rfl (v_load rfl ty3 HS (by exact rfl)) ?_
           refine fa rfl rfl fa40_1 <| L_val rfl (v_load rfl ty3 HS (by exact rfl)) ?_
           refine L_pur rfl (p_eql rfl rfl) <| mv rfl rfl <| J_bool (t := 167) (c := true) rfl (by simpa using h132) <| L_op <| G_on rfl rfl rfl <| J_pur (p_fieldAddr rfl fa40_0) rfl rfl rfl <| L_op <| G_on rfl rfl rfl ?_
           refine J_val (v_load rfl ty3 HS (by exact rfl)) rfl rfl rfl ?_
           refine L_op <| G_on rfl rfl rfl <| J_pur (p_fieldAddr rfl fa40_0) rfl rfl rfl <| L_op <| G_on rfl rfl rfl <| J_val (v_load rfl ty3 HS (by exact rfl)) rfl rfl rfl ?_
           refine L_op <| G_on rfl rfl rfl <| J_pur (p_neq rfl rfl) rfl rfl rfl <| L_pur rfl (p_pick_t rfl rfl) <| nq <| J_bool (t := 173) (c := false) rfl (by simp [hk1]) <| C_false rfl <| J_skip ?_
           refine Q_blk_normal <| qr <| mv rfl rfl <| L_pur rfl (p_add64 rfl rfl (by omega)) <| ag rfl rfl <| nq ?_
           exact J_again (k + 1) (by omega) (by omega) SU KE
         ·
          refine S_off rfl rfl rfl rfl rfl <| S_off rfl rfl rfl rfl rfl <| S_off rfl rfl rfl rfl rfl <| S_off rfl rfl rfl rfl rfl <| S_off rfl rfl rfl rfl rfl <| sp rfl (p_pick_f rfl rfl) <| sm rfl rfl <| S_off rfl rfl rfl rfl rfl ?_
          refine S_off rfl rfl rfl rfl rfl <| S_off rfl rfl rfl rfl rfl <| S_off rfl rfl rfl rfl rfl <| S_off rfl rfl rfl rfl rfl <| S_off rfl rfl rfl rfl rfl <| S_off rfl rfl rfl rfl rfl <| S_off rfl rfl rfl rfl rfl <| S_off rfl rfl rfl rfl rfl ?_
          refine S_off rfl rfl rfl rfl rfl <| S_off rfl rfl rfl rfl rfl <| sp rfl (p_pick_f rfl rfl) <| sm rfl rfl <| S_off rfl rfl rfl rfl rfl <| S_off rfl rfl rfl rfl rfl <| S_off rfl rfl rfl rfl rfl <| sp rfl (p_pick_f rfl rfl) ?_
          refine sm rfl rfl <| S_off rfl rfl rfl rfl rfl <| S_off rfl rfl rfl rfl rfl <| S_off rfl rfl rfl rfl rfl <| sp rfl (p_pick_f rfl rfl) <| sq <| C_false rfl <| J_skip ?_
          refine qx <| fa rfl rfl fa40_1 <| L_val rfl (v_load rfl ty3 HS (by exact rfl)) ?_
          refine fa rfl rfl fa40_1 <| L_val rfl (v_load rfl ty3 HS (by exact rfl)) ?_
          refine L_pur rfl (p_eql rfl rfl) <| mv rfl rfl <| J_bool (t := 167) (c := false) rfl (by simpa using h132) <| L_op <| G_off rfl rfl rfl rfl rfl rfl <| L_op <| G_off rfl rfl rfl rfl rfl rfl <| L_op <| G_off rfl rfl rfl rfl rfl rfl ?_
          refine L_op <| G_off rfl rfl rfl rfl rfl rfl <| L_op <| G_off rfl rfl rfl rfl rfl rfl <| L_pur rfl (p_pick_f rfl rfl) <| nq <| C_false rfl <| J_skip ?_
          refine Q_blk_normal <| qr <| mv rfl rfl <| L_pur rfl (p_add64 rfl rfl (by omega)) <| ag rfl rfl <| nq ?_
          exact J_again (k + 1) (by omega) (by omega) SU KE
        ·
         refine x_alloc ty40 rfl fun b13 => i1 6 rfl <| x_call Tryz.func15 nm15 bd15 (.cons rfl (.cons rfl .nil)) rfl (coSlGet (s := K) (a := d) PC) fun _ => ?_
         refine ip 7 rfl rfl rfl rfl (p_move rfl) <| ip 8 rfl rfl rfl rfl (p_extract rfl rfl) <| ip 9 rfl rfl rfl rfl (p_extract rfl rfl) <| i1 11 rfl <| x_store rfl rfl ty40 rfl SM SM RO PT ?_
         refine J_pick (A := blk b13 _ _) PC ?_
         refine J_asTo (B := blk b13 40 (encC ((look K.sl d).getD s0).1)) (by rfl) <| ip 12 rfl rfl rfl rfl (p_assign rfl) <| i0 <| Q_then <| J_seq <| J_seq <| J_drawS mixed (by kernel_rfl) <| sp rfl (p_fieldAddr rfl fa40_1) ?_
         refine S_val rfl (v_load rfl ty3 HS (by exact rfl)) ?_
         refine sp rfl (p_fieldAddr rfl fa40_1) <| S_val rfl (v_load rfl ty3 HS (by exact rfl)) ?_
         refine sp rfl (p_eql rfl rfl) <| sm rfl rfl ?_
         refine J_gsplit (t := 132) rfl (fun h132 => ?_) (fun h132 => ?_)
         ·
          have h132a : ((look K.sl c).getD s0).1.obj = ((look K.sl d).getD s0).1.obj := by simpa using h132
          obtain ⟨hk1, hk2⟩ := hap h132a
          refine S_on rfl rfl rfl rfl (Pur.vl (p_fieldAddr rfl fa40_0)) <| S_on rfl rfl rfl rfl (v_load rfl ty3 HS (by exact rfl)) ?_
          refine S_on rfl rfl rfl rfl (Pur.vl (p_fieldAddr rfl fa40_0)) <| S_on rfl rfl rfl rfl (v_load rfl ty3 HS (by exact rfl)) ?_
          refine S_on rfl rfl rfl rfl (Pur.vl (p_eql rfl rfl)) <| sp rfl (p_pick_t rfl rfl) <| sm rfl rfl <| J_bool (t := 139) (c := true) rfl (by simp [hk1]) <| S_on rfl rfl rfl rfl (Pur.vl (p_move rfl)) <| S_on rfl rfl rfl rfl (Pur.vl (p_move rfl)) <| S_on rfl rfl rfl rfl (Pur.vl (p_indexAddr rfl rfl Tryz.underlying32 ty44 (by omega) (by omega))) <| S_on rfl rfl rfl rfl (Pur.vl (p_fieldAddr rfl fa44_0)) ?_
          refine S_on rfl rfl rfl rfl (v_loadF rfl ty3 HS (by first | (simp only [Int.toNat_natCast, List.getElem?_map, hcc]; rfl) | (simp only [Int.toNat_natCast, List.getElem?_map, hcd]; rfl) | simp | rfl) (by exact rfl)) ?_
          refine S_on rfl rfl rfl rfl (Pur.vl (p_move rfl)) <| S_on rfl rfl rfl rfl (Pur.vl (p_move rfl)) <| S_on rfl rfl rfl rfl (Pur.vl (p_indexAddr rfl rfl Tryz.underlying32 ty44 (by omega) (by omega))) <| S_on rfl rfl rfl rfl (Pur.vl (p_fieldAddr rfl fa44_0)) ?_
          refine S_on rfl rfl rfl rfl (v_loadF rfl ty3 HS (by first | (simp only [Int.toNat_natCast, List.getElem?_map, hcc]; rfl) | (simp only [Int.toNat_natCast, List.getElem?_map, hcd]; rfl) | simp | rfl) (by exact rfl)) ?_
          refine S_on rfl rfl rfl rfl (Pur.vl (p_neq rfl rfl)) <| sp rfl (p_pick_t rfl rfl) <| sm rfl rfl ?_
          refine J_gsplit (t := 152) rfl (fun h152 => ?_) (fun h152 => ?_)
          ·
           refine S_on rfl rfl rfl rfl (Pur.vl (p_fieldAddr rfl fa40_0)) <| S_on rfl rfl rfl rfl (v_load rfl ty3 HS (by exact rfl)) ?_
           refine S_on rfl rfl rfl rfl (Pur.vl (p_neq rfl rfl)) <| sp rfl (p_pick_t rfl rfl) <| sm rfl rfl ?_
           refine J_gsplit (t := 157) rfl (fun h157 => ?_) (fun h157 => ?_)
           ·
            refine S_on rfl rfl rfl rfl (Pur.vl (p_fieldAddr rfl fa40_0)) <| S_on rfl rfl rfl rfl (v_load rfl ty3 HS (by exact rfl)) ?_
            refine S_on rfl rfl rfl rfl (Pur.vl (p_neq rfl rfl)) <| sp rfl (p_pick_t rfl rfl) <| sq <| J_bool (t := 161) (c := false) rfl (by simp at h152 h157 ⊢; rcases hk2 with h | h | h <;> simp_all) <| C_false rfl <| J_skip <| qx <| fa rfl rfl fa40_1 ?_
            refine L_val rfl (v_load rfl ty3 HS (by exact rfl)) ?_
            refine fa rfl rfl fa40_1 <| L_val rfl (v_load rfl ty3 HS (by exact rfl)) ?_
            refine L_pur rfl (p_eql rfl rfl) <| mv rfl rfl <| J_bool (t := 167) (c := true) rfl (by simpa using h132) <| L_op <| G_on rfl rfl rfl <| J_pur (p_fieldAddr rfl fa40_0) rfl rfl rfl <| L_op <| G_on rfl rfl rfl ?_
            refine J_val (v_load rfl ty3 HS (by exact rfl)) rfl rfl rfl ?_
            refine L_op <| G_on rfl rfl rfl <| J_pur (p_fieldAddr rfl fa40_0) rfl rfl rfl <| L_op <| G_on rfl rfl rfl <| J_val (v_load rfl ty3 HS (by exact rfl)) rfl rfl rfl ?_
            refine L_op <| G_on rfl rfl rfl <| J_pur (p_neq rfl rfl) rfl rfl rfl <| L_pur rfl (p_pick_t rfl rfl) <| nq <| J_bool (t := 173) (c := false) rfl (by simp [hk1]) <| C_false rfl <| J_skip ?_
            refine Q_blk_normal <| qr <| mv rfl rfl <| L_pur rfl (p_add64 rfl rfl (by omega)) <| ag rfl rfl <| nq ?_
            exact J_again (k + 1) (by omega) (by omega) SU KE
           ·
            refine S_off rfl rfl rfl rfl rfl <| S_off rfl rfl rfl rfl rfl <| S_off rfl rfl rfl rfl rfl <| sp rfl (p_pick_f rfl rfl) <| sq <| C_false rfl <| J_skip <| qx ?_
            refine fa rfl rfl fa40_1 <| L_val rfl (v_load rfl ty3 HS (by exact rfl)) ?_
            refine fa rfl rfl fa40_1 <| L_val rfl (v_load rfl ty3 HS (by exact rfl)) ?_
            refine L_pur rfl (p_eql rfl rfl) <| mv rfl rfl <| J_bool (t := 167) (c := true) rfl (by simpa using h132) <| L_op <| G_on rfl rfl rfl <| J_pur (p_fieldAddr rfl fa40_0) rfl rfl rfl <| L_op <| G_on rfl rfl rfl ?_
            refine J_val (v_load rfl ty3 HS (by exact rfl)) rfl rfl rfl ?_
            refine L_op <| G_on rfl rfl rfl <| J_pur (p_fieldAddr rfl fa40_0) rfl rfl rfl <| L_op <| G_on rfl rfl rfl <| J_val (v_load rfl ty3 HS (by exact rfl)) rfl rfl rfl ?_
            refine L_op <| G_on rfl rfl rfl <| J_pur (p_neq rfl rfl) rfl rfl rfl <| L_pur rfl (p_pick_t rfl rfl) <| nq <| J_bool (t := 173) (c := false) rfl (by simp [hk1]) <| C_false rfl <| J_skip ?_
            refine Q_blk_normal <| qr <| mv rfl rfl <| L_pur rfl (p_add64 rfl rfl (by omega)) <| ag rfl rfl <| nq ?_
            exact J_again (k + 1) (by omega) (by omega) SU KE
          ·
           refine S_off rfl rfl rfl rfl rfl <| S_off rfl rfl rfl rfl rfl <| S_off rfl rfl rfl rfl rfl <| sp rfl (p_pick_f rfl rfl) <| sm rfl rfl <| S_off rfl rfl rfl rfl rfl <| S_off rfl rfl rfl rfl rfl <| S_off rfl rfl rfl rfl rfl ?_
           refine sp rfl (p_pick_f rfl rfl) <| sq <| C_false rfl <| J_skip <| qx <| fa rfl rfl fa40_1 <| L_val rfl (v_load rfl ty3 HS (by exact rfl)) ?_
           refine fa rfl rfl fa40_1 <| L_val rfl (v_load rfl ty3 HS (by exact rfl)) ?_
           refine L_pur rfl (p_eql rfl rfl) <| mv rfl rfl <| J_bool (t := 167) (c := true) rfl (by simpa using h132) <| L_op <| G_on rfl rfl rfl <| J_pur (p_fieldAddr rfl fa40_0) rfl rfl rfl <| L_op <| G_on rfl rfl rfl ?_
           refine J_val (v_load rfl ty3 HS (by exact rfl)) rfl rfl rfl ?_
           refine L_op <| G_on rfl rfl rfl <| J_pur (p_fieldAddr rfl fa40_0) rfl rfl rfl <| L_op <| G_on rfl rfl rfl <| J_val (v_load rfl ty3 HS (by exact rfl)) rfl rfl rfl ?_
           refine L_op <| G_on rfl rfl rfl <| J_pur (p_neq rfl rfl) rfl rfl rfl <| L_pur rfl (p_pick_t rfl rfl) <| nq <| J_bool (t := 173) (c := false) rfl (by simp [hk1]) <| C_false rfl <| J_skip ?_
           refine Q_blk_normal <| qr <| mv rfl rfl <| L_pur rfl (p_add64 rfl rfl (by omega)) <| ag rfl rfl <| nq ?_
           exact J_again (k + 1) (by omega) (by omega) SU KE
         ·
          refine S_off rfl rfl rfl rfl rfl <| S_off rfl rfl rfl rfl rfl <| S_off rfl rfl rfl rfl rfl <| S_off rfl rfl rfl rfl rfl <| S_off rfl rfl rfl rfl rfl <| sp rfl (p_pick_f rfl rfl) <| sm rfl rfl <| S_off rfl rfl rfl rfl rfl ?_
          refine S_off rfl rfl rfl rfl rfl <| S_off rfl rfl rfl rfl rfl <| S_off rfl rfl rfl rfl rfl <| S_off rfl rfl rfl rfl rfl <| S_off rfl rfl rfl rfl rfl <| S_off rfl rfl rfl rfl rfl <| S_off rfl rfl rfl rfl rfl <| S_off rfl rfl rfl rfl rfl ?_
          refine S_off rfl rfl rfl rfl rfl <| S_off rfl rfl rfl rfl rfl <| sp rfl (p_pick_f rfl rfl) <| sm rfl rfl <| S_off rfl rfl rfl rfl rfl <| S_off rfl rfl rfl rfl rfl <| S_off rfl rfl rfl rfl rfl <| sp rfl (p_pick_f rfl rfl) ?_
          refine sm rfl rfl <| S_off rfl rfl rfl rfl rfl <| S_off rfl rfl rfl rfl rfl <| S_off rfl rfl rfl rfl rfl <| sp rfl (p_pick_f rfl rfl) <| sq <| C_false rfl <| J_skip ?_
          refine qx <| fa rfl rfl fa40_1 <| L_val rfl (v_load rfl ty3 HS (by exact rfl)) ?_
          refine fa rfl rfl fa40_1 <| L_val rfl (v_load rfl ty3 HS (by exact rfl)) ?_
          refine L_pur rfl (p_eql rfl rfl) <| mv rfl rfl <| J_bool (t := 167) (c := false) rfl (by simpa using h132) <| L_op <| G_off rfl rfl rfl rfl rfl rfl <| L_op <| G_off rfl rfl rfl rfl rfl rfl <| L_op <| G_off rfl rfl rfl rfl rfl rfl ?_
          refine L_op <| G_off rfl rfl rfl rfl rfl rfl <| L_op <| G_off rfl rfl rfl rfl rfl rfl <| L_pur rfl (p_pick_f rfl rfl) <| nq <| C_false rfl <| J_skip ?_
          refine Q_blk_normal <| qr <| mv rfl rfl <| L_pur rfl (p_add64 rfl rfl (by omega)) <| ag rfl rfl <| nq ?_
          exact J_again (k + 1) (by omega) (by omega) SU KE
       ·
        refine x_alloc ty40 rfl fun b13 => i1 1 rfl <| x_call Tryz.func9 nm9 bd9 (.cons rfl .nil) rfl (coSlots) fun _ => i1 6 rfl <| x_call Tryz.func15 nm15 bd15 (.cons rfl (.cons rfl .nil)) rfl (coSlGet (s := K) (a := d) PC) fun _ => ?_
        refine ip 7 rfl rfl rfl rfl (p_move rfl) <| ip 8 rfl rfl rfl rfl (p_extract rfl rfl) <| ip 9 rfl rfl rfl rfl (p_extract rfl rfl) <| i1 11 rfl <| x_store rfl rfl ty40 rfl SM SM RO PT ?_
        refine J_pick (A := blk b13 _ _) PC ?_
        refine J_asTo (B := blk b13 40 (encC ((look K.sl d).getD s0).1)) (by rfl) <| ip 12 rfl rfl rfl rfl (p_assign rfl) <| i0 <| Q_then <| J_seq <| J_seq <| J_drawS mixed (by kernel_rfl) <| sp rfl (p_fieldAddr rfl fa40_1) ?_
        refine S_val rfl (v_load rfl ty3 HS (by exact rfl)) ?_
        refine sp rfl (p_fieldAddr rfl fa40_1) <| S_val rfl (v_load rfl ty3 HS (by exact rfl)) ?_
        refine sp rfl (p_eql rfl rfl) <| sm rfl rfl ?_
        refine J_gsplit (t := 132) rfl (fun h132 => ?_) (fun h132 => ?_)
        ·
         have h132a : ((look K.sl c).getD s0).1.obj = ((look K.sl d).getD s0).1.obj := by simpa using h132
         obtain ⟨hk1, hk2⟩ := hap h132a
         refine S_on rfl rfl rfl rfl (Pur.vl (p_fieldAddr rfl fa40_0)) <| S_on rfl rfl rfl rfl (v_load rfl ty3 HS (by exact rfl)) ?_
         refine S_on rfl rfl rfl rfl (Pur.vl (p_fieldAddr rfl fa40_0)) <| S_on rfl rfl rfl rfl (v_load rfl ty3 HS (by exact rfl)) ?_
         refine S_on rfl rfl rfl rfl (Pur.vl (p_eql rfl rfl)) <| sp rfl (p_pick_t rfl rfl) <| sm rfl rfl <| J_bool (t := 139) (c := true) rfl (by simp [hk1]) <| S_on rfl rfl rfl rfl (Pur.vl (p_move rfl)) <| S_on rfl rfl rfl rfl (Pur.vl (p_move rfl)) <| S_on rfl rfl rfl rfl (Pur.vl (p_indexAddr rfl rfl Tryz.underlying32 ty44 (by omega) (by omega))) <| S_on rfl rfl rfl rfl (Pur.vl (p_fieldAddr rfl fa44_0)) ?_
         refine S_on rfl rfl rfl rfl (v_loadF rfl ty3 HS (by first | (simp only [Int.toNat_natCast, List.getElem?_map, hcc]; rfl) | (simp only [Int.toNat_natCast, List.getElem?_map, hcd]; rfl) | simp | rfl) (by exact rfl)) ?_
         refine S_on rfl rfl rfl rfl (Pur.vl (p_move rfl)) <| S_on rfl rfl rfl rfl (Pur.vl (p_move rfl)) <| S_on rfl rfl rfl rfl (Pur.vl (p_indexAddr rfl rfl Tryz.underlying32 ty44 (by omega) (by omega))) <| S_on rfl rfl rfl rfl (Pur.vl (p_fieldAddr rfl fa44_0)) ?_
         refine S_on rfl rfl rfl rfl (v_loadF rfl ty3 HS (by first | (simp only [Int.toNat_natCast, List.getElem?_map, hcc]; rfl) | (simp only [Int.toNat_natCast, List.getElem?_map, hcd]; rfl) | simp | rfl) (by exact rfl)) ?_
         refine S_on rfl rfl rfl rfl (Pur.vl (p_neq rfl rfl)) <| sp rfl (p_pick_t rfl rfl) <| sm rfl rfl ?_
         refine J_gsplit (t := 152) rfl (fun h152 => ?_) (fun h152 => ?_)
         ·
          refine S_on rfl rfl rfl rfl (Pur.vl (p_fieldAddr rfl fa40_0)) <| S_on rfl rfl rfl rfl (v_load rfl ty3 HS (by exact rfl)) ?_
          refine S_on rfl rfl rfl rfl (Pur.vl (p_neq rfl rfl)) <| sp rfl (p_pick_t rfl rfl) <| sm rfl rfl ?_
          refine J_gsplit (t := 157) rfl (fun h157 => ?_) (fun h157 => ?_)
          ·
           refine S_on rfl rfl rfl rfl (Pur.vl (p_fieldAddr rfl fa40_0)) <| S_on rfl rfl rfl rfl (v_load rfl ty3 HS (by exact rfl)) ?_
           refine S_on rfl rfl rfl rfl (Pur.vl (p_neq rfl rfl)) <| sp rfl (p_pick_t rfl rfl) <| sq <| J_bool (t := 161) (c := false) rfl (by simp at h152 h157 ⊢; rcases hk2 with h | h | h <;> simp_all) <| C_false rfl <| J_skip <| qx <| fa rfl rfl fa40_1 ?_
           refine L_val rfl (v_load rfl ty3 HS (by exact rfl)) ?_
           refine fa rfl rfl fa40_1 <| L_val rfl (v_load rfl ty3 HS (by exact rfl)) ?_
           refine L_pur rfl (p_eql rfl rfl) <| mv rfl rfl <| J_bool (t := 167) (c := true) rfl (by simpa using h132) <| L_op <| G_on rfl rfl rfl <| J_pur (p_fieldAddr rfl fa40_0) rfl rfl rfl <| L_op <| G_on rfl rfl rfl ?_
           refine J_val (v_load rfl ty3 HS (by exact rfl)) rfl rfl rfl ?_
           refine L_op <| G_on rfl rfl rfl <| J_pur (p_fieldAddr rfl fa40_0) rfl rfl rfl <| L_op <| G_on rfl rfl rfl <| J_val (v_load rfl ty3 HS (by exact rfl)) rfl rfl rfl ?_
           refine L_op <| G_on rfl rfl rfl <| J_pur (p_neq rfl rfl) rfl rfl rfl <| L_pur rfl (p_pick_t rfl rfl) <| nq <| J_bool (t := 173) (c := false) rfl (by simp [hk1]) <| C_false rfl <| J_skip ?_
           refine Q_blk_normal <| qr <| mv rfl rfl <| L_pur rfl (p_add64 rfl rfl (by omega)) <| ag rfl rfl <| nq ?_
           exact J_again (k + 1) (by omega) (by omega) SU KE
          ·
           refine S_off rfl rfl rfl rfl rfl <| S_off rfl rfl rfl rfl rfl <| S_off rfl rfl rfl rfl rfl <| sp rfl (p_pick_f rfl rfl) <| sq <| C_false rfl <| J_skip <| qx ?_
           refine fa rfl rfl fa40_1 <| L_val rfl (v_load rfl ty3 HS (by exact rfl)) ?_
           refine fa rfl rfl fa40_1 <| L_val rfl (v_load rfl ty3 HS (by exact rfl)) ?_
           refine L_pur rfl (p_eql rfl rfl) <| mv rfl rfl <| J_bool (t := 167) (c := true) rfl (by simpa using h132) <| L_op <| G_on rfl rfl rfl <| J_pur (p_fieldAddr rfl fa40_0) rfl rfl rfl <| L_op <| G_on rfl rfl rfl ?_
           refine J_val (v_load rfl ty3 HS (by exact rfl)) rfl rfl rfl ?_
           refine L_op <| G_on rfl rfl rfl <| J_pur (p_fieldAddr rfl fa40_0) rfl rfl rfl <| L_op <| G_on rfl rfl rfl <| J_val (v_load rfl ty3 HS (by exact rfl)) rfl rfl rfl ?_
           refine L_op <| G_on rfl rfl rfl <| J_pur (p_neq rfl rfl) rfl rfl rfl <| L_pur rfl (p_pick_t rfl rfl) <| nq <| J_bool (t := 173) (c := false) rfl (by simp [hk1]) <| C_false rfl <| J_skip ?_
           refine Q_blk_normal <| qr <| mv rfl rfl <| L_pur rfl (p_add64 rfl rfl (by omega)) <| ag rfl rfl <| nq ?_
           exact J_again (k + 1) (by omega) (by omega) SU KE
         ·
          refine S_off rfl rfl rfl rfl rfl <| S_off rfl rfl rfl rfl rfl <| S_off rfl rfl rfl rfl rfl <| sp rfl (p_pick_f rfl rfl) <| sm rfl rfl <| S_off rfl rfl rfl rfl rfl <| S_off rfl rfl rfl rfl rfl <| S_off rfl rfl rfl rfl rfl ?_
          refine sp rfl (p_pick_f rfl rfl) <| sq <| C_false rfl <| J_skip <| qx <| fa rfl rfl fa40_1 <| L_val rfl (v_load rfl ty3 HS (by exact rfl)) ?_
          refine fa rfl rfl fa40_1 <| L_val rfl (v_load rfl ty3 HS (by exact rfl)) ?_
          refine L_pur rfl (p_eql rfl rfl) <| mv rfl rfl <| J_bool (t := 167) (c := true) rfl (by simpa using h132) <| L_op <| G_on rfl rfl rfl <| J_pur (p_fieldAddr rfl fa40_0) rfl rfl rfl <| L_op <| G_on rfl rfl rfl ?_
          refine J_val (v_load rfl ty3 HS (by exact rfl)) rfl rfl rfl ?_
          refine L_op <| G_on rfl rfl rfl <| J_pur (p_fieldAddr rfl fa40_0) rfl rfl rfl <| L_op <| G_on rfl rfl rfl <| J_val (v_load rfl ty3 HS (by exact rfl)) rfl rfl rfl ?_
          refine L_op <| G_on rfl rfl rfl <| J_pur (p_neq rfl rfl) rfl rfl rfl <| L_pur rfl (p_pick_t rfl rfl) <| nq <| J_bool (t := 173) (c := false) rfl (by simp [hk1]) <| C_false rfl <| J_skip ?_
          refine Q_blk_normal <| qr <| mv rfl rfl <| L_pur rfl (p_add64 rfl rfl (by omega)) <| ag rfl rfl <| nq ?_
          exact J_again (k + 1) (by omega) (by omega) SU KE
        ·
         refine S_off rfl rfl rfl rfl rfl <| S_off rfl rfl rfl rfl rfl <| S_off rfl rfl rfl rfl rfl <| S_off rfl rfl rfl rfl rfl <| S_off rfl rfl rfl rfl rfl <| sp rfl (p_pick_f rfl rfl) <| sm rfl rfl <| S_off rfl rfl rfl rfl rfl ?_
         refine S_off rfl rfl rfl rfl rfl <| S_off rfl rfl rfl rfl rfl <| S_off rfl rfl rfl rfl rfl <| S_off rfl rfl rfl rfl rfl <| S_off rfl rfl rfl rfl rfl <| S_off rfl rfl rfl rfl rfl <| S_off rfl rfl rfl rfl rfl <| S_off rfl rfl rfl rfl rfl ?_
         refine S_off rfl rfl rfl rfl rfl <| S_off rfl rfl rfl rfl rfl <| sp rfl (p_pick_f rfl rfl) <| sm rfl rfl <| S_off rfl rfl rfl rfl rfl <| S_off rfl rfl rfl rfl rfl <| S_off rfl rfl rfl rfl rfl <| sp rfl (p_pick_f rfl rfl) ?_
         refine sm rfl rfl <| S_off rfl rfl rfl rfl rfl <| S_off rfl rfl rfl rfl rfl <| S_off rfl rfl rfl rfl rfl <| sp rfl (p_pick_f rfl rfl) <| sq <| C_false rfl <| J_skip ?_
         refine qx <| fa rfl rfl fa40_1 <| L_val rfl (v_load rfl ty3 HS (by exact rfl)) ?_
         refine fa rfl rfl fa40_1 <| L_val rfl (v_load rfl ty3 HS (by exact rfl)) ?_
         refine L_pur rfl (p_eql rfl rfl) <| mv rfl rfl <| J_bool (t := 167) (c := false) rfl (by simpa using h132) <| L_op <| G_off rfl rfl rfl rfl rfl rfl <| L_op <| G_off rfl rfl rfl rfl rfl rfl <| L_op <| G_off rfl rfl rfl rfl rfl rfl ?_
         refine L_op <| G_off rfl rfl rfl rfl rfl rfl <| L_op <| G_off rfl rfl rfl rfl rfl rfl <| L_pur rfl (p_pick_f rfl rfl) <| nq <| C_false rfl <| J_skip ?_
         refine Q_blk_normal <| qr <| mv rfl rfl <| L_pur rfl (p_add64 rfl rfl (by omega)) <| ag rfl rfl <| nq ?_
         exact J_again (k + 1) (by omega) (by omega) SU KE
      ·
       refine J_exit <| Q_then_exit <| Q_then_exit <| Q_blk_this <| Q_blk_normal <| qr <| mv rfl rfl <| L_pur rfl (p_add64 rfl rfl (by omega)) ?_
       refine ag rfl rfl <| nq ?_
       exact J_again (i + 1) (by omega) (by omega) SU KE
    ·
     refine x_alloc ty40 rfl fun b10 => i1 1 rfl <| x_call Tryz.func9 nm9 bd9 (.cons rfl .nil) rfl (coSlots) fun _ => i1 6 rfl <| x_call Tryz.func15 nm15 bd15 (.cons rfl (.cons rfl .nil)) rfl (coSlGet (s := K) (a := c) PC) fun _ => ?_
     refine ip 7 rfl rfl rfl rfl (p_move rfl) <| ip 8 rfl rfl rfl rfl (p_extract rfl rfl) <| ip 9 rfl rfl rfl rfl (p_extract rfl rfl) <| i1 11 rfl <| x_store rfl rfl ty40 rfl SM SM RO PT ?_
     refine J_pick (A := blk b10 _ _) PC ?_
     refine J_asTo (B := blk b10 40 (encC ((look K.sl c).getD s0).1)) (by rfl) <| ip 12 rfl rfl rfl rfl (p_assign rfl) <| i0 <| Q_then <| J_seq <| J_seq <| J_drawL none mixed <| ip 0 rfl rfl rfl rfl (p_fieldAddr rfl fa40_4) ?_
     refine iv 1 rfl rfl rfl rfl (fun _ => v_load rfl ty3 HS (by exact rfl)) ?_
     refine ip 2 rfl rfl rfl rfl (p_neq rfl rfl) <| J_bool (t := 100) (c := false) rfl (by rw [ho1]; rfl) <| ip 3 rfl rfl rfl rfl (p_move rfl) <| J_bool (t := 101) (c := false) rfl (rfl) <| I_takeOn (i := 4) rfl rfl rfl rfl rfl rfl rfl (by kernel_rfl) (fun _ _ _ _ h => h) (fun _ => Pur.vl (p_move rfl)) <| I_takeOn (i := 6) rfl rfl rfl rfl rfl rfl rfl (by kernel_rfl) (fun _ _ _ _ h => h) (fun _ => Pur.vl (p_move rfl)) <| I_takeOn (i := 7) rfl rfl rfl rfl rfl rfl rfl (by kernel_rfl) (fun _ _ _ _ h => h) (fun _ => Pur.vl (p_move rfl)) <| I_takeOn (i := 8) rfl rfl rfl rfl rfl rfl rfl (by kernel_rfl) (fun _ _ _ _ h => h) (fun _ => Pur.vl (p_indexAddr rfl rfl Tryz.underlying32 ty44 (by omega) (by omega))) ?_
     refine I_takeOn (i := 9) rfl rfl rfl rfl rfl rfl rfl (by kernel_rfl) (fun _ _ _ _ h => h) (fun _ => v_loadE rfl ty44 HS (by first | (simp only [Int.toNat_natCast, List.getElem?_map, hcc]; rfl) | (simp only [Int.toNat_natCast, List.getElem?_map, hcd]; rfl) | simp | rfl)) ?_
     refine I_takeOn (i := 11) rfl rfl rfl rfl rfl rfl rfl (by kernel_rfl) (fun _ _ _ _ h => h) (fun _ => Pur.vl (bld44 .nil (by repeat constructor))) <| i1 5 rfl <| G_on rfl rfl rfl <| x_call Tryz.func9 nm9 bd9 (.cons rfl .nil) rfl (coSlots) fun _ => i1 10 rfl <| G_on rfl rfl rfl <| x_call Tryz.func16 nm16 bd16 (.cons rfl (.cons rfl .nil)) rfl (coSlPar (s := K) (a := c) PC) fun _ => ?_
     refine J_slot (t := 108) (v := kI (0, 0)) rfl (by rw [ho2]; rfl) <| I_takeOn (i := 12) rfl rfl rfl rfl rfl rfl rfl (by kernel_rfl) (fun _ _ _ _ h => h) (fun _ => Pur.vl (p_nev rfl rfl (fun w => eg44 _ _ _ _ _ w) (fun w => nev44 _ _ _ _ w))) <| ip 13 rfl rfl rfl rfl (p_pick_f rfl rfl) <| i0 <| Q_then <| J_bool (t := 111) (c := false) rfl (by simp) <| C_false rfl <| J_skip ?_
     refine qx <| ag rfl rfl <| nq <| J_block <| J_loop (α := Nat) (fun k => k ≤ i) (fun _ => [row 44 2 (.slice (some ⟨bx, ox, none⟩) (L.map encI).length c46) (L.map encI), row 3 1 (.slice a50 (TS.map encN).length c50) (TS.map encN), blk b10 40 (encC ((look K.sl c).getD s0).1), coA g.p K, old W]) (fun k => [(12, .int .i64 (k : Int)), (9, .int .i64 (i : Int)), (10, .pointer (some ⟨b10, 0, none⟩)), (8, .slice a50 (TS.map encN).length c50), (5, .pointer (some ⟨g.p, 0, none⟩)), (3, .bool true), (6, .slice (some ⟨bx, ox, none⟩) (L.map encI).length c46)]) (fun k => i - k) 0 (by omega) SU KE ?_
     intro k hk
     refine J_seq <| sr <| mv rfl rfl <| mv rfl rfl <| L_pur rfl (p_lss rfl rfl) <| nq ?_
     refine C_dec rfl (fun h114 => ?_) (fun h114 => ?_)
     ·
      have hltk : k < L.length := by omega
      obtain ⟨d, hcd⟩ : ∃ d, L[k]? = some d := ⟨_, List.getElem?_eq_getElem hltk⟩
      have hdm := hLm d (List.mem_of_getElem? hcd)
      have hap := hB.apart c hcm d hdm
      refine J_skip <| Q_then <| J_seq <| J_block <| J_seq <| J_drawL none mixed <| ip 0 rfl rfl rfl rfl (p_move rfl) <| ip 2 rfl rfl rfl rfl (p_move rfl) ?_
      refine ip 3 rfl rfl rfl rfl (p_move rfl) <| ip 4 rfl rfl rfl rfl (p_indexAddr rfl rfl Tryz.underlying32 ty44 (by omega) (by omega)) ?_
      refine I_take (i := 5) rfl rfl rfl rfl (by kernel_rfl) (fun _ _ _ _ h => h) (fun _ => v_loadE rfl ty44 HS (by first | (simp only [Int.toNat_natCast, List.getElem?_map, hcc]; rfl) | (simp only [Int.toNat_natCast, List.getElem?_map, hcd]; rfl) | simp | rfl)) ?_
      refine I_ready (rs := [1, 10]) SI (by kernel_rfl) (by simp) ?_
      refine (I_cons rfl ?_ (I_cons rfl ?_ I_nil))
      ·
       refine x_call Tryz.func9 nm9 bd9 (.cons rfl .nil) rfl (coSlots) fun _ => I_ready (rs := [6, 10]) SI (by kernel_rfl) (by simp) ?_
       refine (I_cons rfl ?_ (I_cons rfl ?_ I_nil))
       ·
        refine x_call Tryz.func15 nm15 bd15 (.cons rfl (.cons rfl .nil)) rfl (coSlGet (s := K) (a := d) PC) fun _ => ?_
        refine ip 7 rfl rfl rfl rfl (p_move rfl) <| ip 8 rfl rfl rfl rfl (p_extract rfl rfl) <| ip 9 rfl rfl rfl rfl (p_extract rfl rfl) <| i1 10 rfl <| x_alloc ty40 rfl fun b13 => i1 11 rfl <| x_store rfl rfl ty40 rfl SM SM RO PT ?_
        refine J_pick (A := blk b13 _ _) PC ?_
        refine J_asTo (B := blk b13 40 (encC ((look K.sl d).getD s0).1)) (by rfl) <| ip 12 rfl rfl rfl rfl (p_assign rfl) <| i0 <| Q_then <| J_seq <| J_seq <| J_drawS mixed (by kernel_rfl) <| sp rfl (p_fieldAddr rfl fa40_1) ?_
        refine S_val rfl (v_load rfl ty3 HS (by exact rfl)) ?_
        refine sp rfl (p_fieldAddr rfl fa40_1) <| S_val rfl (v_load rfl ty3 HS (by exact rfl)) ?_
        refine sp rfl (p_eql rfl rfl) <| sm rfl rfl ?_
        refine J_gsplit (t := 132) rfl (fun h132 => ?_) (fun h132 => ?_)
        ·
         have h132a : ((look K.sl c).getD s0).1.obj = ((look K.sl d).getD s0).1.obj := by simpa using h132
         obtain ⟨hk1, hk2⟩ := hap h132a
         refine S_on rfl rfl rfl rfl (Pur.vl (p_fieldAddr rfl fa40_0)) <| S_on rfl rfl rfl rfl (v_load rfl ty3 HS (by exact rfl)) ?_
         refine S_on rfl rfl rfl rfl (Pur.vl (p_fieldAddr rfl fa40_0)) <| S_on rfl rfl rfl rfl (v_load rfl ty3 HS (by exact rfl)) ?_
         refine S_on rfl rfl rfl rfl (Pur.vl (p_eql rfl rfl)) <| sp rfl (p_pick_t rfl rfl) <| sm rfl rfl <| J_bool (t := 139) (c := true) rfl (by simp [hk1]) <| S_on rfl rfl rfl rfl (Pur.vl (p_move rfl)) <| S_on rfl rfl rfl rfl (Pur.vl (p_move rfl)) <| S_on rfl rfl rfl rfl (Pur.vl (p_indexAddr rfl rfl Tryz.underlying32 ty44 (by omega) (by omega))) <| S_on rfl rfl rfl rfl (Pur.vl (p_fieldAddr rfl fa44_0)) ?_
         refine S_on rfl rfl rfl rfl (v_loadF rfl ty3 HS (by first | (simp only [Int.toNat_natCast, List.getElem?_map, hcc]; rfl) | (simp only [Int.toNat_natCast, List.getElem?_map, hcd]; rfl) | simp | rfl) (by exact rfl)) ?_
         refine S_on rfl rfl rfl rfl (Pur.vl (p_move rfl)) <| S_on rfl rfl rfl rfl (Pur.vl (p_move rfl)) <| S_on rfl rfl rfl rfl (Pur.vl (p_indexAddr rfl rfl Tryz.underlying32 ty44 (by omega) (by omega))) <| S_on rfl rfl rfl rfl (Pur.vl (p_fieldAddr rfl fa44_0)) ?_
         refine S_on rfl rfl rfl rfl (v_loadF rfl ty3 HS (by first | (simp only [Int.toNat_natCast, List.getElem?_map, hcc]; rfl) | (simp only [Int.toNat_natCast, List.getElem?_map, hcd]; rfl) | simp | rfl) (by exact rfl)) ?_
         refine S_on rfl rfl rfl rfl (Pur.vl (p_neq rfl rfl)) <| sp rfl (p_pick_t rfl rfl) <| sm rfl rfl ?_
         refine J_gsplit (t := 152) rfl (fun h152 => ?_) (fun h152 => ?_)
         ·
          refine S_on rfl rfl rfl rfl (Pur.vl (p_fieldAddr rfl fa40_0)) <| S_on rfl rfl rfl rfl (v_load rfl ty3 HS (by exact rfl)) ?_
          refine S_on rfl rfl rfl rfl (Pur.vl (p_neq rfl rfl)) <| sp rfl (p_pick_t rfl rfl) <| sm rfl rfl ?_
          refine J_gsplit (t := 157) rfl (fun h157 => ?_) (fun h157 => ?_)
          ·
           refine S_on rfl rfl rfl rfl (Pur.vl (p_fieldAddr rfl fa40_0)) <| S_on rfl rfl rfl rfl (v_load rfl ty3 HS (by exact rfl)) ?_
           refine S_on rfl rfl rfl rfl (Pur.vl (p_neq rfl rfl)) <| sp rfl (p_pick_t rfl rfl) <| sq <| J_bool (t := 161) (c := false) rfl (by simp at h152 h157 ⊢; rcases hk2 with h | h | h <;> simp_all) <| C_false rfl <| J_skip <| qx <| fa rfl rfl fa40_1 ?_
           refine L_val rfl (v_load rfl ty3 HS (by exact rfl)) ?_
           refine fa rfl rfl fa40_1 <| L_val rfl (v_load rfl ty3 HS (by exact rfl)) ?_
           refine L_pur rfl (p_eql rfl rfl) <| mv rfl rfl <| J_bool (t := 167) (c := true) rfl (by simpa using h132) <| L_op <| G_on rfl rfl rfl <| J_pur (p_fieldAddr rfl fa40_0) rfl rfl rfl <| L_op <| G_on rfl rfl rfl ?_
           refine J_val (v_load rfl ty3 HS (by exact rfl)) rfl rfl rfl ?_
           refine L_op <| G_on rfl rfl rfl <| J_pur (p_fieldAddr rfl fa40_0) rfl rfl rfl <| L_op <| G_on rfl rfl rfl <| J_val (v_load rfl ty3 HS (by exact rfl)) rfl rfl rfl ?_
           refine L_op <| G_on rfl rfl rfl <| J_pur (p_neq rfl rfl) rfl rfl rfl <| L_pur rfl (p_pick_t rfl rfl) <| nq <| J_bool (t := 173) (c := false) rfl (by simp [hk1]) <| C_false rfl <| J_skip ?_
           refine Q_blk_normal <| qr <| mv rfl rfl <| L_pur rfl (p_add64 rfl rfl (by omega)) <| ag rfl rfl <| nq ?_
           exact J_again (k + 1) (by omega) (by omega) SU KE
          ·
           refine S_off rfl rfl rfl rfl rfl <| S_off rfl rfl rfl rfl rfl <| S_off rfl rfl rfl rfl rfl <| sp rfl (p_pick_f rfl rfl) <| sq <| C_false rfl <| J_skip <| qx ?_
           refine fa rfl rfl fa40_1 <| L_val rfl (v_load rfl ty3 HS (by exact rfl)) ?_
           refine fa rfl rfl fa40_1 <| L_val rfl (v_load rfl ty3 HS (by exact rfl)) ?_
           refine L_pur rfl (p_eql rfl rfl) <| mv rfl rfl <| J_bool (t := 167) (c := true) rfl (by simpa using h132) <| L_op <| G_on rfl rfl rfl <| J_pur (p_fieldAddr rfl fa40_0) rfl rfl rfl <| L_op <| G_on rfl rfl rfl ?_
           refine J_val (v_load rfl ty3 HS (by exact rfl)) rfl rfl rfl ?_
           refine L_op <| G_on rfl rfl rfl <| J_pur (p_fieldAddr rfl fa40_0) rfl rfl rfl <| L_op <| G_on rfl rfl rfl <| J_val (v_load rfl ty3 HS (by exact rfl)) rfl rfl rfl ?_
           refine L_op <| G_on rfl rfl rfl <| J_pur (p_neq rfl rfl) rfl rfl rfl <| L_pur rfl (p_pick_t rfl rfl) <| nq <| J_bool (t := 173) (c := false) rfl (by simp [hk1]) <| C_false rfl <| J_skip ?_
           refine Q_blk_normal <| qr <| mv rfl rfl <| L_pur rfl (p_add64 rfl rfl (by omega)) <| ag rfl rfl <| nq ?_
           exact J_again (k + 1) (by omega) (by omega) SU KE
         ·
          refine S_off rfl rfl rfl rfl rfl <| S_off rfl rfl rfl rfl rfl <| S_off rfl rfl rfl rfl rfl <| sp rfl (p_pick_f rfl rfl) <| sm rfl rfl <| S_off rfl rfl rfl rfl rfl <| S_off rfl rfl rfl rfl rfl <| S_off rfl rfl rfl rfl rfl ?_
          refine sp rfl (p_pick_f rfl rfl) <| sq <| C_false rfl <| J_skip <| qx <| fa rfl rfl fa40_1 <| L_val rfl (v_load rfl ty3 HS (by exact rfl)) ?_
          refine fa rfl rfl fa40_1 <| L_val rfl (v_load rfl ty3 HS (by exact rfl)) ?_
          refine L_pur rfl (p_eql rfl rfl) <| mv rfl rfl <| J_bool (t := 167) (c := true) rfl (by simpa using h132) <| L_op <| G_on rfl rfl rfl <| J_pur (p_fieldAddr rfl fa40_0) rfl rfl rfl <| L_op <| G_on rfl rfl rfl ?_
          refine J_val (v_load rfl ty3 HS (by exact rfl)) rfl rfl rfl ?_
          refine L_op <| G_on rfl rfl rfl <| J_pur (p_fieldAddr rfl fa40_0) rfl rfl rfl <| L_op <| G_on rfl rfl rfl <| J_val (v_load rfl ty3 HS (by exact rfl)) rfl rfl rfl ?_
          refine L_op <| G_on rfl rfl rfl <| J_pur (p_neq rfl rfl) rfl rfl rfl <| L_pur rfl (p_pick_t rfl rfl) <| nq <| J_bool (t := 173) (c := false) rfl (by simp [hk1]) <| C_false rfl <| J_skip ?_
          refine Q_blk_normal <| qr <| mv rfl rfl <| L_pur rfl (p_add64 rfl rfl (by omega)) <| ag rfl rfl <| nq ?_
          exact J_again (k + 1) (by omega) (by omega) SU KE
        ·
         refine S_off rfl rfl rfl rfl rfl <| S_off rfl rfl rfl rfl rfl <| S_off rfl rfl rfl rfl rfl <| S_off rfl rfl rfl rfl rfl <| S_off rfl rfl rfl rfl rfl <| sp rfl (p_pick_f rfl rfl) <| sm rfl rfl <| S_off rfl rfl rfl rfl rfl ?_
         refine S_off rfl rfl rfl rfl rfl <| S_off rfl rfl rfl rfl rfl <| S_off rfl rfl rfl rfl rfl <| S_off rfl rfl rfl rfl rfl <| S_off rfl rfl rfl rfl rfl <| S_off rfl rfl rfl rfl rfl <| S_off rfl rfl rfl rfl rfl <| S_off rfl rfl rfl rfl rfl ?_
         refine S_off rfl rfl rfl rfl rfl <| S_off rfl rfl rfl rfl rfl <| sp rfl (p_pick_f rfl rfl) <| sm rfl rfl <| S_off rfl rfl rfl rfl rfl <| S_off rfl rfl rfl rfl rfl <| S_off rfl rfl rfl rfl rfl <| sp rfl (p_pick_f rfl rfl) ?_
         refine sm rfl rfl <| S_off rfl rfl rfl rfl rfl <| S_off rfl rfl rfl rfl rfl <| S_off rfl rfl rfl rfl rfl <| sp rfl (p_pick_f rfl rfl) <| sq <| C_false rfl <| J_skip ?_
         refine qx <| fa rfl rfl fa40_1 <| L_val rfl (v_load rfl ty3 HS (by exact rfl)) ?_
         refine fa rfl rfl fa40_1 <| L_val rfl (v_load rfl ty3 HS (by exact rfl)) ?_
         refine L_pur rfl (p_eql rfl rfl) <| mv rfl rfl <| J_bool (t := 167) (c := false) rfl (by simpa using h132) <| L_op <| G_off rfl rfl rfl rfl rfl rfl <| L_op <| G_off rfl rfl rfl rfl rfl rfl <| L_op <| G_off rfl rfl rfl rfl rfl rfl ?_
         refine L_op <| G_off rfl rfl rfl rfl rfl rfl <| L_op <| G_off rfl rfl rfl rfl rfl rfl <| L_pur rfl (p_pick_f rfl rfl) <| nq <| C_false rfl <| J_skip ?_
         refine Q_blk_normal <| qr <| mv rfl rfl <| L_pur rfl (p_add64 rfl rfl (by omega)) <| ag rfl rfl <| nq ?_
         exact J_again (k + 1) (by omega) (by omega) SU KE
       ·
        refine x_alloc ty40 rfl fun b13 => i1 6 rfl <| x_call Tryz.func15 nm15 bd15 (.cons rfl (.cons rfl .nil)) rfl (coSlGet (s := K) (a := d) PC) fun _ => ?_
        refine ip 7 rfl rfl rfl rfl (p_move rfl) <| ip 8 rfl rfl rfl rfl (p_extract rfl rfl) <| ip 9 rfl rfl rfl rfl (p_extract rfl rfl) <| i1 11 rfl <| x_store rfl rfl ty40 rfl SM SM RO PT ?_
        refine J_pick (A := blk b13 _ _) PC ?_
        refine J_asTo (B := blk b13 40 (encC ((look K.sl d).getD s0).1)) (by rfl) <| ip 12 rfl rfl rfl rfl (p_assign rfl) <| i0 <| Q_then <| J_seq <| J_seq <| J_drawS mixed (by kernel_rfl) <| sp rfl (p_fieldAddr rfl fa40_1) ?_
        refine S_val rfl (v_load rfl ty3 HS (by exact rfl)) ?_
        refine sp rfl (p_fieldAddr rfl fa40_1) <| S_val rfl (v_load rfl ty3 HS (by exact rfl)) ?_
        refine sp rfl (p_eql rfl rfl) <| sm rfl rfl ?_
        refine J_gsplit (t := 132) rfl (fun h132 => ?_) (fun h132 => ?_)
        ·
         have h132a : ((look K.sl c).getD s0).1.obj = ((look K.sl d).getD s0).1.obj := by simpa using h132
         obtain ⟨hk1, hk2⟩ := hap h132a
         refine S_on rfl rfl rfl rfl (Pur.vl (p_fieldAddr rfl fa40_0)) <| S_on rfl rfl rfl rfl (v_load rfl ty3 HS (by exact rfl)) ?_
         refine S_on rfl rfl rfl rfl (Pur.vl (p_fieldAddr rfl fa40_0)) <| S_on rfl rfl rfl rfl (v_load rfl ty3 HS (by exact rfl)) ?_
         refine S_on rfl rfl rfl rfl (Pur.vl (p_eql rfl rfl)) <| sp rfl (p_pick_t rfl rfl) <| sm rfl rfl <| J_bool (t := 139) (c := true) rfl (by simp [hk1]) <| S_on rfl rfl rfl rfl (Pur.vl (p_move rfl)) <| S_on rfl rfl rfl rfl (Pur.vl (p_move rfl)) <| S_on rfl rfl rfl rfl (Pur.vl (p_indexAddr rfl rfl Tryz.underlying32 ty44 (by omega) (by omega))) <| S_on rfl rfl rfl rfl (Pur.vl (p_fieldAddr rfl fa44_0)) ?_
         refine S_on rfl rfl rfl rfl (v_loadF rfl ty3 HS (by first | (simp only [Int.toNat_natCast, List.getElem?_map, hcc]; rfl) | (simp only [Int.toNat_natCast, List.getElem?_map, hcd]; rfl) | simp | rfl) (by exact rfl)) ?_
         refine S_on rfl rfl rfl rfl (Pur.vl (p_move rfl)) <| S_on rfl rfl rfl rfl (Pur.vl (p_move rfl)) <| S_on rfl rfl rfl rfl (Pur.vl (p_indexAddr rfl rfl Tryz.underlying32 ty44 (by omega) (by omega))) <| S_on rfl rfl rfl rfl (Pur.vl (p_fieldAddr rfl fa44_0)) ?_
         refine S_on rfl rfl rfl rfl (v_loadF rfl ty3 HS (by first | (simp only [Int.toNat_natCast, List.getElem?_map, hcc]; rfl) | (simp only [Int.toNat_natCast, List.getElem?_map, hcd]; rfl) | simp | rfl) (by exact rfl)) ?_
         refine S_on rfl rfl rfl rfl (Pur.vl (p_neq rfl rfl)) <| sp rfl (p_pick_t rfl rfl) <| sm rfl rfl ?_
         refine J_gsplit (t := 152) rfl (fun h152 => ?_) (fun h152 => ?_)
         ·
          refine S_on rfl rfl rfl rfl (Pur.vl (p_fieldAddr rfl fa40_0)) <| S_on rfl rfl rfl rfl (v_load rfl ty3 HS (by exact rfl)) ?_
          refine S_on rfl rfl rfl rfl (Pur.vl (p_neq rfl rfl)) <| sp rfl (p_pick_t rfl rfl) <| sm rfl rfl ?_
          refine J_gsplit (t := 157) rfl (fun h157 => ?_) (fun h157 => ?_)
          ·
           refine S_on rfl rfl rfl rfl (Pur.vl (p_fieldAddr rfl fa40_0)) <| S_on rfl rfl rfl rfl (v_load rfl ty3 HS (by exact rfl)) ?_
           refine S_on rfl rfl rfl rfl (Pur.vl (p_neq rfl rfl)) <| sp rfl (p_pick_t rfl rfl) <| sq <| J_bool (t := 161) (c := false) rfl (by simp at h152 h157 ⊢; rcases hk2 with h | h | h <;> simp_all) <| C_false rfl <| J_skip <| qx <| fa rfl rfl fa40_1 ?_
           refine L_val rfl (v_load rfl ty3 HS (by exact rfl)) ?_
           refine fa rfl rfl fa40_1 <| L_val rfl (v_load rfl ty3 HS (by exact rfl)) ?_
           refine L_pur rfl (p_eql rfl rfl) <| mv rfl rfl <| J_bool (t := 167) (c := true) rfl (by simpa using h132) <| L_op <| G_on rfl rfl rfl <| J_pur (p_fieldAddr rfl fa40_0) rfl rfl rfl <| L_op <| G_on rfl rfl rfl ?_
           refine J_val (v_load rfl ty3 HS (by exact rfl)) rfl rfl rfl ?_
           refine L_op <| G_on rfl rfl rfl <| J_pur (p_fieldAddr rfl fa40_0) rfl rfl rfl <| L_op <| G_on rfl rfl rfl <| J_val (v_load rfl ty3 HS (by exact rfl)) rfl rfl rfl ?_
           refine L_op <| G_on rfl rfl rfl <| J_pur (p_neq rfl rfl) rfl rfl rfl <| L_pur rfl (p_pick_t rfl rfl) <| nq <| J_bool (t := 173) (c := false) rfl (by simp [hk1]) <| C_false rfl <| J_skip ?_
           refine Q_blk_normal <| qr <| mv rfl rfl <| L_pur rfl (p_add64 rfl rfl (by omega)) <| ag rfl rfl <| nq ?_
           exact J_again (k + 1) (by omega) (by omega) SU KE
          ·
           refine S_off rfl rfl rfl rfl rfl <| S_off rfl rfl rfl rfl rfl <| S_off rfl rfl rfl rfl rfl <| sp rfl (p_pick_f rfl rfl) <| sq <| C_false rfl <| J_skip <| qx ?_
           refine fa rfl rfl fa40_1 <| L_val rfl (v_load rfl ty3 HS (by exact rfl)) ?_
           refine fa rfl rfl fa40_1 <| L_val rfl (v_load rfl ty3 HS (by exact rfl)) ?_
           refine L_pur rfl (p_eql rfl rfl) <| mv rfl rfl <| J_bool (t := 167) (c := true) rfl (by simpa using h132) <| L_op <| G_on rfl rfl rfl <| J_pur (p_fieldAddr rfl fa40_0) rfl rfl rfl <| L_op <| G_on rfl rfl rfl ?_
           refine J_val (v_load rfl ty3 HS (by exact rfl)) rfl rfl rfl ?_
           refine L_op <| G_on rfl rfl rfl <| J_pur (p_fieldAddr rfl fa40_0) rfl rfl rfl <| L_op <| G_on rfl rfl rfl <| J_val (v_load rfl ty3 HS (by exact rfl)) rfl rfl rfl ?_
           refine L_op <| G_on rfl rfl rfl <| J_pur (p_neq rfl rfl) rfl rfl rfl <| L_pur rfl (p_pick_t rfl rfl) <| nq <| J_bool (t := 173) (c := false) rfl (by simp [hk1]) <| C_false rfl <| J_skip ?_
           refine Q_blk_normal <| qr <| mv rfl rfl <| L_pur rfl (p_add64 rfl rfl (by omega)) <| ag rfl rfl <| nq ?_
           exact J_again (k + 1) (by omega) (by omega) SU KE
         ·
          refine S_off rfl rfl rfl rfl rfl <| S_off rfl rfl rfl rfl rfl <| S_off rfl rfl rfl rfl rfl <| sp rfl (p_pick_f rfl rfl) <| sm rfl rfl <| S_off rfl rfl rfl rfl rfl <| S_off rfl rfl rfl rfl rfl <| S_off rfl rfl rfl rfl rfl ?_
          refine sp rfl (p_pick_f rfl rfl) <| sq <| C_false rfl <| J_skip <| qx <| fa rfl rfl fa40_1 <| L_val rfl (v_load rfl ty3 HS (by exact rfl)) ?_
          refine fa rfl rfl fa40_1 <| L_val rfl (v_load rfl ty3 HS (by exact rfl)) ?_
          refine L_pur rfl (p_eql rfl rfl) <| mv rfl rfl <| J_bool (t := 167) (c := true) rfl (by simpa using h132) <| L_op <| G_on rfl rfl rfl <| J_pur (p_fieldAddr rfl fa40_0) rfl rfl rfl <| L_op <| G_on rfl rfl rfl ?_
          refine J_val (v_load rfl ty3 HS (by exact rfl)) rfl rfl rfl ?_
          refine L_op <| G_on rfl rfl rfl <| J_pur (p_fieldAddr rfl fa40_0) rfl rfl rfl <| L_op <| G_on rfl rfl rfl <| J_val (v_load rfl ty3 HS (by exact rfl)) rfl rfl rfl ?_
          refine L_op <| G_on rfl rfl rfl <| J_pur (p_neq rfl rfl) rfl rfl rfl <| L_pur rfl (p_pick_t rfl rfl) <| nq <| J_bool (t := 173) (c := false) rfl (by simp [hk1]) <| C_false rfl <| J_skip ?_
          refine Q_blk_normal <| qr <| mv rfl rfl <| L_pur rfl (p_add64 rfl rfl (by omega)) <| ag rfl rfl <| nq ?_
          exact J_again (k + 1) (by omega) (by omega) SU KE
        ·
         refine S_off rfl rfl rfl rfl rfl <| S_off rfl rfl rfl rfl rfl <| S_off rfl rfl rfl rfl rfl <| S_off rfl rfl rfl rfl rfl <| S_off rfl rfl rfl rfl rfl <| sp rfl (p_pick_f rfl rfl) <| sm rfl rfl <| S_off rfl rfl rfl rfl rfl ?_
         refine S_off rfl rfl rfl rfl rfl <| S_off rfl rfl rfl rfl rfl <| S_off rfl rfl rfl rfl rfl <| S_off rfl rfl rfl rfl rfl <| S_off rfl rfl rfl rfl rfl <| S_off rfl rfl rfl rfl rfl <| S_off rfl rfl rfl rfl rfl <| S_off rfl rfl rfl rfl rfl ?_
         refine S_off rfl rfl rfl rfl rfl <| S_off rfl rfl rfl rfl rfl <| sp rfl (p_pick_f rfl rfl) <| sm rfl rfl <| S_off rfl rfl rfl rfl rfl <| S_off rfl rfl rfl rfl rfl <| S_off rfl rfl rfl rfl rfl <| sp rfl (p_pick_f rfl rfl) ?_
         refine sm rfl rfl <| S_off rfl rfl rfl rfl rfl <| S_off rfl rfl rfl rfl rfl <| S_off rfl rfl rfl rfl rfl <| sp rfl (p_pick_f rfl rfl) <| sq <| C_false rfl <| J_skip ?_
         refine qx <| fa rfl rfl fa40_1 <| L_val rfl (v_load rfl ty3 HS (by exact rfl)) ?_
         refine fa rfl rfl fa40_1 <| L_val rfl (v_load rfl ty3 HS (by exact rfl)) ?_
         refine L_pur rfl (p_eql rfl rfl) <| mv rfl rfl <| J_bool (t := 167) (c := false) rfl (by simpa using h132) <| L_op <| G_off rfl rfl rfl rfl rfl rfl <| L_op <| G_off rfl rfl rfl rfl rfl rfl <| L_op <| G_off rfl rfl rfl rfl rfl rfl ?_
         refine L_op <| G_off rfl rfl rfl rfl rfl rfl <| L_op <| G_off rfl rfl rfl rfl rfl rfl <| L_pur rfl (p_pick_f rfl rfl) <| nq <| C_false rfl <| J_skip ?_
         refine Q_blk_normal <| qr <| mv rfl rfl <| L_pur rfl (p_add64 rfl rfl (by omega)) <| ag rfl rfl <| nq ?_
         exact J_again (k + 1) (by omega) (by omega) SU KE
      ·
       refine x_alloc ty40 rfl fun b13 => i1 1 rfl <| x_call Tryz.func9 nm9 bd9 (.cons rfl .nil) rfl (coSlots) fun _ => i1 6 rfl <| x_call Tryz.func15 nm15 bd15 (.cons rfl (.cons rfl .nil)) rfl (coSlGet (s := K) (a := d) PC) fun _ => ?_
       refine ip 7 rfl rfl rfl rfl (p_move rfl) <| ip 8 rfl rfl rfl rfl (p_extract rfl rfl) <| ip 9 rfl rfl rfl rfl (p_extract rfl rfl) <| i1 11 rfl <| x_store rfl rfl ty40 rfl SM SM RO PT ?_
       refine J_pick (A := blk b13 _ _) PC ?_
       refine J_asTo (B := blk b13 40 (encC ((look K.sl d).getD s0).1)) (by rfl) <| ip 12 rfl rfl rfl rfl (p_assign rfl) <| i0 <| Q_then <| J_seq <| J_seq <| J_drawS mixed (by kernel_rfl) <| sp rfl (p_fieldAddr rfl fa40_1) ?_
       refine S_val rfl (v_load rfl ty3 HS (by exact rfl)) ?_
       refine sp rfl (p_fieldAddr rfl fa40_1) <| S_val rfl (v_load rfl ty3 HS (by exact rfl)) ?_
       refine sp rfl (p_eql rfl rfl) <| sm rfl rfl ?_
       refine J_gsplit (t := 132) rfl (fun h132 => ?_) (fun h132 => ?_)
       ·
        have h132a : ((look K.sl c).getD s0).1.obj = ((look K.sl d).getD s0).1.obj := by simpa using h132
        obtain ⟨hk1, hk2⟩ := hap h132a
        refine S_on rfl rfl rfl rfl (Pur.vl (p_fieldAddr rfl fa40_0)) <| S_on rfl rfl rfl rfl (v_load rfl ty3 HS (by exact rfl)) ?_
        refine S_on rfl rfl rfl rfl (Pur.vl (p_fieldAddr rfl fa40_0)) <| S_on rfl rfl rfl rfl (v_load rfl ty3 HS (by exact rfl)) ?_
        refine S_on rfl rfl rfl rfl (Pur.vl (p_eql rfl rfl)) <| sp rfl (p_pick_t rfl rfl) <| sm rfl rfl <| J_bool (t := 139) (c := true) rfl (by simp [hk1]) <| S_on rfl rfl rfl rfl (Pur.vl (p_move rfl)) <| S_on rfl rfl rfl rfl (Pur.vl (p_move rfl)) <| S_on rfl rfl rfl rfl (Pur.vl (p_indexAddr rfl rfl Tryz.underlying32 ty44 (by omega) (by omega))) <| S_on rfl rfl rfl rfl (Pur.vl (p_fieldAddr rfl fa44_0)) ?_
        refine S_on rfl rfl rfl rfl (v_loadF rfl ty3 HS (by first | (simp only [Int.toNat_natCast, List.getElem?_map, hcc]; rfl) | (simp only [Int.toNat_natCast, List.getElem?_map, hcd]; rfl) | simp | rfl) (by exact rfl)) ?_
        refine S_on rfl rfl rfl rfl (Pur.vl (p_move rfl)) <| S_on rfl rfl rfl rfl (Pur.vl (p_move rfl)) <| S_on rfl rfl rfl rfl (Pur.vl (p_indexAddr rfl rfl Tryz.underlying32 ty44 (by omega) (by omega))) <| S_on rfl rfl rfl rfl (Pur.vl (p_fieldAddr rfl fa44_0)) ?_
        refine S_on rfl rfl rfl rfl (v_loadF rfl ty3 HS (by first | (simp only [Int.toNat_natCast, List.getElem?_map, hcc]; rfl) | (simp only [Int.toNat_natCast, List.getElem?_map, hcd]; rfl) | simp | rfl) (by exact rfl)) ?_
        refine S_on rfl rfl rfl rfl (Pur.vl (p_neq rfl rfl)) <| sp rfl (p_pick_t rfl rfl) <| sm rfl rfl ?_
        refine J_gsplit (t := 152) rfl (fun h152 => ?_) (fun h152 => ?_)
        ·
         refine S_on rfl rfl rfl rfl (Pur.vl (p_fieldAddr rfl fa40_0)) <| S_on rfl rfl rfl rfl (v_load rfl ty3 HS (by exact rfl)) ?_
         refine S_on rfl rfl rfl rfl (Pur.vl (p_neq rfl rfl)) <| sp rfl (p_pick_t rfl rfl) <| sm rfl rfl ?_
         refine J_gsplit (t := 157) rfl (fun h157 => ?_) (fun h157 => ?_)
         ·
          refine S_on rfl rfl rfl rfl (Pur.vl (p_fieldAddr rfl fa40_0)) <| S_on rfl rfl rfl rfl (v_load rfl ty3 HS (by exact rfl)) ?_
          refine S_on rfl rfl rfl rfl (Pur.vl (p_neq rfl rfl)) <| sp rfl (p_pick_t rfl rfl) <| sq <| J_bool (t := 161) (c := false) rfl (by simp at h152 h157 ⊢; rcases hk2 with h | h | h <;> simp_all) <| C_false rfl <| J_skip <| qx <| fa rfl rfl fa40_1 ?_
          refine L_val rfl (v_load rfl ty3 HS (by exact rfl)) ?_
          refine fa rfl rfl fa40_1 <| L_val rfl (v_load rfl ty3 HS (by exact rfl)) ?_
          refine L_pur rfl (p_eql rfl rfl) <| mv rfl rfl <| J_bool (t := 167) (c := true) rfl (by simpa using h132) <| L_op <| G_on rfl rfl rfl <| J_pur (p_fieldAddr rfl fa40_0) rfl rfl rfl <| L_op <| G_on rfl rfl rfl ?_
          refine J_val (v_load rfl ty3 HS (by exact rfl)) rfl rfl rfl ?_
          refine L_op <| G_on rfl rfl rfl <| J_pur (p_fieldAddr rfl fa40_0) rfl rfl rfl <| L_op <| G_on rfl rfl rfl <| J_val (v_load rfl ty3 HS (by exact rfl)) rfl rfl rfl ?_
          refine L_op <| G_on rfl rfl rfl <| J_pur (p_neq rfl rfl) rfl rfl rfl <| L_pur rfl (p_pick_t rfl rfl) <| nq <| J_bool (t := 173) (c := false) rfl (by simp [hk1]) <| C_false rfl <| J_skip ?_
          refine Q_blk_normal <| qr <| mv rfl rfl <| L_pur rfl (p_add64 rfl rfl (by omega)) <| ag rfl rfl <| nq ?_
          exact J_again (k + 1) (by omega) (by omega) SU KE
         ·
          refine S_off rfl rfl rfl rfl rfl <| S_off rfl rfl rfl rfl rfl <| S_off rfl rfl rfl rfl rfl <| sp rfl (p_pick_f rfl rfl) <| sq <| C_false rfl <| J_skip <| qx ?_
          refine fa rfl rfl fa40_1 <| L_val rfl (v_load rfl ty3 HS (by exact rfl)) ?_
          refine fa rfl rfl fa40_1 <| L_val rfl (v_load rfl ty3 HS (by exact rfl)) ?_
          refine L_pur rfl (p_eql rfl rfl) <| mv rfl rfl <| J_bool (t := 167) (c := true) rfl (by simpa using h132) <| L_op <| G_on rfl rfl rfl <| J_pur (p_fieldAddr rfl fa40_0) rfl rfl rfl <| L_op <| G_on rfl rfl rfl ?_
          refine J_val (v_load rfl ty3 HS (by exact rfl)) rfl rfl rfl ?_
          refine L_op <| G_on rfl rfl rfl <| J_pur (p_fieldAddr rfl fa40_0) rfl rfl rfl <| L_op <| G_on rfl rfl rfl <| J_val (v_load rfl ty3 HS (by exact rfl)) rfl rfl rfl ?_
          refine L_op <| G_on rfl rfl rfl <| J_pur (p_neq rfl rfl) rfl rfl rfl <| L_pur rfl (p_pick_t rfl rfl) <| nq <| J_bool (t := 173) (c := false) rfl (by simp [hk1]) <| C_false rfl <| J_skip ?_
          refine Q_blk_normal <| qr <| mv rfl rfl <| L_pur rfl (p_add64 rfl rfl (by omega)) <| ag rfl rfl <| nq ?_
          exact J_again (k + 1) (by omega) (by omega) SU KE
        ·
         refine S_off rfl rfl rfl rfl rfl <| S_off rfl rfl rfl rfl rfl <| S_off rfl rfl rfl rfl rfl <| sp rfl (p_pick_f rfl rfl) <| sm rfl rfl <| S_off rfl rfl rfl rfl rfl <| S_off rfl rfl rfl rfl rfl <| S_off rfl rfl rfl rfl rfl ?_
         refine sp rfl (p_pick_f rfl rfl) <| sq <| C_false rfl <| J_skip <| qx <| fa rfl rfl fa40_1 <| L_val rfl (v_load rfl ty3 HS (by exact rfl)) ?_
         refine fa rfl rfl fa40_1 <| L_val rfl (v_load rfl ty3 HS (by exact rfl)) ?_
         refine L_pur rfl (p_eql rfl rfl) <| mv rfl rfl <| J_bool (t := 167) (c := true) rfl (by simpa using h132) <| L_op <| G_on rfl rfl rfl <| J_pur (p_fieldAddr rfl fa40_0) rfl rfl rfl <| L_op <| G_on rfl rfl rfl ?_
         refine J_val (v_load rfl ty3 HS (by exact rfl)) rfl rfl rfl ?_
         refine L_op <| G_on rfl rfl rfl <| J_pur (p_fieldAddr rfl fa40_0) rfl rfl rfl <| L_op <| G_on rfl rfl rfl <| J_val (v_load rfl ty3 HS (by exact rfl)) rfl rfl rfl ?_
         refine L_op <| G_on rfl rfl rfl <| J_pur (p_neq rfl rfl) rfl rfl rfl <| L_pur rfl (p_pick_t rfl rfl) <| nq <| J_bool (t := 173) (c := false) rfl (by simp [hk1]) <| C_false rfl <| J_skip ?_
         refine Q_blk_normal <| qr <| mv rfl rfl <| L_pur rfl (p_add64 rfl rfl (by omega)) <| ag rfl rfl <| nq ?_
         exact J_again (k + 1) (by omega) (by omega) SU KE
       ·
        refine S_off rfl rfl rfl rfl rfl <| S_off rfl rfl rfl rfl rfl <| S_off rfl rfl rfl rfl rfl <| S_off rfl rfl rfl rfl rfl <| S_off rfl rfl rfl rfl rfl <| sp rfl (p_pick_f rfl rfl) <| sm rfl rfl <| S_off rfl rfl rfl rfl rfl ?_
        refine S_off rfl rfl rfl rfl rfl <| S_off rfl rfl rfl rfl rfl <| S_off rfl rfl rfl rfl rfl <| S_off rfl rfl rfl rfl rfl <| S_off rfl rfl rfl rfl rfl <| S_off rfl rfl rfl rfl rfl <| S_off rfl rfl rfl rfl rfl <| S_off rfl rfl rfl rfl rfl ?_
        refine S_off rfl rfl rfl rfl rfl <| S_off rfl rfl rfl rfl rfl <| sp rfl (p_pick_f rfl rfl) <| sm rfl rfl <| S_off rfl rfl rfl rfl rfl <| S_off rfl rfl rfl rfl rfl <| S_off rfl rfl rfl rfl rfl <| sp rfl (p_pick_f rfl rfl) ?_
        refine sm rfl rfl <| S_off rfl rfl rfl rfl rfl <| S_off rfl rfl rfl rfl rfl <| S_off rfl rfl rfl rfl rfl <| sp rfl (p_pick_f rfl rfl) <| sq <| C_false rfl <| J_skip ?_
        refine qx <| fa rfl rfl fa40_1 <| L_val rfl (v_load rfl ty3 HS (by exact rfl)) ?_
        refine fa rfl rfl fa40_1 <| L_val rfl (v_load rfl ty3 HS (by exact rfl)) ?_
        refine L_pur rfl (p_eql rfl rfl) <| mv rfl rfl <| J_bool (t := 167) (c := false) rfl (by simpa using h132) <| L_op <| G_off rfl rfl rfl rfl rfl rfl <| L_op <| G_off rfl rfl rfl rfl rfl rfl <| L_op <| G_off rfl rfl rfl rfl rfl rfl ?_
        refine L_op <| G_off rfl rfl rfl rfl rfl rfl <| L_op <| G_off rfl rfl rfl rfl rfl rfl <| L_pur rfl (p_pick_f rfl rfl) <| nq <| C_false rfl <| J_skip ?_
        refine Q_blk_normal <| qr <| mv rfl rfl <| L_pur rfl (p_add64 rfl rfl (by omega)) <| ag rfl rfl <| nq ?_
        exact J_again (k + 1) (by omega) (by omega) SU KE
     ·
      refine J_exit <| Q_then_exit <| Q_then_exit <| Q_blk_this <| Q_blk_normal <| qr <| mv rfl rfl <| L_pur rfl (p_add64 rfl rfl (by omega)) ?_
      refine ag rfl rfl <| nq ?_
      exact J_again (i + 1) (by omega) (by omega) SU KE
   ·
    refine J_exit <| Q_then_exit <| Q_then_exit <| Q_blk_this <| Q_then <| J_seq <| sr <| ag rfl rfl ?_
    refine nq <| J_block <| J_loop (α := Nat) (fun i => i ≤ TS.length) (fun _ => [row 3 1 (.slice a50 (TS.map encN).length c50) (TS.map encN), coA g.p K, old W]) (fun i => [(15, .int .i64 (i : Int)), (8, .slice a50 (TS.map encN).length c50), (5, .pointer (some ⟨g.p, 0, none⟩)), (3, .bool true)]) (fun i => TS.length - i) 0 (by omega) SU KE ?_
    intro i hi
    refine J_seq <| sr <| mv rfl rfl <| mv rfl rfl <| L_pur rfl (p_len rfl Tryz.underlying22) <| L_pur rfl (p_lss rfl rfl) <| nq ?_
    refine C_dec rfl (fun h177 => ?_) (fun h177 => ?_)
    ·
     have hlt : i < TS.length := by omega
     obtain ⟨bx, ox, rfl⟩ := hz50 (by intro h; rw [h] at hmT; simp at hmT; omega)
     obtain ⟨c, hcc⟩ : ∃ c, TS[i]? = some c := ⟨_, List.getElem?_eq_getElem hlt⟩
     obtain ⟨T, hT, hq1, hq2, hm0, hm1, hrj, hun⟩ := hB.thr c (hTm c (List.mem_of_getElem? hcc))
     obtain ⟨n, bR, r, hlr, hgr, hr1, hr2⟩ := ring_at hrg hrj
     refine J_skip <| Q_then <| J_seq <| J_block <| sr <| mv rfl rfl <| mv rfl rfl <| mv rfl rfl ?_
     refine L_pur rfl (p_indexAddr rfl rfl Tryz.underlying22 ty3 (by omega) (by omega)) ?_
     refine L_val rfl (v_loadE1 rfl ty3 HS (by first | (simp only [Int.toNat_natCast, List.getElem?_map, hcc]; rfl) | (simp only [Int.toNat_natCast, List.getElem?_map, hcd]; rfl) | simp | rfl)) ?_
     refine L_op <| x_call Tryz.func17 nm17 bd17 (.cons rfl (.cons rfl .nil)) rfl (coThr (s := K) (u := c) PC) fun _ => ?_
     refine J_slot (t := 186) (v := .tuple #[evT T, .bool true]) rfl (by rw [hT]; rfl) <| mv rfl rfl <| L_pur rfl (p_extract rfl rfl) <| L_pur rfl (p_extract rfl rfl) <| L_op <| x_alloc ty47 rfl fun b16 => L_op <| x_store rfl rfl ty47 rfl SM SM RO PT ?_
     refine ag rfl rfl <| nq <| J_seq <| J_drawL none mixed <| ip 0 rfl rfl rfl rfl (p_move rfl) <| ip 2 rfl rfl rfl rfl (p_move rfl) <| ip 3 rfl rfl rfl rfl (p_move rfl) <| ip 4 rfl rfl rfl rfl (p_indexAddr rfl rfl Tryz.underlying22 ty3 (by omega) (by omega)) ?_
     refine I_take (i := 5) rfl rfl rfl rfl (by kernel_rfl) (fun _ _ _ _ h => h) (fun _ => v_loadE1 rfl ty3 HS (by first | (simp only [Int.toNat_natCast, List.getElem?_map, hcc]; rfl) | (simp only [Int.toNat_natCast, List.getElem?_map, hcd]; rfl) | simp | rfl)) ?_
     refine i1 1 rfl <| x_call Tryz.func13 nm13 bd13 (.cons rfl .nil) rfl (coQueue) fun _ => i1 6 rfl <| x_call Tryz.func18 nm18 bd18 (.cons rfl (.cons rfl .nil)) rfl (coPrio (s := K) (i := c) PC hql) fun _ => ?_
     refine J_slot (t := 196) (v := .tuple #[.int .i64 4, .bool true]) rfl (by rw [hq1, hq2]; rfl) <| ip 7 rfl rfl rfl rfl (p_move rfl) <| ip 8 rfl rfl rfl rfl (p_extract rfl rfl) <| ip 9 rfl rfl rfl rfl (p_extract rfl rfl) <| ip 10 rfl rfl rfl rfl (p_assign rfl) <| ip 11 rfl rfl rfl rfl (p_assign rfl) <| i0 <| qx ?_
     refine mv rfl rfl <| fa rfl rfl fa47_2 <| L_val rfl (v_load rfl ty3 HS (by exact rfl)) ?_
     refine L_op <| x_call Tryz.func19 nm19 bd19 (.cons rfl (.cons rfl .nil)) rfl (coRing (s := K) (u := T.ring) PC) fun _ => ?_
     refine J_slot (t := 202) (v := .pointer (some ⟨bR, 0, none⟩)) rfl (by rw [hlr]; rfl) <| ag rfl rfl <| nxx <| mv rfl rfl <| L_pur rfl (p_not rfl) <| mv rfl rfl <| J_bool (t := 205) (c := false) rfl (rfl) <| L_op <| G_on rfl rfl rfl ?_
     refine J_pur (p_move rfl) rfl rfl rfl <| L_op <| G_on rfl rfl rfl <| J_pur (p_not rfl) rfl rfl rfl <| L_pur rfl (p_pick_f rfl rfl) <| mv rfl rfl <| J_bool (t := 209) (c := false) rfl (rfl) <| L_op <| G_on rfl rfl rfl ?_
     refine J_pur (p_move rfl) rfl rfl rfl <| L_op <| G_on rfl rfl rfl <| J_pur (p_neq rfl rfl) rfl rfl rfl <| L_pur rfl (p_pick_f rfl rfl) <| mv rfl rfl <| J_bool (t := 213) (c := false) rfl (rfl) <| L_op <| G_on rfl rfl rfl ?_
     refine J_pur (p_move rfl) rfl rfl rfl <| L_op <| G_on rfl rfl rfl <| J_pur (p_eqNilPtr Tryz.underlying52 rfl) rfl rfl rfl <| L_pur rfl (p_pick_f rfl rfl) <| nq <| J_bool (t := 216) (c := false) rfl (rfl) <| C_false rfl ?_
     refine J_skip <| qx <| mv rfl rfl <| L_op <| x_call Tryz.func20 nm20 bd20 (.cons rfl .nil) rfl (coUnits (s := K) PC hgr) fun _ => ?_
     refine J_slot (t := 219) (v := .tuple #[.int .i64 (T.ring + 1), .int .i64 (T.ring + 2)]) rfl (by rw [hr1, hr2]) <| mv rfl rfl <| L_pur rfl (p_extract rfl rfl) <| L_pur rfl (p_extract rfl rfl) <| ag rfl rfl <| ag rfl rfl <| nq <| J_seq ?_
     refine J_drawL none mixed <| ip 0 rfl rfl rfl rfl (p_move rfl) <| ip 2 rfl rfl rfl rfl (p_fieldAddr rfl fa47_1) <| iv 3 rfl rfl rfl rfl (fun _ => v_load rfl ty3 HS (by exact rfl)) ?_
     refine ip 4 rfl rfl rfl rfl (bld63 (.cons rfl (.cons rfl .nil)) (by repeat constructor)) <| J_slot (t := 227) (v := .agg (encI (T.space, 0)).toArray) rfl rfl <| I_ready (rs := [1, 9]) SI (by kernel_rfl) (by simp) ?_
     refine (I_cons rfl ?_ (I_cons rfl ?_ I_nil))
     ·
      refine x_call Tryz.func21 nm21 bd21 (.cons rfl .nil) rfl (coMaps) fun _ => I_ready (rs := [5, 9]) SI (by kernel_rfl) (by simp) ?_
      refine (I_cons rfl ?_ (I_cons rfl ?_ I_nil))
      ·
       refine x_call Tryz.func22 nm22 bd22 (.cons rfl (.cons rfl .nil)) rfl (coSpGet (s := K) (a := (T.space, 0)) PC) fun _ => ?_
       refine J_slot (t := 228) (v := .tuple #[kI (T.ring + 1, 3), .bool true]) rfl (by rw [hm0]; rfl) <| ip 6 rfl rfl rfl rfl (p_move rfl) <| ip 7 rfl rfl rfl rfl (p_extract rfl rfl) <| ip 8 rfl rfl rfl rfl (p_extract rfl rfl) <| i1 9 rfl <| x_alloc ty57 rfl fun b23 => i1 10 rfl <| x_store rfl rfl ty57 rfl SM SM RO PT ?_
       refine ip 11 rfl rfl rfl rfl (p_assign rfl) <| i0 <| Q_then <| J_seq <| J_drawL none mixed <| ip 0 rfl rfl rfl rfl (p_move rfl) <| ip 2 rfl rfl rfl rfl (p_fieldAddr rfl fa47_1) <| iv 3 rfl rfl rfl rfl (fun _ => v_load rfl ty3 HS (by exact rfl)) ?_
       refine ip 4 rfl rfl rfl rfl (bld63 (.cons rfl (.cons rfl .nil)) (by repeat constructor)) <| J_slot (t := 236) (v := .agg (encI (T.space, 1)).toArray) rfl rfl <| I_ready (rs := [1, 9]) SI (by kernel_rfl) (by simp) ?_
       refine (I_cons rfl ?_ (I_cons rfl ?_ I_nil))
       ·
        refine x_call Tryz.func21 nm21 bd21 (.cons rfl .nil) rfl (coMaps) fun _ => I_ready (rs := [5, 9]) SI (by kernel_rfl) (by simp) ?_
        refine (I_cons rfl ?_ (I_cons rfl ?_ I_nil))
        ·
         refine x_call Tryz.func22 nm22 bd22 (.cons rfl (.cons rfl .nil)) rfl (coSpGet (s := K) (a := (T.space, 1)) PC) fun _ => ?_
         refine J_slot (t := 237) (v := .tuple #[kI (T.ring + 2, 3), .bool true]) rfl (by rw [hm1]; rfl) <| ip 6 rfl rfl rfl rfl (p_move rfl) <| ip 7 rfl rfl rfl rfl (p_extract rfl rfl) <| ip 8 rfl rfl rfl rfl (p_extract rfl rfl) <| i1 9 rfl <| x_alloc ty57 rfl fun b25 => i1 10 rfl <| x_store rfl rfl ty57 rfl SM SM RO PT ?_
         refine ip 11 rfl rfl rfl rfl (p_assign rfl) <| i0 <| Q_then <| J_seq <| sr <| mv rfl rfl <| L_pur rfl (p_not rfl) <| mv rfl rfl ?_
         refine J_bool (t := 242) (c := false) rfl (rfl) <| L_op <| G_on rfl rfl rfl <| J_pur (p_move rfl) rfl rfl rfl <| L_op <| G_on rfl rfl rfl <| J_pur (p_not rfl) rfl rfl rfl <| L_pur rfl (p_pick_f rfl rfl) ?_
         refine mv rfl rfl <| J_bool (t := 246) (c := false) rfl (rfl) <| L_op <| G_on rfl rfl rfl <| J_val (v_loadA rfl ty57 HS CT) rfl rfl rfl ?_
         refine L_op <| G_on rfl rfl rfl <| J_pur (p_move rfl) rfl rfl rfl <| L_op <| G_on rfl rfl rfl <| J_pur (bld57 (.cons rfl (.cons rfl .nil)) (by repeat constructor)) rfl rfl rfl <| L_op <| G_on rfl rfl rfl ?_
         refine J_pur (p_nev rfl rfl (fun w => eg57 _ _ _ _ _ w) (fun w => nev57 _ _ _ _ w)) rfl rfl rfl <| L_pur rfl (p_pick_f rfl rfl) <| mv rfl rfl <| J_bool (t := 252) (c := false) rfl (by simp) <| L_op <| G_on rfl rfl rfl <| J_val (v_loadA rfl ty57 HS CT) rfl rfl rfl ?_
         refine L_op <| G_on rfl rfl rfl <| J_pur (p_move rfl) rfl rfl rfl <| L_op <| G_on rfl rfl rfl <| J_pur (bld57 (.cons rfl (.cons rfl .nil)) (by repeat constructor)) rfl rfl rfl <| L_op <| G_on rfl rfl rfl ?_
         refine J_pur (p_nev rfl rfl (fun w => eg57 _ _ _ _ _ w) (fun w => nev57 _ _ _ _ w)) rfl rfl rfl <| L_pur rfl (p_pick_f rfl rfl) <| nq <| J_bool (t := 257) (c := false) rfl (by simp) <| C_false rfl <| J_skip <| qx <| mv rfl rfl ?_
         refine fa rfl rfl fa47_2 <| L_val rfl (v_load rfl ty3 HS (by exact rfl)) ?_
         refine L_op <| x_call Tryz.func23 nm23 bd23 (.cons rfl (.cons rfl .nil)) rfl (coOwner (s := K) (r := T.ring) PC) fun x262 => ?_
         refine J_pure fun hown => ?_
         obtain ⟨O, rfl, hOu⟩ := owns_unit hT hun hown
         refine J_slot (t := 262) (v := .tuple #[evT O, .bool true]) rfl rfl <| mv rfl rfl <| L_pur rfl (p_extract rfl rfl) <| L_pur rfl (p_extract rfl rfl) <| L_op <| x_alloc ty47 rfl fun b27 => L_op <| x_store rfl rfl ty47 rfl SM SM RO PT ?_
         refine ag rfl rfl <| nx <| mv rfl rfl <| L_pur rfl (p_not rfl) <| mv rfl rfl <| J_bool (t := 267) (c := false) rfl (rfl) <| L_op <| G_on rfl rfl rfl ?_
         refine J_pur (p_fieldAddr rfl fa47_0) rfl rfl rfl <| L_op <| G_on rfl rfl rfl <| J_val (v_load rfl ty3 HS (by exact rfl)) rfl rfl rfl ?_
         refine L_op <| G_on rfl rfl rfl <| J_pur (p_fieldAddr rfl fa47_0) rfl rfl rfl <| L_op <| G_on rfl rfl rfl <| J_val (v_load rfl ty3 HS (by exact rfl)) rfl rfl rfl ?_
         refine L_op <| G_on rfl rfl rfl <| J_pur (p_neq rfl rfl) rfl rfl rfl <| L_pur rfl (p_pick_f rfl rfl) <| nq <| J_bool (t := 273) (c := false) rfl (by simp [hOu]) <| C_false rfl <| J_skip ?_
         refine Q_blk_normal <| qr <| mv rfl rfl <| L_pur rfl (p_add64 rfl rfl (by omega)) <| ag rfl rfl <| nq ?_
         exact J_again (i + 1) (by omega) (by omega) SU KE
        ·
         refine x_alloc ty57 rfl fun b25 => i1 5 rfl <| x_call Tryz.func22 nm22 bd22 (.cons rfl (.cons rfl .nil)) rfl (coSpGet (s := K) (a := (T.space, 1)) PC) fun _ => ?_
         refine J_slot (t := 237) (v := .tuple #[kI (T.ring + 2, 3), .bool true]) rfl (by rw [hm1]; rfl) <| ip 6 rfl rfl rfl rfl (p_move rfl) <| ip 7 rfl rfl rfl rfl (p_extract rfl rfl) <| ip 8 rfl rfl rfl rfl (p_extract rfl rfl) <| i1 10 rfl <| x_store rfl rfl ty57 rfl SM SM RO PT ?_
         refine ip 11 rfl rfl rfl rfl (p_assign rfl) <| i0 <| Q_then <| J_seq <| sr <| mv rfl rfl <| L_pur rfl (p_not rfl) <| mv rfl rfl ?_
         refine J_bool (t := 242) (c := false) rfl (rfl) <| L_op <| G_on rfl rfl rfl <| J_pur (p_move rfl) rfl rfl rfl <| L_op <| G_on rfl rfl rfl <| J_pur (p_not rfl) rfl rfl rfl <| L_pur rfl (p_pick_f rfl rfl) ?_
         refine mv rfl rfl <| J_bool (t := 246) (c := false) rfl (rfl) <| L_op <| G_on rfl rfl rfl <| J_val (v_loadA rfl ty57 HS CT) rfl rfl rfl ?_
         refine L_op <| G_on rfl rfl rfl <| J_pur (p_move rfl) rfl rfl rfl <| L_op <| G_on rfl rfl rfl <| J_pur (bld57 (.cons rfl (.cons rfl .nil)) (by repeat constructor)) rfl rfl rfl <| L_op <| G_on rfl rfl rfl ?_
         refine J_pur (p_nev rfl rfl (fun w => eg57 _ _ _ _ _ w) (fun w => nev57 _ _ _ _ w)) rfl rfl rfl <| L_pur rfl (p_pick_f rfl rfl) <| mv rfl rfl <| J_bool (t := 252) (c := false) rfl (by simp) <| L_op <| G_on rfl rfl rfl <| J_val (v_loadA rfl ty57 HS CT) rfl rfl rfl ?_
         refine L_op <| G_on rfl rfl rfl <| J_pur (p_move rfl) rfl rfl rfl <| L_op <| G_on rfl rfl rfl <| J_pur (bld57 (.cons rfl (.cons rfl .nil)) (by repeat constructor)) rfl rfl rfl <| L_op <| G_on rfl rfl rfl ?_
         refine J_pur (p_nev rfl rfl (fun w => eg57 _ _ _ _ _ w) (fun w => nev57 _ _ _ _ w)) rfl rfl rfl <| L_pur rfl (p_pick_f rfl rfl) <| nq <| J_bool (t := 257) (c := false) rfl (by simp) <| C_false rfl <| J_skip <| qx <| mv rfl rfl ?_
         refine fa rfl rfl fa47_2 <| L_val rfl (v_load rfl ty3 HS (by exact rfl)) ?_
         refine L_op <| x_call Tryz.func23 nm23 bd23 (.cons rfl (.cons rfl .nil)) rfl (coOwner (s := K) (r := T.ring) PC) fun x262 => ?_
         refine J_pure fun hown => ?_
         obtain ⟨O, rfl, hOu⟩ := owns_unit hT hun hown
         refine J_slot (t := 262) (v := .tuple #[evT O, .bool true]) rfl rfl <| mv rfl rfl <| L_pur rfl (p_extract rfl rfl) <| L_pur rfl (p_extract rfl rfl) <| L_op <| x_alloc ty47 rfl fun b27 => L_op <| x_store rfl rfl ty47 rfl SM SM RO PT ?_
         refine ag rfl rfl <| nx <| mv rfl rfl <| L_pur rfl (p_not rfl) <| mv rfl rfl <| J_bool (t := 267) (c := false) rfl (rfl) <| L_op <| G_on rfl rfl rfl ?_
         refine J_pur (p_fieldAddr rfl fa47_0) rfl rfl rfl <| L_op <| G_on rfl rfl rfl <| J_val (v_load rfl ty3 HS (by exact rfl)) rfl rfl rfl ?_
         refine L_op <| G_on rfl rfl rfl <| J_pur (p_fieldAddr rfl fa47_0) rfl rfl rfl <| L_op <| G_on rfl rfl rfl <| J_val (v_load rfl ty3 HS (by exact rfl)) rfl rfl rfl ?_
         refine L_op <| G_on rfl rfl rfl <| J_pur (p_neq rfl rfl) rfl rfl rfl <| L_pur rfl (p_pick_f rfl rfl) <| nq <| J_bool (t := 273) (c := false) rfl (by simp [hOu]) <| C_false rfl <| J_skip ?_
         refine Q_blk_normal <| qr <| mv rfl rfl <| L_pur rfl (p_add64 rfl rfl (by omega)) <| ag rfl rfl <| nq ?_
         exact J_again (i + 1) (by omega) (by omega) SU KE
       ·
        refine x_alloc ty57 rfl fun b25 => i1 1 rfl <| x_call Tryz.func21 nm21 bd21 (.cons rfl .nil) rfl (coMaps) fun _ => i1 5 rfl <| x_call Tryz.func22 nm22 bd22 (.cons rfl (.cons rfl .nil)) rfl (coSpGet (s := K) (a := (T.space, 1)) PC) fun _ => ?_
        refine J_slot (t := 237) (v := .tuple #[kI (T.ring + 2, 3), .bool true]) rfl (by rw [hm1]; rfl) <| ip 6 rfl rfl rfl rfl (p_move rfl) <| ip 7 rfl rfl rfl rfl (p_extract rfl rfl) <| ip 8 rfl rfl rfl rfl (p_extract rfl rfl) <| i1 10 rfl <| x_store rfl rfl ty57 rfl SM SM RO PT ?_
        refine ip 11 rfl rfl rfl rfl (p_assign rfl) <| i0 <| Q_then <| J_seq <| sr <| mv rfl rfl <| L_pur rfl (p_not rfl) <| mv rfl rfl ?_
        refine J_bool (t := 242) (c := false) rfl (rfl) <| L_op <| G_on rfl rfl rfl <| J_pur (p_move rfl) rfl rfl rfl <| L_op <| G_on rfl rfl rfl <| J_pur (p_not rfl) rfl rfl rfl <| L_pur rfl (p_pick_f rfl rfl) ?_
        refine mv rfl rfl <| J_bool (t := 246) (c := false) rfl (rfl) <| L_op <| G_on rfl rfl rfl <| J_val (v_loadA rfl ty57 HS CT) rfl rfl rfl ?_
        refine L_op <| G_on rfl rfl rfl <| J_pur (p_move rfl) rfl rfl rfl <| L_op <| G_on rfl rfl rfl <| J_pur (bld57 (.cons rfl (.cons rfl .nil)) (by repeat constructor)) rfl rfl rfl <| L_op <| G_on rfl rfl rfl ?_
        refine J_pur (p_nev rfl rfl (fun w => eg57 _ _ _ _ _ w) (fun w => nev57 _ _ _ _ w)) rfl rfl rfl <| L_pur rfl (p_pick_f rfl rfl) <| mv rfl rfl <| J_bool (t := 252) (c := false) rfl (by simp) <| L_op <| G_on rfl rfl rfl <| J_val (v_loadA rfl ty57 HS CT) rfl rfl rfl ?_
        refine L_op <| G_on rfl rfl rfl <| J_pur (p_move rfl) rfl rfl rfl <| L_op <| G_on rfl rfl rfl <| J_pur (bld57 (.cons rfl (.cons rfl .nil)) (by repeat constructor)) rfl rfl rfl <| L_op <| G_on rfl rfl rfl ?_
        refine J_pur (p_nev rfl rfl (fun w => eg57 _ _ _ _ _ w) (fun w => nev57 _ _ _ _ w)) rfl rfl rfl <| L_pur rfl (p_pick_f rfl rfl) <| nq <| J_bool (t := 257) (c := false) rfl (by simp) <| C_false rfl <| J_skip <| qx <| mv rfl rfl ?_
        refine fa rfl rfl fa47_2 <| L_val rfl (v_load rfl ty3 HS (by exact rfl)) ?_
        refine L_op <| x_call Tryz.func23 nm23 bd23 (.cons rfl (.cons rfl .nil)) rfl (coOwner (s := K) (r := T.ring) PC) fun x262 => ?_
        refine J_pure fun hown => ?_
        obtain ⟨O, rfl, hOu⟩ := owns_unit hT hun hown
        refine J_slot (t := 262) (v := .tuple #[evT O, .bool true]) rfl rfl <| mv rfl rfl <| L_pur rfl (p_extract rfl rfl) <| L_pur rfl (p_extract rfl rfl) <| L_op <| x_alloc ty47 rfl fun b27 => L_op <| x_store rfl rfl ty47 rfl SM SM RO PT ?_
        refine ag rfl rfl <| nx <| mv rfl rfl <| L_pur rfl (p_not rfl) <| mv rfl rfl <| J_bool (t := 267) (c := false) rfl (rfl) <| L_op <| G_on rfl rfl rfl ?_
        refine J_pur (p_fieldAddr rfl fa47_0) rfl rfl rfl <| L_op <| G_on rfl rfl rfl <| J_val (v_load rfl ty3 HS (by exact rfl)) rfl rfl rfl ?_
        refine L_op <| G_on rfl rfl rfl <| J_pur (p_fieldAddr rfl fa47_0) rfl rfl rfl <| L_op <| G_on rfl rfl rfl <| J_val (v_load rfl ty3 HS (by exact rfl)) rfl rfl rfl ?_
        refine L_op <| G_on rfl rfl rfl <| J_pur (p_neq rfl rfl) rfl rfl rfl <| L_pur rfl (p_pick_f rfl rfl) <| nq <| J_bool (t := 273) (c := false) rfl (by simp [hOu]) <| C_false rfl <| J_skip ?_
        refine Q_blk_normal <| qr <| mv rfl rfl <| L_pur rfl (p_add64 rfl rfl (by omega)) <| ag rfl rfl <| nq ?_
        exact J_again (i + 1) (by omega) (by omega) SU KE
      ·
       refine x_alloc ty57 rfl fun b23 => i1 5 rfl <| x_call Tryz.func22 nm22 bd22 (.cons rfl (.cons rfl .nil)) rfl (coSpGet (s := K) (a := (T.space, 0)) PC) fun _ => ?_
       refine J_slot (t := 228) (v := .tuple #[kI (T.ring + 1, 3), .bool true]) rfl (by rw [hm0]; rfl) <| ip 6 rfl rfl rfl rfl (p_move rfl) <| ip 7 rfl rfl rfl rfl (p_extract rfl rfl) <| ip 8 rfl rfl rfl rfl (p_extract rfl rfl) <| i1 10 rfl <| x_store rfl rfl ty57 rfl SM SM RO PT ?_
       refine ip 11 rfl rfl rfl rfl (p_assign rfl) <| i0 <| Q_then <| J_seq <| J_drawL none mixed <| ip 0 rfl rfl rfl rfl (p_move rfl) <| ip 2 rfl rfl rfl rfl (p_fieldAddr rfl fa47_1) <| iv 3 rfl rfl rfl rfl (fun _ => v_load rfl ty3 HS (by exact rfl)) ?_
       refine ip 4 rfl rfl rfl rfl (bld63 (.cons rfl (.cons rfl .nil)) (by repeat constructor)) <| J_slot (t := 236) (v := .agg (encI (T.space, 1)).toArray) rfl rfl <| I_ready (rs := [1, 9]) SI (by kernel_rfl) (by simp) ?_
       refine (I_cons rfl ?_ (I_cons rfl ?_ I_nil))
       ·
        refine x_call Tryz.func21 nm21 bd21 (.cons rfl .nil) rfl (coMaps) fun _ => I_ready (rs := [5, 9]) SI (by kernel_rfl) (by simp) ?_
        refine (I_cons rfl ?_ (I_cons rfl ?_ I_nil))
        ·
         refine x_call Tryz.func22 nm22 bd22 (.cons rfl (.cons rfl .nil)) rfl (coSpGet (s := K) (a := (T.space, 1)) PC) fun _ => ?_
         refine J_slot (t := 237) (v := .tuple #[kI (T.ring + 2, 3), .bool true]) rfl (by rw [hm1]; rfl) <| ip 6 rfl rfl rfl rfl (p_move rfl) <| ip 7 rfl rfl rfl rfl (p_extract rfl rfl) <| ip 8 rfl rfl rfl rfl (p_extract rfl rfl) <| i1 9 rfl <| x_alloc ty57 rfl fun b25 => i1 10 rfl <| x_store rfl rfl ty57 rfl SM SM RO PT ?_
         refine ip 11 rfl rfl rfl rfl (p_assign rfl) <| i0 <| Q_then <| J_seq <| sr <| mv rfl rfl <| L_pur rfl (p_not rfl) <| mv rfl rfl ?_
         refine J_bool (t := 242) (c := false) rfl (rfl) <| L_op <| G_on rfl rfl rfl <| J_pur (p_move rfl) rfl rfl rfl <| L_op <| G_on rfl rfl rfl <| J_pur (p_not rfl) rfl rfl rfl <| L_pur rfl (p_pick_f rfl rfl) ?_
         refine mv rfl rfl <| J_bool (t := 246) (c := false) rfl (rfl) <| L_op <| G_on rfl rfl rfl <| J_val (v_loadA rfl ty57 HS CT) rfl rfl rfl ?_
         refine L_op <| G_on rfl rfl rfl <| J_pur (p_move rfl) rfl rfl rfl <| L_op <| G_on rfl rfl rfl <| J_pur (bld57 (.cons rfl (.cons rfl .nil)) (by repeat constructor)) rfl rfl rfl <| L_op <| G_on rfl rfl rfl ?_
         refine J_pur (p_nev rfl rfl (fun w => eg57 _ _ _ _ _ w) (fun w => nev57 _ _ _ _ w)) rfl rfl rfl <| L_pur rfl (p_pick_f rfl rfl) <| mv rfl rfl <| J_bool (t := 252) (c := false) rfl (by simp) <| L_op <| G_on rfl rfl rfl <| J_val (v_loadA rfl ty57 HS CT) rfl rfl rfl ?_
         refine L_op <| G_on rfl rfl rfl <| J_pur (p_move rfl) rfl rfl rfl <| L_op <| G_on rfl rfl rfl <| J_pur (bld57 (.cons rfl (.cons rfl .nil)) (by repeat constructor)) rfl rfl rfl <| L_op <| G_on rfl rfl rfl ?_
         refine J_pur (p_nev rfl rfl (fun w => eg57 _ _ _ _ _ w) (fun w => nev57 _ _ _ _ w)) rfl rfl rfl <| L_pur rfl (p_pick_f rfl rfl) <| nq <| J_bool (t := 257) (c := false) rfl (by simp) <| C_false rfl <| J_skip <| qx <| mv rfl rfl ?_
         refine fa rfl rfl fa47_2 <| L_val rfl (v_load rfl ty3 HS (by exact rfl)) ?_
         refine L_op <| x_call Tryz.func23 nm23 bd23 (.cons rfl (.cons rfl .nil)) rfl (coOwner (s := K) (r := T.ring) PC) fun x262 => ?_
         refine J_pure fun hown => ?_
         obtain ⟨O, rfl, hOu⟩ := owns_unit hT hun hown
         refine J_slot (t := 262) (v := .tuple #[evT O, .bool true]) rfl rfl <| mv rfl rfl <| L_pur rfl (p_extract rfl rfl) <| L_pur rfl (p_extract rfl rfl) <| L_op <| x_alloc ty47 rfl fun b27 => L_op <| x_store rfl rfl ty47 rfl SM SM RO PT ?_
         refine ag rfl rfl <| nx <| mv rfl rfl <| L_pur rfl (p_not rfl) <| mv rfl rfl <| J_bool (t := 267) (c := false) rfl (rfl) <| L_op <| G_on rfl rfl rfl ?_
         refine J_pur (p_fieldAddr rfl fa47_0) rfl rfl rfl <| L_op <| G_on rfl rfl rfl <| J_val (v_load rfl ty3 HS (by exact rfl)) rfl rfl rfl ?_
         refine L_op <| G_on rfl rfl rfl <| J_pur (p_fieldAddr rfl fa47_0) rfl rfl rfl <| L_op <| G_on rfl rfl rfl <| J_val (v_load rfl ty3 HS (by exact rfl)) rfl rfl rfl ?_
         refine L_op <| G_on rfl rfl rfl <| J_pur (p_neq rfl rfl) rfl rfl rfl <| L_pur rfl (p_pick_f rfl rfl) <| nq <| J_bool (t := 273) (c := false) rfl (by simp [hOu]) <| C_false rfl <| J_skip ?_
         refine Q_blk_normal <| qr <| mv rfl rfl <| L_pur rfl (p_add64 rfl rfl (by omega)) <| ag rfl rfl <| nq ?_
         exact J_again (i + 1) (by omega) (by omega) SU KE
        ·
         refine x_alloc ty57 rfl fun b25 => i1 5 rfl <| x_call Tryz.func22 nm22 bd22 (.cons rfl (.cons rfl .nil)) rfl (coSpGet (s := K) (a := (T.space, 1)) PC) fun _ => ?_
         refine J_slot (t := 237) (v := .tuple #[kI (T.ring + 2, 3), .bool true]) rfl (by rw [hm1]; rfl) <| ip 6 rfl rfl rfl rfl (p_move rfl) <| ip 7 rfl rfl rfl rfl (p_extract rfl rfl) <| ip 8 rfl rfl rfl rfl (p_extract rfl rfl) <| i1 10 rfl <| x_store rfl rfl ty57 rfl SM SM RO PT ?_
         refine ip 11 rfl rfl rfl rfl (p_assign rfl) <| i0 <| Q_then <| J_seq <| sr <| mv rfl rfl <| L_pur rfl (p_not rfl) <| mv rfl rfl ?_
         refine J_bool (t := 242) (c := false) rfl (rfl) <| L_op <| G_on rfl rfl rfl <| J_pur (p_move rfl) rfl rfl rfl <| L_op <| G_on rfl rfl rfl <| J_pur (p_not rfl) rfl rfl rfl <| L_pur rfl (p_pick_f rfl rfl) ?_
         refine mv rfl rfl <| J_bool (t := 246) (c := false) rfl (rfl) <| L_op <| G_on rfl rfl rfl <| J_val (v_loadA rfl ty57 HS CT) rfl rfl rfl ?_
         refine L_op <| G_on rfl rfl rfl <| J_pur (p_move rfl) rfl rfl rfl <| L_op <| G_on rfl rfl rfl <| J_pur (bld57 (.cons rfl (.cons rfl .nil)) (by repeat constructor)) rfl rfl rfl <| L_op <| G_on rfl rfl rfl ?_
         refine J_pur (p_nev rfl rfl (fun w => eg57 _ _ _ _ _ w) (fun w => nev57 _ _ _ _ w)) rfl rfl rfl <| L_pur rfl (p_pick_f rfl rfl) <| mv rfl rfl <| J_bool (t := 252) (c := false) rfl (by simp) <| L_op <| G_on rfl rfl rfl <| J_val (v_loadA rfl ty57 HS CT) rfl rfl rfl ?_
         refine L_op <| G_on rfl rfl rfl <| J_pur (p_move rfl) rfl rfl rfl <| L_op <| G_on rfl rfl rfl <| J_pur (bld57 (.cons rfl (.cons rfl .nil)) (by repeat constructor)) rfl rfl rfl <| L_op <| G_on rfl rfl rfl ?_
         refine J_pur (p_nev rfl rfl (fun w => eg57 _ _ _ _ _ w) (fun w => nev57 _ _ _ _ w)) rfl rfl rfl <| L_pur rfl (p_pick_f rfl rfl) <| nq <| J_bool (t := 257) (c := false) rfl (by simp) <| C_false rfl <| J_skip <| qx <| mv rfl rfl ?_
         refine fa rfl rfl fa47_2 <| L_val rfl (v_load rfl ty3 HS (by exact rfl)) ?_
         refine L_op <| x_call Tryz.func23 nm23 bd23 (.cons rfl (.cons rfl .nil)) rfl (coOwner (s := K) (r := T.ring) PC) fun x262 => ?_
         refine J_pure fun hown => ?_
         obtain ⟨O, rfl, hOu⟩ := owns_unit hT hun hown
         refine J_slot (t := 262) (v := .tuple #[evT O, .bool true]) rfl rfl <| mv rfl rfl <| L_pur rfl (p_extract rfl rfl) <| L_pur rfl (p_extract rfl rfl) <| L_op <| x_alloc ty47 rfl fun b27 => L_op <| x_store rfl rfl ty47 rfl SM SM RO PT ?_
         refine ag rfl rfl <| nx <| mv rfl rfl <| L_pur rfl (p_not rfl) <| mv rfl rfl <| J_bool (t := 267) (c := false) rfl (rfl) <| L_op <| G_on rfl rfl rfl ?_
         refine J_pur (p_fieldAddr rfl fa47_0) rfl rfl rfl <| L_op <| G_on rfl rfl rfl <| J_val (v_load rfl ty3 HS (by exact rfl)) rfl rfl rfl ?_
         refine L_op <| G_on rfl rfl rfl <| J_pur (p_fieldAddr rfl fa47_0) rfl rfl rfl <| L_op <| G_on rfl rfl rfl <| J_val (v_load rfl ty3 HS (by exact rfl)) rfl rfl rfl ?_
         refine L_op <| G_on rfl rfl rfl <| J_pur (p_neq rfl rfl) rfl rfl rfl <| L_pur rfl (p_pick_f rfl rfl) <| nq <| J_bool (t := 273) (c := false) rfl (by simp [hOu]) <| C_false rfl <| J_skip ?_
         refine Q_blk_normal <| qr <| mv rfl rfl <| L_pur rfl (p_add64 rfl rfl (by omega)) <| ag rfl rfl <| nq ?_
         exact J_again (i + 1) (by omega) (by omega) SU KE
       ·
        refine x_alloc ty57 rfl fun b25 => i1 1 rfl <| x_call Tryz.func21 nm21 bd21 (.cons rfl .nil) rfl (coMaps) fun _ => i1 5 rfl <| x_call Tryz.func22 nm22 bd22 (.cons rfl (.cons rfl .nil)) rfl (coSpGet (s := K) (a := (T.space, 1)) PC) fun _ => ?_
        refine J_slot (t := 237) (v := .tuple #[kI (T.ring + 2, 3), .bool true]) rfl (by rw [hm1]; rfl) <| ip 6 rfl rfl rfl rfl (p_move rfl) <| ip 7 rfl rfl rfl rfl (p_extract rfl rfl) <| ip 8 rfl rfl rfl rfl (p_extract rfl rfl) <| i1 10 rfl <| x_store rfl rfl ty57 rfl SM SM RO PT ?_
        refine ip 11 rfl rfl rfl rfl (p_assign rfl) <| i0 <| Q_then <| J_seq <| sr <| mv rfl rfl <| L_pur rfl (p_not rfl) <| mv rfl rfl ?_
        refine J_bool (t := 242) (c := false) rfl (rfl) <| L_op <| G_on rfl rfl rfl <| J_pur (p_move rfl) rfl rfl rfl <| L_op <| G_on rfl rfl rfl <| J_pur (p_not rfl) rfl rfl rfl <| L_pur rfl (p_pick_f rfl rfl) ?_
        refine mv rfl rfl <| J_bool (t := 246) (c := false) rfl (rfl) <| L_op <| G_on rfl rfl rfl <| J_val (v_loadA rfl ty57 HS CT) rfl rfl rfl ?_
        refine L_op <| G_on rfl rfl rfl <| J_pur (p_move rfl) rfl rfl rfl <| L_op <| G_on rfl rfl rfl <| J_pur (bld57 (.cons rfl (.cons rfl .nil)) (by repeat constructor)) rfl rfl rfl <| L_op <| G_on rfl rfl rfl ?_
        refine J_pur (p_nev rfl rfl (fun w => eg57 _ _ _ _ _ w) (fun w => nev57 _ _ _ _ w)) rfl rfl rfl <| L_pur rfl (p_pick_f rfl rfl) <| mv rfl rfl <| J_bool (t := 252) (c := false) rfl (by simp) <| L_op <| G_on rfl rfl rfl <| J_val (v_loadA rfl ty57 HS CT) rfl rfl rfl ?_
        refine L_op <| G_on rfl rfl rfl <| J_pur (p_move rfl) rfl rfl rfl <| L_op <| G_on rfl rfl rfl <| J_pur (bld57 (.cons rfl (.cons rfl .nil)) (by repeat constructor)) rfl rfl rfl <| L_op <| G_on rfl rfl rfl ?_
        refine J_pur (p_nev rfl rfl (fun w => eg57 _ _ _ _ _ w) (fun w => nev57 _ _ _ _ w)) rfl rfl rfl <| L_pur rfl (p_pick_f rfl rfl) <| nq <| J_bool (t := 257) (c := false) rfl (by simp) <| C_false rfl <| J_skip <| qx <| mv rfl rfl ?_
        refine fa rfl rfl fa47_2 <| L_val rfl (v_load rfl ty3 HS (by exact rfl)) ?_
        refine L_op <| x_call Tryz.func23 nm23 bd23 (.cons rfl (.cons rfl .nil)) rfl (coOwner (s := K) (r := T.ring) PC) fun x262 => ?_
        refine J_pure fun hown => ?_
        obtain ⟨O, rfl, hOu⟩ := owns_unit hT hun hown
        refine J_slot (t := 262) (v := .tuple #[evT O, .bool true]) rfl rfl <| mv rfl rfl <| L_pur rfl (p_extract rfl rfl) <| L_pur rfl (p_extract rfl rfl) <| L_op <| x_alloc ty47 rfl fun b27 => L_op <| x_store rfl rfl ty47 rfl SM SM RO PT ?_
        refine ag rfl rfl <| nx <| mv rfl rfl <| L_pur rfl (p_not rfl) <| mv rfl rfl <| J_bool (t := 267) (c := false) rfl (rfl) <| L_op <| G_on rfl rfl rfl ?_
        refine J_pur (p_fieldAddr rfl fa47_0) rfl rfl rfl <| L_op <| G_on rfl rfl rfl <| J_val (v_load rfl ty3 HS (by exact rfl)) rfl rfl rfl ?_
        refine L_op <| G_on rfl rfl rfl <| J_pur (p_fieldAddr rfl fa47_0) rfl rfl rfl <| L_op <| G_on rfl rfl rfl <| J_val (v_load rfl ty3 HS (by exact rfl)) rfl rfl rfl ?_
        refine L_op <| G_on rfl rfl rfl <| J_pur (p_neq rfl rfl) rfl rfl rfl <| L_pur rfl (p_pick_f rfl rfl) <| nq <| J_bool (t := 273) (c := false) rfl (by simp [hOu]) <| C_false rfl <| J_skip ?_
        refine Q_blk_normal <| qr <| mv rfl rfl <| L_pur rfl (p_add64 rfl rfl (by omega)) <| ag rfl rfl <| nq ?_
        exact J_again (i + 1) (by omega) (by omega) SU KE
     ·
      refine x_alloc ty57 rfl fun b23 => i1 1 rfl <| x_call Tryz.func21 nm21 bd21 (.cons rfl .nil) rfl (coMaps) fun _ => i1 5 rfl <| x_call Tryz.func22 nm22 bd22 (.cons rfl (.cons rfl .nil)) rfl (coSpGet (s := K) (a := (T.space, 0)) PC) fun _ => ?_
      refine J_slot (t := 228) (v := .tuple #[kI (T.ring + 1, 3), .bool true]) rfl (by rw [hm0]; rfl) <| ip 6 rfl rfl rfl rfl (p_move rfl) <| ip 7 rfl rfl rfl rfl (p_extract rfl rfl) <| ip 8 rfl rfl rfl rfl (p_extract rfl rfl) <| i1 10 rfl <| x_store rfl rfl ty57 rfl SM SM RO PT ?_
      refine ip 11 rfl rfl rfl rfl (p_assign rfl) <| i0 <| Q_then <| J_seq <| J_drawL none mixed <| ip 0 rfl rfl rfl rfl (p_move rfl) <| ip 2 rfl rfl rfl rfl (p_fieldAddr rfl fa47_1) <| iv 3 rfl rfl rfl rfl (fun _ => v_load rfl ty3 HS (by exact rfl)) ?_
      refine ip 4 rfl rfl rfl rfl (bld63 (.cons rfl (.cons rfl .nil)) (by repeat constructor)) <| J_slot (t := 236) (v := .agg (encI (T.space, 1)).toArray) rfl rfl <| I_ready (rs := [1, 9]) SI (by kernel_rfl) (by simp) ?_
      refine (I_cons rfl ?_ (I_cons rfl ?_ I_nil))
      ·
       refine x_call Tryz.func21 nm21 bd21 (.cons rfl .nil) rfl (coMaps) fun _ => I_ready (rs := [5, 9]) SI (by kernel_rfl) (by simp) ?_
       refine (I_cons rfl ?_ (I_cons rfl ?_ I_nil))
       ·
        refine x_call Tryz.func22 nm22 bd22 (.cons rfl (.cons rfl .nil)) rfl (coSpGet (s := K) (a := (T.space, 1)) PC) fun _ => ?_
        refine J_slot (t := 237) (v := .tuple #[kI (T.ring + 2, 3), .bool true]) rfl (by rw [hm1]; rfl) <| ip 6 rfl rfl rfl rfl (p_move rfl) <| ip 7 rfl rfl rfl rfl (p_extract rfl rfl) <| ip 8 rfl rfl rfl rfl (p_extract rfl rfl) <| i1 9 rfl <| x_alloc ty57 rfl fun b25 => i1 10 rfl <| x_store rfl rfl ty57 rfl SM SM RO PT ?_
        refine ip 11 rfl rfl rfl rfl (p_assign rfl) <| i0 <| Q_then <| J_seq <| sr <| mv rfl rfl <| L_pur rfl (p_not rfl) <| mv rfl rfl ?_
        refine J_bool (t := 242) (c := false) rfl (rfl) <| L_op <| G_on rfl rfl rfl <| J_pur (p_move rfl) rfl rfl rfl <| L_op <| G_on rfl rfl rfl <| J_pur (p_not rfl) rfl rfl rfl <| L_pur rfl (p_pick_f rfl rfl) ?_
        refine mv rfl rfl <| J_bool (t := 246) (c := false) rfl (rfl) <| L_op <| G_on rfl rfl rfl <| J_val (v_loadA rfl ty57 HS CT) rfl rfl rfl ?_
        refine L_op <| G_on rfl rfl rfl <| J_pur (p_move rfl) rfl rfl rfl <| L_op <| G_on rfl rfl rfl <| J_pur (bld57 (.cons rfl (.cons rfl .nil)) (by repeat constructor)) rfl rfl rfl <| L_op <| G_on rfl rfl rfl ?_
        refine J_pur (p_nev rfl rfl (fun w => eg57 _ _ _ _ _ w) (fun w => nev57 _ _ _ _ w)) rfl rfl rfl <| L_pur rfl (p_pick_f rfl rfl) <| mv rfl rfl <| J_bool (t := 252) (c := false) rfl (by simp) <| L_op <| G_on rfl rfl rfl <| J_val (v_loadA rfl ty57 HS CT) rfl rfl rfl ?_
        refine L_op <| G_on rfl rfl rfl <| J_pur (p_move rfl) rfl rfl rfl <| L_op <| G_on rfl rfl rfl <| J_pur (bld57 (.cons rfl (.cons rfl .nil)) (by repeat constructor)) rfl rfl rfl <| L_op <| G_on rfl rfl rfl ?_
        refine J_pur (p_nev rfl rfl (fun w => eg57 _ _ _ _ _ w) (fun w => nev57 _ _ _ _ w)) rfl rfl rfl <| L_pur rfl (p_pick_f rfl rfl) <| nq <| J_bool (t := 257) (c := false) rfl (by simp) <| C_false rfl <| J_skip <| qx <| mv rfl rfl ?_
        refine fa rfl rfl fa47_2 <| L_val rfl (v_load rfl ty3 HS (by exact rfl)) ?_
        refine L_op <| x_call Tryz.func23 nm23 bd23 (.cons rfl (.cons rfl .nil)) rfl (coOwner (s := K) (r := T.ring) PC) fun x262 => ?_
        refine J_pure fun hown => ?_
        obtain ⟨O, rfl, hOu⟩ := owns_unit hT hun hown
        refine J_slot (t := 262) (v := .tuple #[evT O, .bool true]) rfl rfl <| mv rfl rfl <| L_pur rfl (p_extract rfl rfl) <| L_pur rfl (p_extract rfl rfl) <| L_op <| x_alloc ty47 rfl fun b27 => L_op <| x_store rfl rfl ty47 rfl SM SM RO PT ?_
        refine ag rfl rfl <| nx <| mv rfl rfl <| L_pur rfl (p_not rfl) <| mv rfl rfl <| J_bool (t := 267) (c := false) rfl (rfl) <| L_op <| G_on rfl rfl rfl ?_
        refine J_pur (p_fieldAddr rfl fa47_0) rfl rfl rfl <| L_op <| G_on rfl rfl rfl <| J_val (v_load rfl ty3 HS (by exact rfl)) rfl rfl rfl ?_
        refine L_op <| G_on rfl rfl rfl <| J_pur (p_fieldAddr rfl fa47_0) rfl rfl rfl <| L_op <| G_on rfl rfl rfl <| J_val (v_load rfl ty3 HS (by exact rfl)) rfl rfl rfl ?_
        refine L_op <| G_on rfl rfl rfl <| J_pur (p_neq rfl rfl) rfl rfl rfl <| L_pur rfl (p_pick_f rfl rfl) <| nq <| J_bool (t := 273) (c := false) rfl (by simp [hOu]) <| C_false rfl <| J_skip ?_
        refine Q_blk_normal <| qr <| mv rfl rfl <| L_pur rfl (p_add64 rfl rfl (by omega)) <| ag rfl rfl <| nq ?_
        exact J_again (i + 1) (by omega) (by omega) SU KE
       ·
        refine x_alloc ty57 rfl fun b25 => i1 5 rfl <| x_call Tryz.func22 nm22 bd22 (.cons rfl (.cons rfl .nil)) rfl (coSpGet (s := K) (a := (T.space, 1)) PC) fun _ => ?_
        refine J_slot (t := 237) (v := .tuple #[kI (T.ring + 2, 3), .bool true]) rfl (by rw [hm1]; rfl) <| ip 6 rfl rfl rfl rfl (p_move rfl) <| ip 7 rfl rfl rfl rfl (p_extract rfl rfl) <| ip 8 rfl rfl rfl rfl (p_extract rfl rfl) <| i1 10 rfl <| x_store rfl rfl ty57 rfl SM SM RO PT ?_
        refine ip 11 rfl rfl rfl rfl (p_assign rfl) <| i0 <| Q_then <| J_seq <| sr <| mv rfl rfl <| L_pur rfl (p_not rfl) <| mv rfl rfl ?_
        refine J_bool (t := 242) (c := false) rfl (rfl) <| L_op <| G_on rfl rfl rfl <| J_pur (p_move rfl) rfl rfl rfl <| L_op <| G_on rfl rfl rfl <| J_pur (p_not rfl) rfl rfl rfl <| L_pur rfl (p_pick_f rfl rfl) ?_
        refine mv rfl rfl <| J_bool (t := 246) (c := false) rfl (rfl) <| L_op <| G_on rfl rfl rfl <| J_val (v_loadA rfl ty57 HS CT) rfl rfl rfl ?_
        refine L_op <| G_on rfl rfl rfl <| J_pur (p_move rfl) rfl rfl rfl <| L_op <| G_on rfl rfl rfl <| J_pur (bld57 (.cons rfl (.cons rfl .nil)) (by repeat constructor)) rfl rfl rfl <| L_op <| G_on rfl rfl rfl ?_
        refine J_pur (p_nev rfl rfl (fun w => eg57 _ _ _ _ _ w) (fun w => nev57 _ _ _ _ w)) rfl rfl rfl <| L_pur rfl (p_pick_f rfl rfl) <| mv rfl rfl <| J_bool (t := 252) (c := false) rfl (by simp) <| L_op <| G_on rfl rfl rfl <| J_val (v_loadA rfl ty57 HS CT) rfl rfl rfl ?_
        refine L_op <| G_on rfl rfl rfl <| J_pur (p_move rfl) rfl rfl rfl <| L_op <| G_on rfl rfl rfl <| J_pur (bld57 (.cons rfl (.cons rfl .nil)) (by repeat constructor)) rfl rfl rfl <| L_op <| G_on rfl rfl rfl ?_
        refine J_pur (p_nev rfl rfl (fun w => eg57 _ _ _ _ _ w) (fun w => nev57 _ _ _ _ w)) rfl rfl rfl <| L_pur rfl (p_pick_f rfl rfl) <| nq <| J_bool (t := 257) (c := false) rfl (by simp) <| C_false rfl <| J_skip <| qx <| mv rfl rfl ?_
        refine fa rfl rfl fa47_2 <| L_val rfl (v_load rfl ty3 HS (by exact rfl)) ?_
        refine L_op <| x_call Tryz.func23 nm23 bd23 (.cons rfl (.cons rfl .nil)) rfl (coOwner (s := K) (r := T.ring) PC) fun x262 => ?_
        refine J_pure fun hown => ?_
        obtain ⟨O, rfl, hOu⟩ := owns_unit hT hun hown
        refine J_slot (t := 262) (v := .tuple #[evT O, .bool true]) rfl rfl <| mv rfl rfl <| L_pur rfl (p_extract rfl rfl) <| L_pur rfl (p_extract rfl rfl) <| L_op <| x_alloc ty47 rfl fun b27 => L_op <| x_store rfl rfl ty47 rfl SM SM RO PT ?_
        refine ag rfl rfl <| nx <| mv rfl rfl <| L_pur rfl (p_not rfl) <| mv rfl rfl <| J_bool (t := 267) (c := false) rfl (rfl) <| L_op <| G_on rfl rfl rfl ?_
        refine J_pur (p_fieldAddr rfl fa47_0) rfl rfl rfl <| L_op <| G_on rfl rfl rfl <| J_val (v_load rfl ty3 HS (by exact rfl)) rfl rfl rfl ?_
        refine L_op <| G_on rfl rfl rfl <| J_pur (p_fieldAddr rfl fa47_0) rfl rfl rfl <| L_op <| G_on rfl rfl rfl <| J_val (v_load rfl ty3 HS (by exact rfl)) rfl rfl rfl ?_
        refine L_op <| G_on rfl rfl rfl <| J_pur (p_neq rfl rfl) rfl rfl rfl <| L_pur rfl (p_pick_f rfl rfl) <| nq <| J_bool (t := 273) (c := false) rfl (by simp [hOu]) <| C_false rfl <| J_skip ?_
        refine Q_blk_normal <| qr <| mv rfl rfl <| L_pur rfl (p_add64 rfl rfl (by omega)) <| ag rfl rfl <| nq ?_
        exact J_again (i + 1) (by omega) (by omega) SU KE
      ·
       refine x_alloc ty57 rfl fun b25 => i1 1 rfl <| x_call Tryz.func21 nm21 bd21 (.cons rfl .nil) rfl (coMaps) fun _ => i1 5 rfl <| x_call Tryz.func22 nm22 bd22 (.cons rfl (.cons rfl .nil)) rfl (coSpGet (s := K) (a := (T.space, 1)) PC) fun _ => ?_
       refine J_slot (t := 237) (v := .tuple #[kI (T.ring + 2, 3), .bool true]) rfl (by rw [hm1]; rfl) <| ip 6 rfl rfl rfl rfl (p_move rfl) <| ip 7 rfl rfl rfl rfl (p_extract rfl rfl) <| ip 8 rfl rfl rfl rfl (p_extract rfl rfl) <| i1 10 rfl <| x_store rfl rfl ty57 rfl SM SM RO PT ?_
       refine ip 11 rfl rfl rfl rfl (p_assign rfl) <| i0 <| Q_then <| J_seq <| sr <| mv rfl rfl <| L_pur rfl (p_not rfl) <| mv rfl rfl ?_
       refine J_bool (t := 242) (c := false) rfl (rfl) <| L_op <| G_on rfl rfl rfl <| J_pur (p_move rfl) rfl rfl rfl <| L_op <| G_on rfl rfl rfl <| J_pur (p_not rfl) rfl rfl rfl <| L_pur rfl (p_pick_f rfl rfl) ?_
       refine mv rfl rfl <| J_bool (t := 246) (c := false) rfl (rfl) <| L_op <| G_on rfl rfl rfl <| J_val (v_loadA rfl ty57 HS CT) rfl rfl rfl ?_
       refine L_op <| G_on rfl rfl rfl <| J_pur (p_move rfl) rfl rfl rfl <| L_op <| G_on rfl rfl rfl <| J_pur (bld57 (.cons rfl (.cons rfl .nil)) (by repeat constructor)) rfl rfl rfl <| L_op <| G_on rfl rfl rfl ?_
       refine J_pur (p_nev rfl rfl (fun w => eg57 _ _ _ _ _ w) (fun w => nev57 _ _ _ _ w)) rfl rfl rfl <| L_pur rfl (p_pick_f rfl rfl) <| mv rfl rfl <| J_bool (t := 252) (c := false) rfl (by simp) <| L_op <| G_on rfl rfl rfl <| J_val (v_loadA rfl ty57 HS CT) rfl rfl rfl ?_
       refine L_op <| G_on rfl rfl rfl <| J_pur (p_move rfl) rfl rfl rfl <| L_op <| G_on rfl rfl rfl <| J_pur (bld57 (.cons rfl (.cons rfl .nil)) (by repeat constructor)) rfl rfl rfl <| L_op <| G_on rfl rfl rfl ?_
       refine J_pur (p_nev rfl rfl (fun w => eg57 _ _ _ _ _ w) (fun w => nev57 _ _ _ _ w)) rfl rfl rfl <| L_pur rfl (p_pick_f rfl rfl) <| nq <| J_bool (t := 257) (c := false) rfl (by simp) <| C_false rfl <| J_skip <| qx <| mv rfl rfl ?_
       refine fa rfl rfl fa47_2 <| L_val rfl (v_load rfl ty3 HS (by exact rfl)) ?_
       refine L_op <| x_call Tryz.func23 nm23 bd23 (.cons rfl (.cons rfl .nil)) rfl (coOwner (s := K) (r := T.ring) PC) fun x262 => ?_
       refine J_pure fun hown => ?_
       obtain ⟨O, rfl, hOu⟩ := owns_unit hT hun hown
       refine J_slot (t := 262) (v := .tuple #[evT O, .bool true]) rfl rfl <| mv rfl rfl <| L_pur rfl (p_extract rfl rfl) <| L_pur rfl (p_extract rfl rfl) <| L_op <| x_alloc ty47 rfl fun b27 => L_op <| x_store rfl rfl ty47 rfl SM SM RO PT ?_
       refine ag rfl rfl <| nx <| mv rfl rfl <| L_pur rfl (p_not rfl) <| mv rfl rfl <| J_bool (t := 267) (c := false) rfl (rfl) <| L_op <| G_on rfl rfl rfl ?_
       refine J_pur (p_fieldAddr rfl fa47_0) rfl rfl rfl <| L_op <| G_on rfl rfl rfl <| J_val (v_load rfl ty3 HS (by exact rfl)) rfl rfl rfl ?_
       refine L_op <| G_on rfl rfl rfl <| J_pur (p_fieldAddr rfl fa47_0) rfl rfl rfl <| L_op <| G_on rfl rfl rfl <| J_val (v_load rfl ty3 HS (by exact rfl)) rfl rfl rfl ?_
       refine L_op <| G_on rfl rfl rfl <| J_pur (p_neq rfl rfl) rfl rfl rfl <| L_pur rfl (p_pick_f rfl rfl) <| nq <| J_bool (t := 273) (c := false) rfl (by simp [hOu]) <| C_false rfl <| J_skip ?_
       refine Q_blk_normal <| qr <| mv rfl rfl <| L_pur rfl (p_add64 rfl rfl (by omega)) <| ag rfl rfl <| nq ?_
       exact J_again (i + 1) (by omega) (by omega) SU KE
    ·
     refine J_exit <| Q_then_exit <| Q_then_exit <| Q_blk_this <| qx <| mv rfl rfl <| mv rfl rfl <| J_bool (t := 275) (c := true) rfl (rfl) ?_
     refine L_op <| G_on rfl rfl rfl <| J_pur (p_move rfl) rfl rfl rfl <| L_op <| G_on rfl rfl rfl <| x_call Tryz.func24 nm24 bd24 (.cons rfl .nil) rfl (coNow (s := K) PC) fun _ => ?_
     refine J_slot (t := 277) (v := .int .u64 0) rfl (by rw [hnow]) <| L_op <| G_on rfl rfl rfl <| J_pur (p_eql rfl rfl) rfl rfl rfl <| L_pur rfl (p_pick_t rfl rfl) <| ag rfl rfl <| nq <| J_ret ?_
     exact J_return (()) Tryz.results3 (.tmp rfl .nil) rfl SU

end Go.Pse
