/-
  What a thread has of its own: contracts.
-/
import Derived.Test.YthjgdlhkdjgjpaaGreatC42
namespace Go.Pse
open Go.RowKit Go.Proofs

/-! ### plain: what a thread comes to -/
abbrev Obj := Int × Int
theorem ins_len (ps : List (Obj × Bool)) (a : Obj) (u : Bool) : (ins ps a u).length ≤ ps.length + 1 := by
  unfold ins
  split
  · rw [List.length_map]; omega
  · rw [List.length_append]; simp
def objOf (c : Cap) : Obj := (c.kind, c.obj)
def kidsN (sl : List (Place × SV)) (o : Obj) (n : Nat) : List Obj := (List.range n).filterMap fun k : Nat => (look sl (o.2, (k : Int))).map fun v => objOf v.1
def kids (sl : List (Place × SV)) (o : Obj) : List Obj := if o.1 = 2 then kidsN sl o 16 else []
def RL (sl : List (Place × SV)) (o0 : Obj) : Nat → List Obj × List (Obj × Bool)
  | 0 => ([o0], [])
  | j + 1 => match (RL sl o0 j).1[j]? with
    | none => RL sl o0 j
    | some o => if (look (RL sl o0 j).2 o).getD false = true then RL sl o0 j else ((RL sl o0 j).1 ++ kids sl o, ins (RL sl o0 j).2 o true)
structure Walks (sl : List (Place × SV)) (o0 : Obj) (N : Nat) : Prop where
  len : (RL sl o0 N).1.length = N
  go : ∀ j, j < N → j < (RL sl o0 j).1.length
  small : N ≤ 1000
theorem RL_succ {sl : List (Place × SV)} {o0 o : Obj} {j : Nat} (h : (RL sl o0 j).1[j]? = some o) : RL sl o0 (j + 1) = if (look (RL sl o0 j).2 o).getD false = true then RL sl o0 j else ((RL sl o0 j).1 ++ kids sl o, ins (RL sl o0 j).2 o true) := by
  rw [RL, h]
theorem RL_step (sl : List (Place × SV)) (o0 : Obj) (j : Nat) : (RL sl o0 j).1.length ≤ (RL sl o0 (j + 1)).1.length ∧ (RL sl o0 (j + 1)).2.length ≤ (RL sl o0 j).2.length + 1 := by
  cases h : (RL sl o0 j).1[j]? with
  | none => rw [RL, h]; exact ⟨Nat.le_refl _, Nat.le_succ _⟩
  | some o =>
    rw [RL_succ h]
    split
    · exact ⟨Nat.le_refl _, Nat.le_succ _⟩
    · exact ⟨by simp, ins_len _ _ _⟩
theorem RL_mono {sl : List (Place × SV)} {o0 : Obj} {j k : Nat} (h : j ≤ k) : (RL sl o0 j).1.length ≤ (RL sl o0 k).1.length := by
  induction k with
  | zero => rw [Nat.le_zero.1 h]; exact Nat.le_refl _
  | succ k ih =>
    by_cases he : j = k + 1
    · rw [he]; exact Nat.le_refl _
    · exact Nat.le_trans (ih (by omega)) (RL_step sl o0 k).1
theorem RL_met (sl : List (Place × SV)) (o0 : Obj) : ∀ j, (RL sl o0 j).2.length ≤ j
  | 0 => Nat.le_refl _
  | j + 1 => Nat.le_trans (RL_step sl o0 j).2 (Nat.succ_le_succ (RL_met sl o0 j))
theorem Walks.le {sl : List (Place × SV)} {o0 : Obj} {N j : Nat} (h : Walks sl o0 N) (hj : j ≤ N) : (RL sl o0 j).1.length ≤ N := by
  have := RL_mono (sl := sl) (o0 := o0) hj
  rw [h.len] at this; exact this
theorem kidsN_succ {sl : List (Place × SV)} {o : Obj} {n : Nat} : kidsN sl o (n + 1) = kidsN sl o n ++ ((look sl (o.2, (n : Int))).map fun v => objOf v.1).toList := by
  unfold kidsN
  rw [List.range_succ, List.filterMap_append]
  cases h : look sl (o.2, (n : Int)) <;> simp [h]
theorem kidsN_len (sl : List (Place × SV)) (o : Obj) (n : Nat) : (kidsN sl o n).length ≤ n := by
  have := List.length_filterMap_le (fun k : Nat => (look sl (o.2, (k : Int))).map fun v => objOf v.1) (List.range n)
  rw [List.length_range] at this; exact this
def frs (mp : List (Place × M1)) (sp : Int) (xs : List Place) : List Obj := (xs.filter fun p => decide (p.1 = sp)).map fun p => (3, ((look mp p).getD (0, 0)).1)
theorem frs_succ {mp : List (Place × M1)} {sp : Int} {xs : List Place} {k : Nat} {c : Place} (h : xs[k]? = some c) : frs mp sp (xs.take (k + 1)) = frs mp sp (xs.take k) ++ if c.1 = sp then [(3, ((look mp c).getD (0, 0)).1)] else [] := by
  unfold frs
  rw [List.take_add_one, h, List.filter_append, List.map_append]
  by_cases hp : c.1 = sp <;> simp [hp]
theorem frs_len (mp : List (Place × M1)) (sp : Int) (xs : List Place) : (frs mp sp xs).length ≤ xs.length := by
  unfold frs
  rw [List.length_map]; exact List.length_filter_le _ _
def own1 (sp : List (Int × Bool)) (mp : List (Place × M1)) (t : Th) : List Obj := (6, t.unit) :: if (look sp t.space).getD false = true then (8, t.space) :: frs mp t.space (sortP (mp.map Prod.fst)) else []
def own2 (g : Int) (o : Option (Int × Int)) : List Obj := match o with
  | none => []
  | some u => [(9, g), (3, u.1), (3, u.2)]
def rgU (s : KS) (g : Int) : Option (Int × Int) := (look s.rg g).map fun x => (x.2.sq, x.2.cq)
def own (s : KS) (t : Th) : List Obj := own1 s.sp s.mp t ++ own2 t.ring (rgU s t.ring)
theorem own1_len (sp : List (Int × Bool)) (mp : List (Place × M1)) (t : Th) : (own1 sp mp t).length ≤ mp.length + 2 := by
  have := frs_len mp t.space (sortP (mp.map Prod.fst))
  rw [sortP_len, List.length_map] at this
  unfold own1
  split <;> simp <;> omega
theorem own_len (s : KS) (t : Th) : (own s t).length ≤ s.mp.length + 5 := by
  have := own1_len s.sp s.mp t
  unfold own own2
  rw [List.length_append]
  split <;> simp <;> omega
def insT (mm : List (Obj × Bool)) (o : Obj) : List (Obj × Bool) := ins mm o true
theorem insT_len {xs : List Obj} : ∀ {mm : List (Obj × Bool)}, (xs.foldl insT mm).length ≤ mm.length + xs.length := by
  induction xs with
  | nil => intro mm; exact Nat.le_refl _
  | cons x xs ih =>
    intro mm
    have h1 := ih (mm := insT mm x)
    have h2 := ins_len mm x true
    unfold insT at h1 h2 ⊢
    simp only [List.foldl_cons, List.length_cons] at h1 h2 ⊢
    omega
def metN (s : KS) (t : Th) (N : Nat) : List (Obj × Bool) := (own s t).foldl insT (RL s.sl (objOf t.root) N).2
def kReach (s : KS) (u : Int) (N : Nat) : List Obj := match look s.th u with
  | none => []
  | some t => sortP ((metN s t N).map Prod.fst)
set_option maxRecDepth 100000 in
set_option maxHeartbeats 4000000 in
theorem objectC {E : World} {l : List As} {c : Cap} :
    Con Tryz.prog 31 #[.agg (encC c).toArray] E l (fun _ : Unit => .agg (encI (objOf c)).toArray) (fun _ => l) := by
  refine Con.body (vs := [.agg (encC c).toArray]) (n := 8) Tryz.func31 rfl rfl [(0, .agg (encC c).toArray)] (env_ok 1 rfl) <| sr <| L_op <| x_box rfl rfl rfl fun b1 => L_op <| x_alloc ty48 rfl fun b2 => nx <| fa rfl rfl fa119_0 ?_
  refine L_val rfl (v_load rfl ty3 HS (by exact rfl)) ?_
  refine fa rfl rfl fa119_1 <| L_val rfl (v_load rfl ty3 HS (by exact rfl)) ?_
  refine L_pur rfl (bld48 (.cons rfl (.cons rfl .nil)) (by repeat constructor)) <| L_op <| x_store rfl rfl ty48 rfl SM SM RO PT ?_
  refine nq <| J_ret ?_
  refine J_return (()) Tryz.results31 (.cellA rfl ty48 HS CT .nil) ?_ ?_
  · rfl
  · exact SU

set_option maxRecDepth 100000 in
set_option maxHeartbeats 4000000 in
theorem coHasSpace {E : World} {l m : List As} {p : Nat} {s : KS} (hp : Pick (coA p s) l m) {u : Int} :
    Con Tryz.prog 51 #[.pointer (some ⟨p, 0, none⟩), .int .i64 u] E l (fun _ : Unit => .bool ((look s.sp u).getD false)) (fun _ => coA p s :: m) := by
  refine Con.body (vs := [.pointer (some ⟨p, 0, none⟩), .int .i64 u]) (n := 11) Tryz.func51 rfl rfl [(0, .pointer (some ⟨p, 0, none⟩)), (1, .int .i64 u)] (env_ok 2 rfl) <| J_pick hp <| J_coO fun bn be br bg bt bs bp bl bk _ => sr <| ag rfl rfl <| nx <| mv rfl rfl <| nc rfl rfl ?_
  refine fa rfl rfl fa92_14 <| L_val rfl (v_loadL (o := 13) (i := 5) rfl ty66 HS rfl (by exact rfl)) ?_
  refine mv rfl rfl <| L_val rfl (v_look (ek := kZ) (ev := evB) (a := u) rfl rfl ky3 Tryz.underlying66 zv4 HS) ?_
  refine J_slot (t := 10) (v := .bool ((look s.sp u).getD false)) rfl (by cases look s.sp u <;> rfl) <| ag rfl rfl <| nq <| J_ret <| J_coS (p := p) (s := s) bn be br bg bt bs bp bl bk PX trivial ?_
  exact J_return (()) Tryz.results51 (.tmp rfl .nil) rfl SU

set_option maxRecDepth 100000 in
set_option maxHeartbeats 4000000 in
theorem cmpOb {E : World} {l : List As} {a b : Int × Int} :
    Con Tryz.prog 36 #[.agg (encI a).toArray, .agg (encI b).toArray] E l (fun _ : Unit => .int .i64 (cmpP a b)) (fun _ => l) := by
  refine Con.body (vs := [.agg (encI a).toArray, .agg (encI b).toArray]) (n := 17) Tryz.func36 rfl rfl [(0, .agg (encI a).toArray), (1, .agg (encI b).toArray)] (env_ok 2 rfl) <| sr <| L_op <| x_box rfl rfl rfl fun b2 => L_op <| x_box rfl rfl rfl fun b3 => ag rfl rfl <| nq ?_
  refine J_seq <| J_drawL none mixed <| ip 0 rfl rfl rfl rfl (p_fieldAddr rfl fa48_0) <| iv 1 rfl rfl rfl rfl (fun _ => v_load rfl ty3 HS (by exact rfl)) ?_
  refine ip 2 rfl rfl rfl rfl (p_fieldAddr rfl fa48_0) <| iv 3 rfl rfl rfl rfl (fun _ => v_load rfl ty3 HS (by exact rfl)) ?_
  refine ip 5 rfl rfl rfl rfl (p_fieldAddr rfl fa48_1) <| iv 6 rfl rfl rfl rfl (fun _ => v_load rfl ty3 HS (by exact rfl)) ?_
  refine ip 7 rfl rfl rfl rfl (p_fieldAddr rfl fa48_1) <| iv 8 rfl rfl rfl rfl (fun _ => v_load rfl ty3 HS (by exact rfl)) ?_
  refine i1 4 rfl <| x_call Tryz.func38 nm38 bd38 (.cons rfl (.cons rfl .nil)) rfl (cmpZC (x := a.1) (y := b.1)) fun _ => i1 9 rfl <| x_call Tryz.func38 nm38 bd38 (.cons rfl (.cons rfl .nil)) rfl (cmpZC (x := a.2) (y := b.2)) fun _ => i1 10 rfl <| x_lit (vals := [_, _]) Tryz.underlying22 ty3 rfl (.cons rfl (.cons rfl .nil)) (.one rfl (.one rfl .nil)) (Wf.cons rfl rfl (Wf.cons rfl rfl Wf.nil)) rfl (by decide) rfl rfl <| JR fun a15 c15 hw15 hl15 hm15 hz15 => i1 11 rfl ?_
  refine x_call Tryz.func37 nm37 bd37 (.cons rfl .nil) rfl (orZC (x := cmpZ a.1 b.1) (y := cmpZ a.2 b.2) PC) fun _ => ?_
  refine ip 12 rfl rfl rfl rfl (p_assign rfl) <| i0 <| Q_then <| J_ret ?_
  refine J_return (()) Tryz.results36 (.tmp rfl .nil) ?_ ?_
  · rfl
  · exact SU

set_option maxRecDepth 100000 in
set_option maxHeartbeats 4000000 in
theorem keys57 {E : World} {bm : Nat} {v : Value} {ps : List ((Int × Int) × Bool)} :
  Gives Tryz.prog 57 #[.pointer (some ⟨bm, 0, none⟩)] kI (fun ss => ss.Perm (ps.map Prod.fst)) ps.length E (blk bm 124 [v]) (mapV kI evB v ps) := by
 intro lp L hy
 show Con Tryz.prog 57 #[.func (.yield lp) #[] #[], .pointer (some ⟨bm, 0, none⟩)] E (blk bm 124 [v] :: mapV kI evB v ps :: L []) _ _
 refine Con.body (vs := [.func (.yield lp) #[] #[], .pointer (some ⟨bm, 0, none⟩)]) (n := 14) Tryz.func57 rfl rfl [(0, .func (.yield lp) #[] #[]), (1, .pointer (some ⟨bm, 0, none⟩))] (env_ok 2 rfl) <| sr <| L_val rfl (v_load rfl ty124 HS (by exact rfl)) ?_
 refine L_op <| x_range (ek := kI) (ev := evB) rfl Tryz.underlying124 PC rfl fun r5 => ?_
 refine nq <| J_block <| J_rangeKeyd (ek := kI) (ev := evB) (ps := ps) HS fun hK => ?_
 refine J_loop (fun done => Come ps done) (fun done => rangeA kI evB v r5 ps done :: blk bm 124 [v] :: L done) (fun done => [(5, .pointer (some ⟨r5, 0, none⟩)), (0, .func (.yield lp) #[] #[]), (1, .pointer (some ⟨bm, 0, none⟩))]) (fun done => ps.length - done.length) [] Come.nil SU KE ?_
 intro done hC
 refine sr ?_
 refine L_op (x_next (ek := kI) (ev := evB) rfl PC rfl (fun k6 u6 hm6 hn6 => ?_) (fun hd6 => ?_))
 ·
  refine L_pur rfl (p_extract rfl rfl) <| nq <| J_seq <| C_true rfl <| J_skip <| Q_then <| J_block <| sr ?_
  refine L_val rfl (v_entry (ek := kI) (ev := evB) rfl HS (by simp) hm6) ?_
  refine L_pur rfl (p_extract rfl rfl) <| L_op <| x_alloc ty48 rfl fun b3 => L_op <| x_store rfl rfl ty48 rfl SM SM RO PT ?_
  refine nq <| J_seq <| J_regionIn <| LI_op <| J_pur (p_move rfl) rfl rfl rfl <| LI_op <| J_val (v_loadA rfl ty48 HS CT) rfl rfl rfl ?_
  refine LI_yield rfl rfl rfl ((hy done k6 _ _ (hC.lt hK hm6 hn6)).drop) <| LI_op <| J_pur (p_not rfl) rfl rfl rfl <| LI_nil <| Q_then <| C_false rfl <| J_skip <| Q_blk_normal ?_
  refine Q_then ?_
  exact J_again ((done ++ [k6])) (by have := hC.lt hK hm6 hn6; simp; omega) (hC.step hm6 hn6) SU KE
 ·
  refine L_pur rfl (p_extract rfl rfl) <| nq <| J_seq <| C_false rfl <| J_exit <| Q_then_exit <| Q_then_exit <| Q_blk_this ?_
  refine J_endnormal <| J_rangeEnd <| J_pure_in (p := done.Perm (ps.map Prod.fst)) (hC.perm hK hd6) ?_
  exact J_return (done) Tryz.results57 .nil rfl SU

set_option maxRecDepth 100000 in
set_option maxHeartbeats 4000000 in
theorem mapsKeys35 {E : World} {l : List As} {ob : Option Nat} :
    Con Tryz.prog 35 #[.map ob] E l (fun b : Nat => .func (.func 57) #[] #[.pointer (some ⟨b, 0, none⟩)]) (fun b => blk b 124 [.map ob] :: l) := by
  refine Con.body (vs := [.map ob]) (n := 4) Tryz.func35 rfl rfl [(0, .map ob)] (env_ok 1 rfl) <| sr <| L_op <| x_box rfl rfl rfl fun b1 => ag rfl rfl <| nx <| L_pur rfl (p_makeFunc (.cons rfl .nil)) <| ag rfl rfl ?_
  refine nq <| J_ret ?_
  exact J_return (b1) Tryz.results35 (.tmp rfl .nil) rfl SU

theorem obApp {E : World} {l m : List As} {gf : FuncId} {fng : Func} {caps : Array Value} {S : List (Int × Int) → Prop} {N : Nat} {A B : As} (hg : Tryz.prog.funcs[gf]? = some fng) (hgn : (fng.name == "runtime.NumGoroutine") = false) (hgb : fng.body.isNone = false) (hN : N ≤ 1000000) (hseq : Gives Tryz.prog gf caps kI S N E A B) (hp : Picks [A, B] l m) :
    Con Tryz.prog 78 #[.slice none 0 0, .func (.func gf) #[] caps] E l (fun x : Value × List (Int × Int) => x.1) (fun x => As.pure (S x.2) :: row 48 2 x.1 (x.2.map encI) :: A :: B :: m) := fun w H =>
  appendSeqS (sT := 49) (el := 48) (fT := 133) (cells := encI) Tryz.func78 (by kernel_rfl) (by kernel_rfl) (by kernel_rfl) hg hgn hgb Tryz.underlying49 ty48 ty49 rfl (by omega) rfl (fun _ => rfl) (fun _ => ⟨rfl, rfl⟩) (by omega) (by omega) hseq w (hp.sep H)
set_option maxRecDepth 100000 in
set_option maxHeartbeats 4000000 in
theorem obCol {E : World} {l m : List As} {gf : FuncId} {fng : Func} {caps : Array Value} {S : List (Int × Int) → Prop} {N : Nat} {A B : As} (hg : Tryz.prog.funcs[gf]? = some fng) (hgn : (fng.name == "runtime.NumGoroutine") = false) (hgb : fng.body.isNone = false) (hN : N ≤ 1000000) (hseq : Gives Tryz.prog gf caps kI S N E A B) (hp : Picks [A, B] l m) :
    Con Tryz.prog 55 #[.func (.func gf) #[] caps] E l (fun x : Value × List (Int × Int) => x.1) (fun x => As.pure (S x.2) :: row 48 2 x.1 (x.2.map encI) :: A :: B :: m) := by
  refine Con.body (vs := [.func (.func gf) #[] caps]) (n := 5) Tryz.func55 rfl rfl [(0, .func (.func gf) #[] caps)] (env_ok 1 rfl) <| sr <| ag rfl rfl <| nx <| mv rfl rfl <| L_op <| x_call Tryz.func78 nm78 bd78 (.cons rfl (.cons rfl .nil)) rfl (obApp hg hgn hgb hN hseq hp) fun x4 => ag rfl rfl ?_
  refine nq <| J_ret ?_
  exact J_return (x4) Tryz.results55 (.tmp rfl .nil) rfl SU

theorem obSort {E : World} {l m : List As} {v : Value} {xs : List (Int × Int)} (hp : Pick (row 48 2 v (xs.map encI)) l m) (hb : xs.length ≤ 1000000) : Con Tryz.prog 56 #[v, .func (.func 36) #[] #[]] E l (fun _ : Unit => .tuple #[]) (fun _ => row 48 2 v ((sortP xs).map encI) :: m) :=
  con_sortF Tryz.sortOb (fun w => ty48.isAgg w) (fun w => ty48.sizeOf w) (fun _ => rfl) (fun x v hv => by simp [encI] at hv; rcases hv with rfl | rfl <;> rfl) cmpP_swo cmpP_total (enters_of Tryz.func36 nm36 rfl) (fun x y W => cmpOb) hb hp
set_option maxRecDepth 100000 in
set_option maxHeartbeats 4000000 in
theorem obSd {E : World} {l m : List As} {gf : FuncId} {fng : Func} {caps : Array Value} {ks : List (Int × Int)} {A B : As} (hg : Tryz.prog.funcs[gf]? = some fng) (hgn : (fng.name == "runtime.NumGoroutine") = false) (hgb : fng.body.isNone = false) (hN : ks.length ≤ 1000000) (hseq : Gives Tryz.prog gf caps kI (fun ss => ss.Perm ks) ks.length E A B) (hp : Picks [A, B] l m) :
    Con Tryz.prog 34 #[.func (.func gf) #[] caps, .func (.func 36) #[] #[]] E l (fun v : Value => v) (fun v => row 48 2 v ((sortP ks).map encI) :: A :: B :: m) := by
  refine Con.body (vs := [.func (.func gf) #[] caps, .func (.func 36) #[] #[]]) (n := 12) Tryz.func34 rfl rfl [(0, .func (.func gf) #[] caps), (1, .func (.func 36) #[] #[])] (env_ok 2 rfl) <| sr <| ag rfl rfl <| nx <| mv rfl rfl <| L_op <| x_call Tryz.func55 nm55 bd55 (.cons rfl .nil) rfl (obCol hg hgn hgb hN hseq hp) fun x7 => J_pure fun hperm => ?_
  obtain ⟨v7, ss⟩ := x7
  dsimp only at hperm ⊢
  refine ag rfl rfl <| nx <| mv rfl rfl <| mv rfl rfl <| L_op <| x_call Tryz.func56 nm56 bd56 (.cons rfl (.cons rfl .nil)) rfl (obSort (xs := ss) PC (by rw [hperm.length_eq]; exact hN)) fun _ => ?_
  refine nx <| mv rfl rfl <| ag rfl rfl <| nq <| J_ret <| J_rowEq (ys := (sortP ks).map encI) (by rw [sortP_perm hperm]) ?_
  exact J_return (v7) Tryz.results34 (.tmp rfl .nil) rfl SU

set_option maxRecDepth 100000 in
set_option maxHeartbeats 4000000 in
theorem sameObjs {E : World} {l : List As} {v u : Value} {xs : List Obj} (hr : ∀ w, Sep E w l → Reads w 2 v (xs.map encI)) (hs : ∀ w, Sep E w l → Reads w 2 u (xs.map encI)) (hb : xs.length ≤ 1000000) :
  Con Tryz.prog 16 #[v, u] E l (fun _ : Unit => .bool true) (fun _ => l) := by
 refine Con.body (vs := [v, u]) (n := 29) Tryz.func16 rfl rfl [(0, v), (1, u)] (env_ok 2 rfl) <| J_readsB hr fun hw a cap hv h1 h2 h3 => ?_
 subst hv
 refine J_readsB hs fun hw' a' cap' hv h1' h2' h3' => ?_
 subst hv
 have hm : cap ≤ 9223372036854775807 := h2
 have hm' : cap' ≤ 9223372036854775807 := h2'
 have hml : (xs.map encI).length = xs.length := List.length_map _
 refine sr <| ag rfl rfl <| nxx <| mv rfl rfl <| L_pur rfl (p_len rfl Tryz.underlying49) <| mv rfl rfl <| L_pur rfl (p_len rfl Tryz.underlying49) <| L_pur rfl (p_neq rfl rfl) ?_
 refine nq <| J_bool (t := 11) (c := false) rfl (by simp) <| C_false rfl <| J_skip <| Q_then <| J_seq <| sr <| ag rfl rfl ?_
 refine nq <| J_block <| J_loop (α := Nat) (fun k => k ≤ xs.length) (fun _ => l) (fun k => [(5, .int .i64 (k : Int)), (0, .slice a (xs.map encI).length cap), (1, .slice a' (xs.map encI).length cap')]) (fun k => xs.length - k) 0 (by omega) SU KE ?_
 intro k hk
 refine J_seq <| sr <| mv rfl rfl <| mv rfl rfl <| L_pur rfl (p_len rfl Tryz.underlying49) <| L_pur rfl (p_lss rfl rfl) <| nq ?_
 refine C_dec rfl (fun h15 => ?_) (fun h15 => ?_)
 ·
  have hlt : k < xs.length := by omega
  obtain ⟨bx, ox, rfl⟩ := h3 (by intro h; rw [h] at hml; simp at hml; omega)
  obtain ⟨by', oy, rfl⟩ := h3' (by intro h; rw [h] at hml; simp at hml; omega)
  obtain ⟨c, hcc⟩ : ∃ c, xs[k]? = some c := ⟨_, List.getElem?_eq_getElem hlt⟩
  refine J_skip <| Q_then <| J_seq <| J_block <| J_seq <| J_drawS mixed (by kernel_rfl) <| sm rfl rfl <| sm rfl rfl ?_
  refine sp rfl (p_indexAddr rfl rfl Tryz.underlying49 ty48 (by omega) (by omega)) ?_
  refine S_val rfl (v_loadR rfl ty48 (fun w H => hr w (Sub.sep SU H)) (by simp only [Int.toNat_natCast, List.getElem?_map, hcc]; rfl)) ?_
  refine sm rfl rfl <| sm rfl rfl <| sp rfl (p_indexAddr rfl rfl Tryz.underlying49 ty48 (by omega) (by omega)) ?_
  refine S_val rfl (v_loadR rfl ty48 (fun w H => hs w (Sub.sep SU H)) (by simp only [Int.toNat_natCast, List.getElem?_map, hcc]; rfl)) ?_
  refine sp rfl (p_eqv rfl rfl (fun w => eg48 _ _ _ _ _ w) (fun w => eqv48 _ _ _ _ w)) <| sp rfl (p_assign rfl) <| sq <| sr <| mv rfl rfl <| L_pur rfl (p_not rfl) <| nq <| J_bool (t := 28) (c := false) rfl (by simp) ?_
  refine C_false rfl <| J_skip <| Q_blk_normal <| qr <| mv rfl rfl <| L_pur rfl (p_add64 rfl rfl (by omega)) <| ag rfl rfl <| nq ?_
  exact J_again (k + 1) (by omega) (by omega) SU KE
 ·
  refine J_exit <| Q_then_exit <| Q_then_exit <| Q_blk_this <| qx <| ag rfl rfl <| nq <| J_ret ?_
  exact J_return (()) Tryz.results16 (.tmp rfl .nil) rfl SU

set_option maxRecDepth 100000 in
set_option maxHeartbeats 4000000 in
theorem coOwn {E : World} {l m : List As} {p : Nat} {s : KS} (hp : Pick (coA p s) l m) {t : Th} (hb : s.mp.length ≤ 100000) :
  Con Tryz.prog 33 #[.pointer (some ⟨p, 0, none⟩), evT t] E l (fun v : Value => v) (fun v => row 48 2 v ((own s t).map encI) :: coA p s :: m) := by
 refine Con.body (vs := [.pointer (some ⟨p, 0, none⟩), evT t]) (n := 76) Tryz.func33 rfl rfl [(0, .pointer (some ⟨p, 0, none⟩)), (1, evT t)] (env_ok 2 rfl) <| J_pick hp <| sr <| L_op <| x_box rfl rfl rfl fun b3 => ag rfl rfl <| nx <| fa rfl rfl fa121_0 ?_
 refine L_val rfl (v_load rfl ty3 HS (by exact rfl)) ?_
 refine L_pur rfl (bld48 (.cons rfl (.cons rfl .nil)) (by repeat constructor)) <| L_op <| x_lit (vals := [_]) Tryz.underlying49 ty48 rfl (.cons rfl .nil) (.agg .nil) (Wf.cons rfl rfl Wf.nil) rfl (by decide) rfl rfl <| JE ([((6 : Int), t.unit)].map encI) (by rfl) fun a16 c16 hw16 hl16 hm16 hz16 => ag rfl rfl <| nxx <| mv rfl rfl <| fa rfl rfl fa121_1 ?_
 refine L_val rfl (v_load rfl ty3 HS (by exact rfl)) ?_
 refine L_op <| x_call Tryz.func51 nm51 bd51 (.cons rfl (.cons rfl .nil)) rfl (coHasSpace (s := s) (u := t.space) PC) fun _ => ?_
 refine nq ?_
 refine C_split rfl (fun h20 => ?_) (fun h20 => ?_)
 ·
  refine sr <| mv rfl rfl <| fa rfl rfl fa121_1 <| L_val rfl (v_load rfl ty3 HS (by exact rfl)) ?_
  refine L_pur rfl (bld48 (.cons rfl (.cons rfl .nil)) (by repeat constructor)) <| L_op <| x_lit (vals := [_]) Tryz.underlying49 ty48 rfl (.cons rfl .nil) (.agg .nil) (Wf.cons rfl rfl Wf.nil) rfl (by decide) rfl rfl <| JE ([((8 : Int), t.space)].map encI) (by rfl) fun a25 c25 hw25 hl25 hm25 hz25 => L_op <| x_app rfl rfl Tryz.underlying49 ty48 rfl rfl PC (fun w H => sep_reads HS H) (OM) (OM) rfl <| JE ([((6 : Int), t.unit), (8, t.space)].map encI) (by rfl) fun a26 c26 hw26 hl26 hm26 hz26 => ag rfl rfl ?_
  refine nx <| mv rfl rfl <| L_op <| x_call Tryz.func15 nm15 bd15 (.cons rfl .nil) rfl (coMaps) fun _ => L_op <| x_call Tryz.func52 nm52 bd52 (.cons rfl .nil) rfl (coSpAll (s := s) PC (by omega)) <| JR fun a29 c29 hw29 hl29 hm29 hz29 => ?_
  obtain ⟨xs, hxs⟩ : ∃ xs, xs = sortP (s.mp.map Prod.fst) := ⟨_, rfl⟩
  refine J_pick (A := row 54 2 _ _) PC ?_
  refine J_rowTo (ys := xs.map encI) (v' := .slice a29 (xs.map encI).length c29) (by rw [hxs]) (by rw [hxs]) <| J_slot (t := 29) (v := .slice a29 (xs.map encI).length c29) rfl (by rw [hxs]) ?_
  rw [← hxs] at hz29
  have hmcap : c29 ≤ 9223372036854775807 := hm29
  have hml : (xs.map encI).length = xs.length := List.length_map _
  have hxl : xs.length ≤ 100000 := by rw [hxs, sortP_len, List.length_map]; exact hb
  refine L_pur rfl (p_len rfl Tryz.underlying171) <| mv rfl rfl <| nq <| J_block <| J_loop2 (fun k v => k ≤ xs.length) (fun k v => row 48 2 v (([((6 : Int), t.unit), (8, t.space)] ++ frs s.mp t.space (xs.take k)).map encI) :: row 54 2 (.slice a29 (xs.map encI).length c29) (xs.map encI) :: blk b3 121 [.int .i64 t.unit, .int .i64 t.space, .int .i64 t.ring, .int .i64 t.root.kind, .int .i64 t.root.obj, .int .i64 t.root.size, .int .i64 t.root.badge, .int .i64 t.root.rights] :: coA p s :: m) (fun k v => [(31, .int .i64 (k : Int)), (5, v), (29, .slice a29 (xs.map encI).length c29), (30, .int .i64 ((xs.map encI).length : Int)), (3, .pointer (some ⟨b3, 0, none⟩)), (0, .pointer (some ⟨p, 0, none⟩))]) (fun k v => xs.length - k) 0 _ (by omega) SU KE ?_
  intro k v5 hk
  refine sr <| L_pur rfl (p_lss rfl rfl) <| nq <| J_seq ?_
  refine C_dec rfl (fun h32 => ?_) (fun h32 => ?_)
  ·
   have hlt : k < xs.length := by omega
   obtain ⟨bx, ox, rfl⟩ := hz29 (by intro h; rw [h] at hml; simp at hml; omega)
   obtain ⟨c, hcc⟩ : ∃ c, xs[k]? = some c := ⟨_, List.getElem?_eq_getElem hlt⟩
   have hsucc := frs_succ (mp := s.mp) (sp := t.space) hcc
   have hfl := frs_len s.mp t.space (xs.take k)
   have htl : (xs.take k).length ≤ xs.length := by simp; omega
   refine J_skip <| Q_then <| J_seq <| J_block <| sr <| L_pur rfl (p_indexAddr rfl rfl Tryz.underlying171 ty54 (by omega) (by omega)) ?_
   refine L_val rfl (v_loadE rfl ty54 HS (by first | (simp only [Int.toNat_natCast, List.getElem?_map, hcc]; rfl) | (simp only [Int.toNat_natCast, List.getElem?_map, hcd]; rfl) | simp | rfl)) ?_
   refine L_op <| x_alloc ty54 rfl fun b7 => L_op <| x_store rfl rfl ty54 rfl SM SM RO PT ?_
   refine J_pick (A := blk b7 _ _) PC ?_
   refine J_asTo (B := blk b7 54 (encI c)) (by rfl) <| nq <| J_seq <| J_drawL none mixed <| ip 0 rfl rfl rfl rfl (p_move rfl) <| iv 2 rfl rfl rfl rfl (fun _ => v_loadA rfl ty54 HS CT) ?_
   refine I_ready (rs := [1, 7]) SI (by kernel_rfl) (by simp) ?_
   refine (I_cons rfl ?_ (I_cons rfl ?_ I_nil))
   ·
    refine x_call Tryz.func15 nm15 bd15 (.cons rfl .nil) rfl (coMaps) fun _ => I_ready (rs := [3, 7]) SI (by kernel_rfl) (by simp) ?_
    refine (I_cons rfl ?_ (I_cons rfl ?_ I_nil))
    ·
     refine x_call Tryz.func53 nm53 bd53 (.cons rfl (.cons rfl .nil)) rfl (coSpGet (s := s) (a := c) PC) fun _ => ?_
     refine ip 4 rfl rfl rfl rfl (p_move rfl) <| ip 5 rfl rfl rfl rfl (p_extract rfl rfl) <| ip 6 rfl rfl rfl rfl (p_extract rfl rfl) <| i1 7 rfl <| x_alloc ty56 rfl fun b8 => i1 8 rfl <| x_store rfl rfl ty56 rfl SM SM RO PT ?_
     refine J_pick (A := blk b8 _ _) PC ?_
     refine J_asTo (B := blk b8 56 (encI ((look s.mp c).getD (0, 0)))) (by rfl) <| ip 9 rfl rfl rfl rfl (p_assign rfl) <| i0 <| qx <| fa rfl rfl fa54_0 <| L_val rfl (v_load rfl ty3 HS (by exact rfl)) ?_
     refine fa rfl rfl fa121_1 <| L_val rfl (v_load rfl ty3 HS (by exact rfl)) ?_
     refine L_pur rfl (p_eql rfl rfl) <| nq ?_
     refine C_dec rfl (fun h46 => ?_) (fun h46 => ?_)
     ·
      refine J_region <| mv rfl rfl <| fa rfl rfl fa56_0 <| L_val rfl (v_load rfl ty3 HS (by exact rfl)) ?_
      refine L_pur rfl (bld48 (.cons rfl (.cons rfl .nil)) (by repeat constructor)) <| L_op <| x_lit (vals := [_]) Tryz.underlying49 ty48 rfl (.cons rfl .nil) (.agg .nil) (Wf.cons rfl rfl Wf.nil) rfl (by decide) rfl rfl <| JE ([((3 : Int), ((look s.mp c).getD (0, 0)).1)].map encI) (by rfl) fun a51 c51 hw51 hl51 hm51 hz51 => L_op <| x_app rfl rfl Tryz.underlying49 ty48 rfl rfl PC (fun w H => sep_reads HS H) (by simp; omega) (by simp; omega) rfl <| JE (([((6 : Int), t.unit), (8, t.space)] ++ frs s.mp t.space (xs.take (k + 1))).map encI) (by rw [hsucc, if_pos h46]; simp) fun a52 c52 hw52 hl52 hm52 hz52 => ag rfl rfl ?_
      refine L_nil <| Q_blk_normal <| qr <| L_pur rfl (p_add64 rfl rfl (by omega)) <| mv rfl rfl <| nq ?_
      
      exact J_again2 (k + 1) _ (by omega) (by omega) SU KE
     ·
      refine J_skip <| Q_blk_normal <| qr <| L_pur rfl (p_add64 rfl rfl (by omega)) <| mv rfl rfl <| nq <| J_pick (A := row 48 2 v5 _) PC ?_
      refine J_rowEq (ys := ([((6 : Int), t.unit), (8, t.space)] ++ frs s.mp t.space (xs.take (k + 1))).map encI) (by rw [hsucc, if_neg h46, List.append_nil]) ?_
      exact J_again2 (k + 1) _ (by omega) (by omega) SU KE
    ·
     refine x_alloc ty56 rfl fun b8 => i1 3 rfl <| x_call Tryz.func53 nm53 bd53 (.cons rfl (.cons rfl .nil)) rfl (coSpGet (s := s) (a := c) PC) fun _ => ?_
     refine ip 4 rfl rfl rfl rfl (p_move rfl) <| ip 5 rfl rfl rfl rfl (p_extract rfl rfl) <| ip 6 rfl rfl rfl rfl (p_extract rfl rfl) <| i1 8 rfl <| x_store rfl rfl ty56 rfl SM SM RO PT ?_
     refine J_pick (A := blk b8 _ _) PC ?_
     refine J_asTo (B := blk b8 56 (encI ((look s.mp c).getD (0, 0)))) (by rfl) <| ip 9 rfl rfl rfl rfl (p_assign rfl) <| i0 <| qx <| fa rfl rfl fa54_0 <| L_val rfl (v_load rfl ty3 HS (by exact rfl)) ?_
     refine fa rfl rfl fa121_1 <| L_val rfl (v_load rfl ty3 HS (by exact rfl)) ?_
     refine L_pur rfl (p_eql rfl rfl) <| nq ?_
     refine C_dec rfl (fun h46 => ?_) (fun h46 => ?_)
     ·
      refine J_region <| mv rfl rfl <| fa rfl rfl fa56_0 <| L_val rfl (v_load rfl ty3 HS (by exact rfl)) ?_
      refine L_pur rfl (bld48 (.cons rfl (.cons rfl .nil)) (by repeat constructor)) <| L_op <| x_lit (vals := [_]) Tryz.underlying49 ty48 rfl (.cons rfl .nil) (.agg .nil) (Wf.cons rfl rfl Wf.nil) rfl (by decide) rfl rfl <| JE ([((3 : Int), ((look s.mp c).getD (0, 0)).1)].map encI) (by rfl) fun a51 c51 hw51 hl51 hm51 hz51 => L_op <| x_app rfl rfl Tryz.underlying49 ty48 rfl rfl PC (fun w H => sep_reads HS H) (by simp; omega) (by simp; omega) rfl <| JE (([((6 : Int), t.unit), (8, t.space)] ++ frs s.mp t.space (xs.take (k + 1))).map encI) (by rw [hsucc, if_pos h46]; simp) fun a52 c52 hw52 hl52 hm52 hz52 => ag rfl rfl ?_
      refine L_nil <| Q_blk_normal <| qr <| L_pur rfl (p_add64 rfl rfl (by omega)) <| mv rfl rfl <| nq ?_
      
      exact J_again2 (k + 1) _ (by omega) (by omega) SU KE
     ·
      refine J_skip <| Q_blk_normal <| qr <| L_pur rfl (p_add64 rfl rfl (by omega)) <| mv rfl rfl <| nq <| J_pick (A := row 48 2 v5 _) PC ?_
      refine J_rowEq (ys := ([((6 : Int), t.unit), (8, t.space)] ++ frs s.mp t.space (xs.take (k + 1))).map encI) (by rw [hsucc, if_neg h46, List.append_nil]) ?_
      exact J_again2 (k + 1) _ (by omega) (by omega) SU KE
   ·
    refine x_alloc ty56 rfl fun b8 => i1 1 rfl <| x_call Tryz.func15 nm15 bd15 (.cons rfl .nil) rfl (coMaps) fun _ => i1 3 rfl <| x_call Tryz.func53 nm53 bd53 (.cons rfl (.cons rfl .nil)) rfl (coSpGet (s := s) (a := c) PC) fun _ => ?_
    refine ip 4 rfl rfl rfl rfl (p_move rfl) <| ip 5 rfl rfl rfl rfl (p_extract rfl rfl) <| ip 6 rfl rfl rfl rfl (p_extract rfl rfl) <| i1 8 rfl <| x_store rfl rfl ty56 rfl SM SM RO PT ?_
    refine J_pick (A := blk b8 _ _) PC ?_
    refine J_asTo (B := blk b8 56 (encI ((look s.mp c).getD (0, 0)))) (by rfl) <| ip 9 rfl rfl rfl rfl (p_assign rfl) <| i0 <| qx <| fa rfl rfl fa54_0 <| L_val rfl (v_load rfl ty3 HS (by exact rfl)) ?_
    refine fa rfl rfl fa121_1 <| L_val rfl (v_load rfl ty3 HS (by exact rfl)) ?_
    refine L_pur rfl (p_eql rfl rfl) <| nq ?_
    refine C_dec rfl (fun h46 => ?_) (fun h46 => ?_)
    ·
     refine J_region <| mv rfl rfl <| fa rfl rfl fa56_0 <| L_val rfl (v_load rfl ty3 HS (by exact rfl)) ?_
     refine L_pur rfl (bld48 (.cons rfl (.cons rfl .nil)) (by repeat constructor)) <| L_op <| x_lit (vals := [_]) Tryz.underlying49 ty48 rfl (.cons rfl .nil) (.agg .nil) (Wf.cons rfl rfl Wf.nil) rfl (by decide) rfl rfl <| JE ([((3 : Int), ((look s.mp c).getD (0, 0)).1)].map encI) (by rfl) fun a51 c51 hw51 hl51 hm51 hz51 => L_op <| x_app rfl rfl Tryz.underlying49 ty48 rfl rfl PC (fun w H => sep_reads HS H) (by simp; omega) (by simp; omega) rfl <| JE (([((6 : Int), t.unit), (8, t.space)] ++ frs s.mp t.space (xs.take (k + 1))).map encI) (by rw [hsucc, if_pos h46]; simp) fun a52 c52 hw52 hl52 hm52 hz52 => ag rfl rfl ?_
     refine L_nil <| Q_blk_normal <| qr <| L_pur rfl (p_add64 rfl rfl (by omega)) <| mv rfl rfl <| nq ?_
     
     exact J_again2 (k + 1) _ (by omega) (by omega) SU KE
    ·
     refine J_skip <| Q_blk_normal <| qr <| L_pur rfl (p_add64 rfl rfl (by omega)) <| mv rfl rfl <| nq <| J_pick (A := row 48 2 v5 _) PC ?_
     refine J_rowEq (ys := ([((6 : Int), t.unit), (8, t.space)] ++ frs s.mp t.space (xs.take (k + 1))).map encI) (by rw [hsucc, if_neg h46, List.append_nil]) ?_
     exact J_again2 (k + 1) _ (by omega) (by omega) SU KE
  ·
   refine J_exit <| Q_then_exit <| Q_then_exit <| Q_blk_this <| Q_then <| J_seq <| J_seq <| J_pick (A := row 48 2 _ (_ : List (List Value))) PC ?_
   have hkx : k = xs.length := by omega
   refine J_rowEq (ys := (own1 s.sp s.mp t).map encI) (by unfold own1; rw [if_pos h20, ← hxs, hkx, List.take_length]; rfl) ?_
   have hol := own1_len s.sp s.mp t
   refine J_region <| mv rfl rfl <| fa rfl rfl fa121_2 <| L_val rfl (v_load rfl ty3 HS (by exact rfl)) ?_
   refine L_op <| x_call Tryz.func27 nm27 bd27 (.cons rfl (.cons rfl .nil)) rfl (coRing (s := s) (u := t.ring) PC) fun _ => ?_
   refine J_slot (t := 57) (v := .pointer ((look (ptrs s.rg) t.ring).map fun b => ⟨b, 0, none⟩)) rfl rfl <| ag rfl rfl <| nx <| mv rfl rfl <| L_pur rfl (p_neNilPtr Tryz.underlying113 rfl) <| nq ?_
   refine C_split rfl (fun h59 => ?_) (fun h59 => ?_)
   ·
    obtain ⟨b, hb9⟩ : ∃ b, look (ptrs s.rg) t.ring = some b := by
     cases hq : look (ptrs s.rg) t.ring with
     | none => rw [hq] at h59; simp at h59
     | some b => exact ⟨b, rfl⟩
    obtain ⟨ob, hob⟩ := look_got hb9
    obtain ⟨j, hj⟩ := look_ix hob
    have hru : rgU s t.ring = some (ob.sq, ob.cq) := by unfold rgU; rw [hob]; rfl
    refine sr <| mv rfl rfl <| J_slot (t := 61) (v := .pointer (some ⟨b, 0, none⟩)) rfl (by rw [hb9]; rfl) <| L_op <| x_call Tryz.func54 nm54 bd54 (.cons rfl .nil) rfl (coUnits (s := s) PC hj) fun _ => ?_
    refine mv rfl rfl <| L_pur rfl (p_extract rfl rfl) <| L_pur rfl (p_extract rfl rfl) <| ag rfl rfl <| ag rfl rfl <| ny <| mv rfl rfl <| fa rfl rfl fa121_2 ?_
    refine L_val rfl (v_load rfl ty3 HS (by exact rfl)) ?_
    refine L_pur rfl (bld48 (.cons rfl (.cons rfl .nil)) (by repeat constructor)) <| mv rfl rfl <| L_pur rfl (bld48 (.cons rfl (.cons rfl .nil)) (by repeat constructor)) <| mv rfl rfl <| L_pur rfl (bld48 (.cons rfl (.cons rfl .nil)) (by repeat constructor)) <| L_op <| x_lit (vals := [_, _, _]) Tryz.underlying49 ty48 rfl (.cons rfl (.cons rfl (.cons rfl .nil))) (.agg (.agg (.agg .nil))) (Wf.cons rfl rfl (Wf.cons rfl rfl (Wf.cons rfl rfl Wf.nil))) rfl (by decide) rfl rfl <| JE ([((9 : Int), t.ring), (3, ob.sq), (3, ob.cq)].map encI) (by rfl) fun a73 c73 hw73 hl73 hm73 hz73 => ?_
    refine L_op <| x_app rfl rfl Tryz.underlying49 ty48 rfl rfl PC (fun w H => sep_reads HS H) (by simp; omega) (by simp; omega) rfl <| JE ((own s t).map encI) (by unfold own own2; rw [hru]; simp) fun a74 c74 hw74 hl74 hm74 hz74 => ag rfl rfl <| nx <| mv rfl rfl <| ag rfl rfl <| nq ?_
    refine J_ret ?_
    exact J_return (_) Tryz.results33 (.tmp rfl .nil) rfl SU
   ·
    have hru : rgU s t.ring = none := by
     cases hq : look s.rg t.ring with
     | none => unfold rgU; rw [hq]; rfl
     | some b => rw [look_is hq] at h59; simp at h59
    refine J_skip <| qx <| mv rfl rfl <| ag rfl rfl <| nq <| J_ret <| J_pick (A := row 48 2 _ ((own1 s.sp s.mp t).map encI)) PC ?_
    refine J_rowEq (ys := (own s t).map encI) (by unfold own own2; rw [hru, List.append_nil]) ?_
    exact J_return (_) Tryz.results33 (.tmp rfl .nil) rfl SU
 ·
  refine J_skip <| Q_then <| J_seq <| J_seq <| J_pick (A := row 48 2 _ (_ : List (List Value))) PC ?_
  refine J_rowEq (ys := (own1 s.sp s.mp t).map encI) (by unfold own1; rw [if_neg (by rw [h20]; decide)]) ?_
  have hol := own1_len s.sp s.mp t
  refine J_region <| mv rfl rfl <| fa rfl rfl fa121_2 <| L_val rfl (v_load rfl ty3 HS (by exact rfl)) ?_
  refine L_op <| x_call Tryz.func27 nm27 bd27 (.cons rfl (.cons rfl .nil)) rfl (coRing (s := s) (u := t.ring) PC) fun _ => ?_
  refine J_slot (t := 57) (v := .pointer ((look (ptrs s.rg) t.ring).map fun b => ⟨b, 0, none⟩)) rfl rfl <| ag rfl rfl <| nx <| mv rfl rfl <| L_pur rfl (p_neNilPtr Tryz.underlying113 rfl) <| nq ?_
  refine C_split rfl (fun h59 => ?_) (fun h59 => ?_)
  ·
   obtain ⟨b, hb9⟩ : ∃ b, look (ptrs s.rg) t.ring = some b := by
    cases hq : look (ptrs s.rg) t.ring with
    | none => rw [hq] at h59; simp at h59
    | some b => exact ⟨b, rfl⟩
   obtain ⟨ob, hob⟩ := look_got hb9
   obtain ⟨j, hj⟩ := look_ix hob
   have hru : rgU s t.ring = some (ob.sq, ob.cq) := by unfold rgU; rw [hob]; rfl
   refine sr <| mv rfl rfl <| J_slot (t := 61) (v := .pointer (some ⟨b, 0, none⟩)) rfl (by rw [hb9]; rfl) <| L_op <| x_call Tryz.func54 nm54 bd54 (.cons rfl .nil) rfl (coUnits (s := s) PC hj) fun _ => ?_
   refine mv rfl rfl <| L_pur rfl (p_extract rfl rfl) <| L_pur rfl (p_extract rfl rfl) <| ag rfl rfl <| ag rfl rfl <| ny <| mv rfl rfl <| fa rfl rfl fa121_2 ?_
   refine L_val rfl (v_load rfl ty3 HS (by exact rfl)) ?_
   refine L_pur rfl (bld48 (.cons rfl (.cons rfl .nil)) (by repeat constructor)) <| mv rfl rfl <| L_pur rfl (bld48 (.cons rfl (.cons rfl .nil)) (by repeat constructor)) <| mv rfl rfl <| L_pur rfl (bld48 (.cons rfl (.cons rfl .nil)) (by repeat constructor)) <| L_op <| x_lit (vals := [_, _, _]) Tryz.underlying49 ty48 rfl (.cons rfl (.cons rfl (.cons rfl .nil))) (.agg (.agg (.agg .nil))) (Wf.cons rfl rfl (Wf.cons rfl rfl (Wf.cons rfl rfl Wf.nil))) rfl (by decide) rfl rfl <| JE ([((9 : Int), t.ring), (3, ob.sq), (3, ob.cq)].map encI) (by rfl) fun a73 c73 hw73 hl73 hm73 hz73 => ?_
   refine L_op <| x_app rfl rfl Tryz.underlying49 ty48 rfl rfl PC (fun w H => sep_reads HS H) (by simp; omega) (by simp; omega) rfl <| JE ((own s t).map encI) (by unfold own own2; rw [hru]; simp) fun a74 c74 hw74 hl74 hm74 hz74 => ag rfl rfl <| nx <| mv rfl rfl <| ag rfl rfl <| nq ?_
   refine J_ret ?_
   exact J_return (_) Tryz.results33 (.tmp rfl .nil) rfl SU
  ·
   have hru : rgU s t.ring = none := by
    cases hq : look s.rg t.ring with
    | none => unfold rgU; rw [hq]; rfl
    | some b => rw [look_is hq] at h59; simp at h59
   refine J_skip <| qx <| mv rfl rfl <| ag rfl rfl <| nq <| J_ret <| J_pick (A := row 48 2 _ ((own1 s.sp s.mp t).map encI)) PC ?_
   refine J_rowEq (ys := (own s t).map encI) (by unfold own own2; rw [hru, List.append_nil]) ?_
   exact J_return (_) Tryz.results33 (.tmp rfl .nil) rfl SU

set_option maxRecDepth 100000 in
set_option maxHeartbeats 4000000 in
theorem coReach {E : World} {l m : List As} {p : Nat} {s : KS} (hp : Pick (coA p s) l m) {u : Int} {N : Nat} (hb : s.mp.length ≤ 100000) (hN : ∀ t, look s.th u = some t → Walks s.sl (objOf t.root) N) :
    Con Tryz.prog 17 #[.pointer (some ⟨p, 0, none⟩), .int .i64 u] E l (fun v : Value => v) (fun v => row 48 2 v ((kReach s u N).map encI) :: coA p s :: m) := by
  refine Con.body (vs := [.pointer (some ⟨p, 0, none⟩), .int .i64 u]) (n := 90) Tryz.func17 rfl rfl [(0, .pointer (some ⟨p, 0, none⟩)), (1, .int .i64 u)] (env_ok 2 rfl) <| J_pick hp <| sr <| ag rfl rfl <| nx <| mv rfl rfl <| mv rfl rfl <| L_op <| x_call Tryz.func30 nm30 bd30 (.cons rfl (.cons rfl .nil)) rfl (coThr (s := s) (u := u) PC) fun _ => ?_
  refine mv rfl rfl <| L_pur rfl (p_extract rfl rfl) <| L_pur rfl (p_extract rfl rfl) <| L_op <| x_alloc ty121 rfl fun b5 => L_op <| x_store rfl rfl ty121 rfl SM SM RO PT ?_
  refine ag rfl rfl <| nxx <| mv rfl rfl <| L_pur rfl (p_not rfl) <| nq ?_
  refine C_split rfl (fun h22 => ?_) (fun h22 => ?_)
  ·
    have hno : look s.th u = none := by
      cases hq : look s.th u with
      | none => rfl
      | some t => rw [hq] at h22; simp at h22
    refine sr <| ag rfl rfl <| nq <| J_ret <| Q_then_ret <| J_nil (el := 48) (sz := 2) <| J_rowEq (ys := (kReach s u N).map encI) (by unfold kReach; rw [hno]; rfl) ?_
    exact J_return (_) Tryz.results17 (.tmp rfl .nil) rfl SU
  ·
    obtain ⟨t, ht⟩ : ∃ t, look s.th u = some t := by
      cases hq : look s.th u with
      | none => rw [hq] at h22; simp at h22
      | some t => exact ⟨t, rfl⟩
    have hW := hN t ht
    refine J_pick (A := blk b5 _ _) PC ?_
    refine J_asTo (B := blk b5 121 [.int .i64 t.unit, .int .i64 t.space, .int .i64 t.ring, .int .i64 t.root.kind, .int .i64 t.root.obj, .int .i64 t.root.size, .int .i64 t.root.badge, .int .i64 t.root.rights]) (by rw [ht]; rfl) <| J_skip <| qx <| L_op <| x_makeMap (ek := kI) (ev := evB) rfl fun b23 => ag rfl rfl <| nx <| fa rfl rfl fa121_3 ?_
    refine L_val rfl (v_loadA rfl ty119 HS CT) ?_
    refine L_op <| x_call Tryz.func31 nm31 bd31 (.cons rfl .nil) rfl (objectC) fun _ => L_op <| x_lit (vals := [_]) Tryz.underlying49 ty48 rfl (.cons rfl .nil) (.agg .nil) (Wf.cons rfl rfl Wf.nil) rfl (by decide) rfl rfl <| JE ([objOf t.root].map encI) (by rfl) fun a27 c27 hw27 hl27 hm27 hz27 => ag rfl rfl <| nxx <| ag rfl rfl ?_
    refine nq <| J_block <| J_loop2 (fun (j : Nat) (v : Value) => j ≤ N) (fun j v => row 48 2 v ((RL s.sl (objOf t.root) j).1.map encI) :: mapV kI evB (.map (some b23)) (RL s.sl (objOf t.root) j).2 :: blk b5 121 [.int .i64 t.unit, .int .i64 t.space, .int .i64 t.ring, .int .i64 t.root.kind, .int .i64 t.root.obj, .int .i64 t.root.size, .int .i64 t.root.badge, .int .i64 t.root.rights] :: coA p s :: m) (fun j v => [(9, .int .i64 (j : Int)), (8, v), (7, .map (some b23)), (5, .pointer (some ⟨b5, 0, none⟩)), (0, .pointer (some ⟨p, 0, none⟩))]) (fun j v => N - j) 0 _ (by omega) SU KE ?_
    intro j v8 hj
    have hRL := fun o => RL_succ (sl := s.sl) (o0 := objOf t.root) (o := o) (j := j)
    have hle := hW.le hj
    have hgo := hW.go j
    have hend := hW.len
    have hsm := hW.small
    obtain ⟨lm, hlm⟩ : ∃ lm, lm = RL s.sl (objOf t.root) j := ⟨_, rfl⟩
    rw [← hlm] at hRL hle hgo ⊢
    obtain ⟨l, met⟩ := lm
    dsimp only at hRL hle hgo ⊢
    refine J_row .here fun hw8 a8 c8 hv8 hl8 hm8 hz8 => ?_
    subst hv8
    have hml8 : (l.map encI).length = l.length := List.length_map _
    have hmcap8 : c8 ≤ 9223372036854775807 := hm8
    refine J_seq <| sr <| mv rfl rfl <| mv rfl rfl <| L_pur rfl (p_len rfl Tryz.underlying49) <| L_pur rfl (p_lss rfl rfl) <| nq ?_
    refine C_dec rfl (fun h31 => ?_) (fun h31 => ?_)
    ·
      have hlt : j < l.length := by omega
      obtain ⟨bx, ox, rfl⟩ := hz8 (by intro h; rw [h] at hml8; simp at hml8; omega)
      obtain ⟨o, hoc⟩ : ∃ c, l[j]? = some c := ⟨_, List.getElem?_eq_getElem hlt⟩
      have hRL := hRL o hoc
      have hjN : j < N := by
        rcases Nat.lt_or_ge j N with h | h
        · exact h
        · have : j = N := by omega
          rw [this] at hlt hlm; rw [← hlm] at hend; dsimp only at hend; omega
      refine J_skip <| Q_then <| J_seq <| J_block <| J_seq <| sr <| mv rfl rfl <| mv rfl rfl ?_
      refine mv rfl rfl <| L_pur rfl (p_indexAddr rfl rfl Tryz.underlying49 ty48 (by omega) (by omega)) ?_
      refine L_val rfl (v_loadE rfl ty48 HS (by simp only [Int.toNat_natCast, List.getElem?_map, hoc]; rfl)) ?_
      refine L_val rfl (v_look (ek := kI) (ev := evB) (a := o) rfl rfl ky48 Tryz.underlying124 zv4 HS) ?_
      refine J_slot (t := 39) (v := .bool ((look met o).getD false)) rfl (by cases look met o <;> rfl) <| nq ?_
      refine C_split rfl (fun h39 => ?_) (fun h39 => ?_)
      ·
        refine J_exit <| Q_then_exit <| Q_blk_this <| qr <| mv rfl rfl <| L_pur rfl (p_add64 rfl rfl (by omega)) <| ag rfl rfl <| nq ?_
        refine J_pick (A := row 48 2 _ (l.map encI)) PC ?_
        refine J_rowEq (ys := (RL s.sl (objOf t.root) (j + 1)).1.map encI) (by rw [hRL, if_pos h39]) <| J_pick (A := mapV kI evB (.map (some b23)) met) PC ?_
        refine J_mapEq (qs := (RL s.sl (objOf t.root) (j + 1)).2) (by rw [hRL, if_pos h39]) ?_
        exact J_again2 (j + 1) _ (by omega) (by omega) SU KE
      ·
        refine J_skip <| qx <| mv rfl rfl <| mv rfl rfl <| mv rfl rfl <| L_pur rfl (p_indexAddr rfl rfl Tryz.underlying49 ty48 (by omega) (by omega)) ?_
        refine L_val rfl (v_loadE rfl ty48 HS (by simp only [Int.toNat_natCast, List.getElem?_map, hoc]; rfl)) ?_
        refine L_op <| x_mapUpdate (ek := kI) (ev := evB) (a := o) (c := true) rfl rfl rfl ky48 Tryz.underlying124 PC ?_
        refine nq <| J_seq <| J_pick (A := row 48 2 _ (l.map encI)) PC ?_
        refine J_rowEq (ys := (l ++ kidsN s.sl o 0).map encI) (by show _ = (l ++ []).map encI; rw [List.append_nil]) <| J_region <| ag rfl rfl <| nq <| J_block <| J_loop2 (fun (n : Nat) (v : Value) => n ≤ 16 ∧ (0 < n → o.1 = 2)) (fun n v => row 48 2 v ((l ++ kidsN s.sl o n).map encI) :: mapV kI evB (.map (some b23)) (ins met o true) :: blk b5 121 [.int .i64 t.unit, .int .i64 t.space, .int .i64 t.ring, .int .i64 t.root.kind, .int .i64 t.root.obj, .int .i64 t.root.size, .int .i64 t.root.badge, .int .i64 t.root.rights] :: coA p s :: m) (fun n v => [(10, .int .i64 (n : Int)), (9, .int .i64 (j : Int)), (8, v), (7, .map (some b23)), (5, .pointer (some ⟨b5, 0, none⟩)), (0, .pointer (some ⟨p, 0, none⟩))]) (fun n v => 16 - n) 0 _ ⟨by omega, fun h => absurd h (by omega)⟩ SU KE ?_
        intro n v9 hn
        obtain ⟨hn, hn2⟩ := hn
        have hkl := kidsN_len s.sl o n
        have hks := kidsN_succ (sl := s.sl) (o := o) (n := n)
        refine J_row .here fun hw9 a9 c9 hv9 hl9 hm9 hz9 => ?_
        subst hv9
        have hml9 : ((l ++ kidsN s.sl o n).map encI).length = l.length + (kidsN s.sl o n).length := by rw [List.length_map, List.length_append]
        have hmcap9 : c9 ≤ 9223372036854775807 := hm9
        obtain ⟨bx9, ox9, rfl⟩ := hz9 (by intro h; rw [h] at hml9; simp at hml9; omega)
        have hoc9 : (l ++ kidsN s.sl o n)[j]? = some o := by rw [List.getElem?_append_left hlt]; exact hoc
        refine J_seq <| sr <| mv rfl rfl <| L_pur rfl (p_lss rfl rfl) <| mv rfl rfl ?_
        refine J_gsplit (t := 47) rfl (fun h47 => ?_) (fun h47 => ?_)
        ·
          have hn16 : n < 16 := by simp at h47; omega
          refine L_op <| G_on rfl rfl rfl <| J_pur (p_move rfl) rfl rfl rfl <| L_op <| G_on rfl rfl rfl <| J_pur (p_move rfl) rfl rfl rfl <| L_op <| G_on rfl rfl rfl ?_
          refine J_pur (p_indexAddr rfl rfl Tryz.underlying49 ty48 (by omega) (by omega)) rfl rfl rfl <| L_op <| G_on rfl rfl rfl <| J_pur (p_fieldAddr rfl fa48_0) rfl rfl rfl <| L_op <| G_on rfl rfl rfl ?_
          refine J_val (v_loadF rfl ty3 HS (by simp only [Int.toNat_natCast, List.getElem?_map, hoc9]; rfl) (by exact rfl)) rfl rfl rfl ?_
          refine L_op <| G_on rfl rfl rfl <| J_pur (p_eql rfl rfl) rfl rfl rfl <| L_pur rfl (p_pick_t rfl rfl) <| nq ?_
          refine C_dec rfl (fun h54 => ?_) (fun h54 => ?_)
          ·
            refine J_skip <| Q_then <| J_seq <| J_block <| J_seq <| J_drawL none mixed <| ip 0 rfl rfl rfl rfl (p_move rfl) <| ip 2 rfl rfl rfl rfl (p_move rfl) ?_
            refine ip 3 rfl rfl rfl rfl (p_move rfl) <| ip 4 rfl rfl rfl rfl (p_indexAddr rfl rfl Tryz.underlying49 ty48 (by omega) (by omega)) <| ip 5 rfl rfl rfl rfl (p_fieldAddr rfl fa48_1) ?_
            refine I_take (i := 6) rfl rfl rfl rfl (by kernel_rfl) (fun _ _ _ _ h => h) (fun _ => v_loadF rfl ty3 HS (by simp only [Int.toNat_natCast, List.getElem?_map, hoc9]; rfl) (by exact rfl)) ?_
            refine ip 7 rfl rfl rfl rfl (p_move rfl) <| ip 8 rfl rfl rfl rfl (bld129 (.cons rfl (.cons rfl .nil)) (by repeat constructor)) <| J_slot (t := 66) (v := .agg (encI (o.2, (n : Int))).toArray) rfl rfl <| I_ready (rs := [1, 13]) SI (by kernel_rfl) (by simp) ?_
            refine (I_cons rfl ?_ (I_cons rfl ?_ I_nil))
            ·
              refine x_call Tryz.func14 nm14 bd14 (.cons rfl .nil) rfl (coSlots) fun _ => I_ready (rs := [9, 13]) SI (by kernel_rfl) (by simp) ?_
              refine (I_cons rfl ?_ (I_cons rfl ?_ I_nil))
              ·
                refine x_call Tryz.func32 nm32 bd32 (.cons rfl (.cons rfl .nil)) rfl (coSlGet (s := s) (a := (o.2, (n : Int))) PC) fun _ => ?_
                refine ip 10 rfl rfl rfl rfl (p_move rfl) <| ip 11 rfl rfl rfl rfl (p_extract rfl rfl) <| ip 12 rfl rfl rfl rfl (p_extract rfl rfl) <| i1 13 rfl <| x_alloc ty119 rfl fun b11 => i1 14 rfl <| x_store rfl rfl ty119 rfl SM SM RO PT ?_
                refine J_pick (A := blk b11 _ _) PC ?_
                refine J_asTo (B := blk b11 119 (encC ((look s.sl (o.2, (n : Int))).getD s0).1)) (by rfl) <| ip 15 rfl rfl rfl rfl (p_assign rfl) <| i0 <| qx <| mv rfl rfl <| nq ?_
                refine C_split rfl (fun h70 => ?_) (fun h70 => ?_)
                ·
                  obtain ⟨sv, hsv⟩ : ∃ sv, look s.sl (o.2, (n : Int)) = some sv := by
                    cases hq : look s.sl (o.2, (n : Int)) with
                    | none => rw [hq] at h70; simp at h70
                    | some sv => exact ⟨sv, rfl⟩
                  rw [hsv, Option.map_some, Option.toList_some] at hks
                  refine J_region <| mv rfl rfl <| L_val rfl (v_loadA rfl ty119 HS CT) ?_
                  refine L_op <| x_call Tryz.func31 nm31 bd31 (.cons rfl .nil) rfl (objectC) fun _ => L_op <| x_lit (vals := [_]) Tryz.underlying49 ty48 rfl (.cons rfl .nil) (.agg .nil) (Wf.cons rfl rfl Wf.nil) rfl (by decide) rfl rfl <| JE ([objOf ((look s.sl (o.2, (n : Int))).getD s0).1].map encI) (by rfl) fun a74 c74 hw74 hl74 hm74 hz74 => L_op <| x_app rfl rfl Tryz.underlying49 ty48 rfl rfl PC (fun w H => sep_reads HS H) (by simp; omega) (by simp; omega) rfl <| JE ((l ++ kidsN s.sl o (n + 1)).map encI) (by rw [hks, hsv]; simp) fun a75 c75 hw75 hl75 hm75 hz75 => ?_
                  refine ag rfl rfl <| L_nil <| Q_blk_normal <| qr <| mv rfl rfl <| L_pur rfl (p_add64 rfl rfl (by omega)) <| ag rfl rfl <| nq ?_
                  
                  exact J_again2 (n + 1) _ (by omega) (⟨by omega, fun _ => h54⟩) SU KE
                ·
                  have hno : look s.sl (o.2, (n : Int)) = none := by
                    cases hq : look s.sl (o.2, (n : Int)) with
                    | none => rfl
                    | some sv => rw [hq] at h70; simp at h70
                  refine J_skip <| Q_blk_normal <| qr <| mv rfl rfl <| L_pur rfl (p_add64 rfl rfl (by omega)) <| ag rfl rfl <| nq <| J_pick (A := row 48 2 _ ((l ++ kidsN s.sl o n).map encI)) PC ?_
                  refine J_rowEq (ys := (l ++ kidsN s.sl o (n + 1)).map encI) (by rw [hks, hno, Option.map_none, Option.toList_none, List.append_nil]) ?_
                  exact J_again2 (n + 1) _ (by omega) (⟨by omega, fun _ => h54⟩) SU KE
              ·
                refine x_alloc ty119 rfl fun b11 => i1 9 rfl <| x_call Tryz.func32 nm32 bd32 (.cons rfl (.cons rfl .nil)) rfl (coSlGet (s := s) (a := (o.2, (n : Int))) PC) fun _ => ?_
                refine ip 10 rfl rfl rfl rfl (p_move rfl) <| ip 11 rfl rfl rfl rfl (p_extract rfl rfl) <| ip 12 rfl rfl rfl rfl (p_extract rfl rfl) <| i1 14 rfl <| x_store rfl rfl ty119 rfl SM SM RO PT ?_
                refine J_pick (A := blk b11 _ _) PC ?_
                refine J_asTo (B := blk b11 119 (encC ((look s.sl (o.2, (n : Int))).getD s0).1)) (by rfl) <| ip 15 rfl rfl rfl rfl (p_assign rfl) <| i0 <| qx <| mv rfl rfl <| nq ?_
                refine C_split rfl (fun h70 => ?_) (fun h70 => ?_)
                ·
                  obtain ⟨sv, hsv⟩ : ∃ sv, look s.sl (o.2, (n : Int)) = some sv := by
                    cases hq : look s.sl (o.2, (n : Int)) with
                    | none => rw [hq] at h70; simp at h70
                    | some sv => exact ⟨sv, rfl⟩
                  rw [hsv, Option.map_some, Option.toList_some] at hks
                  refine J_region <| mv rfl rfl <| L_val rfl (v_loadA rfl ty119 HS CT) ?_
                  refine L_op <| x_call Tryz.func31 nm31 bd31 (.cons rfl .nil) rfl (objectC) fun _ => L_op <| x_lit (vals := [_]) Tryz.underlying49 ty48 rfl (.cons rfl .nil) (.agg .nil) (Wf.cons rfl rfl Wf.nil) rfl (by decide) rfl rfl <| JE ([objOf ((look s.sl (o.2, (n : Int))).getD s0).1].map encI) (by rfl) fun a74 c74 hw74 hl74 hm74 hz74 => L_op <| x_app rfl rfl Tryz.underlying49 ty48 rfl rfl PC (fun w H => sep_reads HS H) (by simp; omega) (by simp; omega) rfl <| JE ((l ++ kidsN s.sl o (n + 1)).map encI) (by rw [hks, hsv]; simp) fun a75 c75 hw75 hl75 hm75 hz75 => ?_
                  refine ag rfl rfl <| L_nil <| Q_blk_normal <| qr <| mv rfl rfl <| L_pur rfl (p_add64 rfl rfl (by omega)) <| ag rfl rfl <| nq ?_
                  
                  exact J_again2 (n + 1) _ (by omega) (⟨by omega, fun _ => h54⟩) SU KE
                ·
                  have hno : look s.sl (o.2, (n : Int)) = none := by
                    cases hq : look s.sl (o.2, (n : Int)) with
                    | none => rfl
                    | some sv => rw [hq] at h70; simp at h70
                  refine J_skip <| Q_blk_normal <| qr <| mv rfl rfl <| L_pur rfl (p_add64 rfl rfl (by omega)) <| ag rfl rfl <| nq <| J_pick (A := row 48 2 _ ((l ++ kidsN s.sl o n).map encI)) PC ?_
                  refine J_rowEq (ys := (l ++ kidsN s.sl o (n + 1)).map encI) (by rw [hks, hno, Option.map_none, Option.toList_none, List.append_nil]) ?_
                  exact J_again2 (n + 1) _ (by omega) (⟨by omega, fun _ => h54⟩) SU KE
            ·
              refine x_alloc ty119 rfl fun b11 => i1 1 rfl <| x_call Tryz.func14 nm14 bd14 (.cons rfl .nil) rfl (coSlots) fun _ => i1 9 rfl <| x_call Tryz.func32 nm32 bd32 (.cons rfl (.cons rfl .nil)) rfl (coSlGet (s := s) (a := (o.2, (n : Int))) PC) fun _ => ?_
              refine ip 10 rfl rfl rfl rfl (p_move rfl) <| ip 11 rfl rfl rfl rfl (p_extract rfl rfl) <| ip 12 rfl rfl rfl rfl (p_extract rfl rfl) <| i1 14 rfl <| x_store rfl rfl ty119 rfl SM SM RO PT ?_
              refine J_pick (A := blk b11 _ _) PC ?_
              refine J_asTo (B := blk b11 119 (encC ((look s.sl (o.2, (n : Int))).getD s0).1)) (by rfl) <| ip 15 rfl rfl rfl rfl (p_assign rfl) <| i0 <| qx <| mv rfl rfl <| nq ?_
              refine C_split rfl (fun h70 => ?_) (fun h70 => ?_)
              ·
                obtain ⟨sv, hsv⟩ : ∃ sv, look s.sl (o.2, (n : Int)) = some sv := by
                  cases hq : look s.sl (o.2, (n : Int)) with
                  | none => rw [hq] at h70; simp at h70
                  | some sv => exact ⟨sv, rfl⟩
                rw [hsv, Option.map_some, Option.toList_some] at hks
                refine J_region <| mv rfl rfl <| L_val rfl (v_loadA rfl ty119 HS CT) ?_
                refine L_op <| x_call Tryz.func31 nm31 bd31 (.cons rfl .nil) rfl (objectC) fun _ => L_op <| x_lit (vals := [_]) Tryz.underlying49 ty48 rfl (.cons rfl .nil) (.agg .nil) (Wf.cons rfl rfl Wf.nil) rfl (by decide) rfl rfl <| JE ([objOf ((look s.sl (o.2, (n : Int))).getD s0).1].map encI) (by rfl) fun a74 c74 hw74 hl74 hm74 hz74 => L_op <| x_app rfl rfl Tryz.underlying49 ty48 rfl rfl PC (fun w H => sep_reads HS H) (by simp; omega) (by simp; omega) rfl <| JE ((l ++ kidsN s.sl o (n + 1)).map encI) (by rw [hks, hsv]; simp) fun a75 c75 hw75 hl75 hm75 hz75 => ?_
                refine ag rfl rfl <| L_nil <| Q_blk_normal <| qr <| mv rfl rfl <| L_pur rfl (p_add64 rfl rfl (by omega)) <| ag rfl rfl <| nq ?_
                
                exact J_again2 (n + 1) _ (by omega) (⟨by omega, fun _ => h54⟩) SU KE
              ·
                have hno : look s.sl (o.2, (n : Int)) = none := by
                  cases hq : look s.sl (o.2, (n : Int)) with
                  | none => rfl
                  | some sv => rw [hq] at h70; simp at h70
                refine J_skip <| Q_blk_normal <| qr <| mv rfl rfl <| L_pur rfl (p_add64 rfl rfl (by omega)) <| ag rfl rfl <| nq <| J_pick (A := row 48 2 _ ((l ++ kidsN s.sl o n).map encI)) PC ?_
                refine J_rowEq (ys := (l ++ kidsN s.sl o (n + 1)).map encI) (by rw [hks, hno, Option.map_none, Option.toList_none, List.append_nil]) ?_
                exact J_again2 (n + 1) _ (by omega) (⟨by omega, fun _ => h54⟩) SU KE
          ·
            refine J_exit <| Q_then_exit <| Q_then_exit <| Q_blk_this <| Q_blk_normal <| qr <| mv rfl rfl <| L_pur rfl (p_add64 rfl rfl (by omega)) ?_
            refine ag rfl rfl <| nq ?_
            have hk16 : kidsN s.sl o n = kids s.sl o := by
              have hn0 : n = 0 := by
                rcases Nat.eq_zero_or_pos n with h | h
                · exact h
                · exact absurd (hn2 h) h54
              unfold kids; rw [if_neg h54, hn0]; rfl
            refine J_pick (A := row 48 2 _ ((l ++ kidsN s.sl o n).map encI)) PC ?_
            refine J_rowEq (ys := (RL s.sl (objOf t.root) (j + 1)).1.map encI) (by rw [hRL, if_neg (by rw [h39]; decide), hk16]) <| J_pick (A := mapV kI evB (.map (some b23)) (ins met o true)) PC ?_
            refine J_mapEq (qs := (RL s.sl (objOf t.root) (j + 1)).2) (by rw [hRL, if_neg (by rw [h39]; decide)]) ?_
            exact J_again2 (j + 1) _ (by omega) (by omega) SU KE
        ·
          refine L_op <| G_off rfl rfl rfl rfl rfl rfl <| L_op <| G_off rfl rfl rfl rfl rfl rfl <| L_op <| G_off rfl rfl rfl rfl rfl rfl <| L_op <| G_off rfl rfl rfl rfl rfl rfl ?_
          refine L_op <| G_off rfl rfl rfl rfl rfl rfl <| L_op <| G_off rfl rfl rfl rfl rfl rfl <| L_pur rfl (p_pick_f rfl rfl) <| nq <| C_false rfl <| J_exit ?_
          refine Q_then_exit <| Q_then_exit <| Q_blk_this <| Q_blk_normal <| qr <| mv rfl rfl <| L_pur rfl (p_add64 rfl rfl (by omega)) <| ag rfl rfl ?_
          refine nq ?_
          have hk16 : kidsN s.sl o n = kids s.sl o := by
            have hn16 : n = 16 := by simp at h47; omega
            unfold kids; rw [if_pos (hn2 (by omega)), hn16]
          refine J_pick (A := row 48 2 _ ((l ++ kidsN s.sl o n).map encI)) PC ?_
          refine J_rowEq (ys := (RL s.sl (objOf t.root) (j + 1)).1.map encI) (by rw [hRL, if_neg (by rw [h39]; decide), hk16]) <| J_pick (A := mapV kI evB (.map (some b23)) (ins met o true)) PC ?_
          refine J_mapEq (qs := (RL s.sl (objOf t.root) (j + 1)).2) (by rw [hRL, if_neg (by rw [h39]; decide)]) ?_
          exact J_again2 (j + 1) _ (by omega) (by omega) SU KE
    ·
      have hjN : N = j := by
        rcases Nat.lt_or_ge j N with h | h
        · exact absurd (hgo h) (by omega)
        · omega
      have hmet : met = (RL s.sl (objOf t.root) N).2 := by rw [hjN, ← hlm]
      have hml_ := RL_met s.sl (objOf t.root) N
      have hown := own_len s t
      refine J_exit <| Q_then_exit <| Q_then_exit <| Q_blk_this <| Q_then <| J_seq <| sr <| mv rfl rfl ?_
      refine L_val rfl (v_loadA rfl ty121 HS CT) ?_
      refine L_op <| x_call Tryz.func33 nm33 bd33 (.cons rfl (.cons rfl .nil)) rfl (coOwn (s := s) (t := t) PC hb) <| JR fun a78 c78 hw78 hl78 hm78 hz78 => ?_
      obtain ⟨xs, hxs⟩ : ∃ xs, xs = own s t := ⟨_, rfl⟩
      refine J_pick (A := row 48 2 _ _) PC ?_
      refine J_rowTo (ys := xs.map encI) (v' := .slice a78 (xs.map encI).length c78) (by rw [hxs]) (by rw [hxs]) <| J_slot (t := 78) (v := .slice a78 (xs.map encI).length c78) rfl (by rw [hxs]) ?_
      rw [← hxs] at hz78
      have hmcap : c78 ≤ 9223372036854775807 := hm78
      have hml : (xs.map encI).length = xs.length := List.length_map _
      rw [← hxs] at hown
      refine L_pur rfl (p_len rfl Tryz.underlying49) <| mv rfl rfl <| nq <| J_block <| J_loop (α := Nat) (fun i => i ≤ xs.length) (fun i => row 48 2 (.slice a78 (xs.map encI).length c78) (xs.map encI) :: mapV kI evB (.map (some b23)) ((xs.take i).foldl insT met) :: coA p s :: m) (fun i => [(80, .int .i64 (i : Int)), (78, .slice a78 (xs.map encI).length c78), (79, .int .i64 ((xs.map encI).length : Int)), (7, .map (some b23)), (0, .pointer (some ⟨p, 0, none⟩))]) (fun i => xs.length - i) 0 (by omega) SU KE ?_
      intro i hi
      refine sr <| L_pur rfl (p_lss rfl rfl) <| nq <| J_seq ?_
      refine C_dec rfl (fun h81 => ?_) (fun h81 => ?_)
      ·
        have hlt : i < xs.length := by omega
        obtain ⟨bx, ox, rfl⟩ := hz78 (by intro h; rw [h] at hml; simp at hml; omega)
        obtain ⟨c, hcc⟩ : ∃ c, xs[i]? = some c := ⟨_, List.getElem?_eq_getElem hlt⟩
        refine J_skip <| Q_then <| J_seq <| J_block <| sr <| L_pur rfl (p_indexAddr rfl rfl Tryz.underlying49 ty48 (by omega) (by omega)) ?_
        refine L_val rfl (v_loadE rfl ty48 HS (by first | (simp only [Int.toNat_natCast, List.getElem?_map, hcc]; rfl) | (simp only [Int.toNat_natCast, List.getElem?_map, hcd]; rfl) | simp | rfl)) ?_
        refine L_op <| x_alloc ty48 rfl fun b14 => L_op <| x_store rfl rfl ty48 rfl SM SM RO PT ?_
        refine J_pick (A := blk b14 _ _) PC ?_
        refine J_asTo (B := blk b14 48 (encI c)) (by rfl) <| ny <| mv rfl rfl <| L_val rfl (v_loadA rfl ty48 HS CT) ?_
        refine L_op <| x_mapUpdate (ek := kI) (ev := evB) (a := c) (c := true) rfl rfl rfl ky48 Tryz.underlying124 PC ?_
        refine L_nil <| Q_blk_normal <| qr <| L_pur rfl (p_add64 rfl rfl (by omega)) <| mv rfl rfl <| nq <| J_pick (A := mapV kI evB (.map (some b23)) (ins ((xs.take i).foldl insT met) c true)) PC ?_
        refine J_mapEq (qs := (xs.take (i + 1)).foldl insT met) (by rw [List.take_add_one, hcc, List.foldl_append]; rfl) ?_
        exact J_again (i + 1) (by omega) (by omega) SU KE
      ·
        have hix : i = xs.length := by omega
        refine J_pick (A := mapV kI evB (.map (some b23)) ((xs.take i).foldl insT met)) PC ?_
        refine J_mapEq (qs := metN s t N) (by unfold metN; rw [hix, List.take_length, hxs, hmet]) ?_
        have hmN : (metN s t N).length ≤ 200000 := by
          have h1 := insT_len (xs := own s t) (mm := (RL s.sl (objOf t.root) N).2)
          rw [hxs] at hown
          unfold metN; omega
        refine J_exit <| Q_then_exit <| Q_then_exit <| Q_blk_this <| qx <| mv rfl rfl <| L_op <| x_call Tryz.func35 nm35 bd35 (.cons rfl .nil) rfl (mapsKeys35) fun b88 => ?_
        refine L_op <| x_call Tryz.func34 nm34 bd34 (.cons rfl (.cons rfl .nil)) rfl (obSd (ks := (metN s t N).map Prod.fst) (A := blk b88 124 [.map (some b23)]) (B := mapV kI evB (.map (some b23)) (metN s t N)) Tryz.func57 nm57 bd57 (by rw [List.length_map]; omega) (by simpa using keys57) PX) <| JE ((kReach s u N).map encI) (by unfold kReach; rw [ht]) fun a89 c89 hw89 hl89 hm89 hz89 => ag rfl rfl <| nq <| J_ret ?_
        exact J_return (_) Tryz.results17 (.tmp rfl .nil) rfl SU

end Go.Pse
