/-
  Own texts, merged: C20, C21, Ins, C22, C23, C24, C25, C26, C27, Arg, C28, C29, C30, C31, C32, C33, C34, InvP, C50, C14, C51.
-/
import Derived.Test.YtclgdnpndlognaaGreatBC1
import Derived.Laws.BitsAllLaws
import Derived.Test.YtclgdnpndlognaaGreatBC0
import Derived.Lib.Overlaps
import Derived.Deep.Slices
import Derived.ChangeSame
import Derived.Carry
set_option linter.unusedVariables false
set_option linter.unusedSimpArgs false
set_option maxRecDepth 100000
set_option maxHeartbeats 4000000
namespace Go.Pse
open Go.RowKit Go.Proofs
/-! ### plain: requests -/
def cmpQ (a b : Rq) : Int := cmpZ a.id.2 b.id.2
theorem cmpQ_lt (a b : Rq) : Go.Proofs.ltOf cmpQ a b = decide (a.id.2 < b.id.2) := by
  have : (cmpQ a b < 0) ↔ a.id.2 < b.id.2 := by
    unfold cmpQ cmpZ
    (repeat' split) <;> omega
  unfold Go.Proofs.ltOf
  rw [Bool.eq_iff_iff]
  simp [this]
theorem cmpQ_swo : Go.Sort.SWO (Go.Proofs.ltOf cmpQ) where
  irrefl x := by rw [cmpQ_lt]; simp
  trans x y z h1 h2 := by rw [cmpQ_lt] at *; simp at *; omega
  ntrans x y z h1 h2 := by rw [cmpQ_lt] at *; simp at *; omega
instance : Inhabited Rq := ⟨⟨(0, 0), ⟨0, 0, 0, 0, 0, 0, 0, 0⟩, 0, false, false⟩⟩
def q00 : Rq := ⟨(0, 0), ⟨0, 0, 0, 0, 0, 0, 0, 0⟩, 0, false, false⟩
def Ids (ps : List (ID × Rq)) : Prop := ∀ e ∈ ps, e.2.id = e.1
def ofRing (ps : List (ID × Rq)) (g : Int) : List Rq := (ps.filter fun e => decide (e.1.1 = g)).map Prod.snd
def ofQ (ps : List (ID × Rq)) (g : Int) : List Rq := sortF cmpQ (ofRing ps g)
theorem ofQ_len (ps : List (ID × Rq)) (g : Int) : (ofQ ps g).length ≤ ps.length := by
  unfold ofQ ofRing; rw [sortF_len, List.length_map]; exact List.length_filter_le _ _
variable {ps : List (ID × Rq)} {g : Int}
theorem ofRing_mem {x : Rq} : x ∈ ofRing ps g ↔ ∃ k, (k, x) ∈ ps ∧ k.1 = g := by
  unfold ofRing
  rw [List.mem_map]
  constructor
  · rintro ⟨e, he, rfl⟩
    have := List.mem_filter.1 he
    exact ⟨e.1, this.1, by simpa using this.2⟩
  · rintro ⟨k, h1, h2⟩
    exact ⟨(k, x), List.mem_filter.2 ⟨h1, by simpa using h2⟩, rfl⟩
theorem ofQ_mem {x : Rq} : x ∈ ofQ ps g ↔ ∃ k, (k, x) ∈ ps ∧ k.1 = g := by unfold ofQ; rw [sortF_mem, ofRing_mem]
theorem ofQ_parts (hK : Keyd ps) (hI : Ids ps) {xs : List Rq} (hx : xs.Perm (ofRing ps g)) : ∀ x ∈ xs, ∀ y ∈ xs, Go.Proofs.ltOf cmpQ x y = false → Go.Proofs.ltOf cmpQ y x = false → x = y := fun x h1 y h2 h3 h4 => by
  obtain ⟨k1, a1, b1⟩ := ofRing_mem.1 (hx.mem_iff.1 h1)
  obtain ⟨k2, a2, b2⟩ := ofRing_mem.1 (hx.mem_iff.1 h2)
  rw [cmpQ_lt] at h3 h4
  have e1 : x.id = k1 := hI _ a1
  have e2 : y.id = k2 := hI _ a2
  have : k1 = k2 := Prod.ext (b1.trans b2.symm) (by rw [← e1, ← e2]; simp at h3 h4; omega)
  subst this
  have g1 := look_mem hK a1
  rw [look_mem hK a2] at g1
  exact (Option.some.inj g1).symm
def comeQ (ps : List (ID × Rq)) (g : Int) (done : List ID) : List Rq := (done.filter fun k => decide (k.1 = g)).filterMap (look ps)
variable {done : List ID}
theorem comeQ_on {k : ID} {u : Rq} (hK : Keyd ps) (hm : (k, u) ∈ ps) (h : k.1 = g) : comeQ ps g (done ++ [k]) = comeQ ps g done ++ [u] := by
  unfold comeQ
  rw [List.filter_append, List.filterMap_append]
  congr 1
  simp [h, look_mem hK hm]
theorem comeQ_off {k : ID} (h : ¬ k.1 = g) : comeQ ps g (done ++ [k]) = comeQ ps g done := by
  unfold comeQ
  rw [List.filter_append, List.filterMap_append]
  simp [h]
theorem comeQ_len (ps : List (ID × Rq)) (g : Int) (done : List ID) : (comeQ ps g done).length ≤ done.length := Nat.le_trans (List.length_filterMap_le _ _) (List.length_filter_le _ _)
theorem filterMap_look {ps : List (ID × Rq)} (hK : Keyd ps) (g : Int) : ∀ qs : List (ID × Rq), (∀ e ∈ qs, e ∈ ps) → ((qs.map Prod.fst).filter fun k => decide (k.1 = g)).filterMap (look ps) = (qs.filter fun e => decide (e.1.1 = g)).map Prod.snd
  | [], _ => rfl
  | e :: qs, h => by
    have h1 := look_mem hK (h e (List.mem_cons_self))
    have h2 := filterMap_look hK g qs fun e he => h e (List.mem_cons_of_mem _ he)
    rw [List.map_cons, List.filter_cons, List.filter_cons]
    by_cases hg : e.1.1 = g
    · rw [if_pos (by simpa using hg), if_pos (by simpa using hg), List.filterMap_cons_some h1, List.map_cons, h2]
    · rw [if_neg (by simpa using hg), if_neg (by simpa using hg), h2]
theorem comeQ_perm (hK : Keyd ps) (h : done.Perm (ps.map Prod.fst)) : (comeQ ps g done).Perm (ofRing ps g) := by
  unfold comeQ ofRing
  rw [← filterMap_look hK g ps fun _ h => h]
  exact (h.filter _).filterMap _
def addOk (ps : List (ID × Rq)) (q : Rq) : Bool := !(look ps q.id).isSome && decide ((ofQ ps q.id.1).length < 16)
def addQ (ps : List (ID × Rq)) (q : Rq) : List (ID × Rq) := if addOk ps q then ins ps q.id q else ps
def afterQ (ps : List (ID × Rq)) (i : ID) : Option Rq := (ofQ ps i.1).find? fun r => decide (r.prev = i.2)
theorem Ids.ins {ps : List (ID × Rq)} (h : Ids ps) (q : Rq) : Ids (ins ps q.id q) := fun e he => by
  unfold Go.Pse.ins at he
  split at he
  · obtain ⟨x, hx, rfl⟩ := List.mem_map.1 he
    split
    · rfl
    · exact h x hx
  · rcases List.mem_append.1 he with h1 | h1
    · exact h e h1
    · rw [List.mem_singleton.1 h1]
theorem Ids.add (h : Ids ps) (q : Rq) : Ids (addQ ps q) := by unfold addQ; split <;> first | exact h.ins q | exact h
theorem Ids.del (h : Ids ps) (i : ID) : Ids (del ps i) := fun e he => h e (List.mem_filter.1 he).1
theorem Ids.nil : Ids [] := fun _ h => by cases h
variable {E : World} {l m : List As} {b o : Nat} {i : ID}
theorem rtHas  (hp : Pick (rtA b o ps) l m) :
    Con Tryz.prog 108 #[.pointer (some ⟨b, o, none⟩), .agg (encI i).toArray] E l (fun _ : Unit => .bool (look ps i).isSome) (fun _ => rtA b o ps :: m) := by
  refine Con.body (n := 17) Tryz.func108 Z Z _ (env_ok 2 Z) <| J_pick hp <| J_rtO fun ob _ => sr <| L_op <| x_box Z Z Z fun b3 => ag Z Z <| nq <| J_seq <| J_drawL none mixed <| ip 0 Z Z Z Z (p_move Z) <| ip 1 Z Z Z Z (p_nilCheck Z) <| ip 2 Z Z Z Z (p_fieldAddr Z fa138_0) <| iv 3 Z Z Z Z (fun _ => v_loadL Z ty136 HS Z (by exact rfl)) <| iv 4 Z Z Z Z (fun _ => v_loadA Z ty36 HS CT) <| iv 5 Z Z Z Z (fun _ => v_lookOk (ek := kI) (ev := evQ) (a := i) Z Z ky36 Tryz.underlying136 zv122 HS) <| J_slot (t := 13) (v := .tuple #[evQ ((look ps i).getD q00), .bool (look ps i).isSome]) Z (by cases look ps i <;> rfl) <| ip 6 Z Z Z Z (p_move Z) <| ip 7 Z Z Z Z (p_extract Z Z) <| ip 8 Z Z Z Z (p_extract Z Z) <| i1 9 Z <| x_alloc ty122 Z fun b5 => i1 10 Z <| x_store Z Z ty122 Z SM SM RO PT ?_
  refine ip 11 Z Z Z Z (p_assign Z) <| i0 <| qx <| mv Z Z <| ag Z Z <| nq <| J_ret <| J_rtS (b := b) (o := o) (ps := ps) _ PX trivial ?_
  exact J_return (()) Tryz.results108 (.tmp Z .nil) Z SU
theorem rtGetC  (hp : Pick (rtA b o ps) l m) :
    Con Tryz.prog 69 #[.pointer (some ⟨b, o, none⟩), .agg (encI i).toArray] E l (fun _ : Unit => .tuple #[evQ ((look ps i).getD q00), .bool (look ps i).isSome]) (fun _ => rtA b o ps :: m) := by
  refine Con.body (n := 19) Tryz.func69 Z Z _ (env_ok 2 Z) <| J_pick hp <| J_rtO fun ob _ => sr <| L_op <| x_box Z Z Z fun b3 => L_op <| x_alloc ty122 Z fun b4 => ag Z Z <| nq <| J_seq <| J_drawL none mixed <| ip 0 Z Z Z Z (p_move Z) <| ip 1 Z Z Z Z (p_nilCheck Z) <| ip 2 Z Z Z Z (p_fieldAddr Z fa138_0) <| iv 3 Z Z Z Z (fun _ => v_loadL Z ty136 HS Z (by exact rfl)) <| iv 4 Z Z Z Z (fun _ => v_loadA Z ty36 HS CT) <| iv 5 Z Z Z Z (fun _ => v_lookOk (ek := kI) (ev := evQ) (a := i) Z Z ky36 Tryz.underlying136 zv122 HS) <| J_slot (t := 14) (v := .tuple #[evQ ((look ps i).getD q00), .bool (look ps i).isSome]) Z (by cases look ps i <;> rfl) <| ip 6 Z Z Z Z (p_move Z) <| ip 7 Z Z Z Z (p_extract Z Z) <| ip 8 Z Z Z Z (p_extract Z Z) <| i1 9 Z <| x_alloc ty122 Z fun b6 => i1 10 Z <| x_store Z Z ty122 Z SM SM RO PT ?_
  refine ip 11 Z Z Z Z (p_assign Z) <| i0 <| qx <| L_val Z (v_loadA Z ty122 HS CT) <| mv Z Z <| L_op <| x_store Z Z ty122 Z SM SM RO PT <| ag Z Z <| nq <| J_ret <| J_rtS (b := b) (o := o) (ps := ps) _ PX trivial <| J_return (()) Tryz.results69 (.cellA Z ty122 HS CT (.tmp Z .nil)) ?_ ?_
  · rfl
  · exact SU
theorem rtDropC  (hp : Pick (rtA b o ps) l m) :
    Con Tryz.prog 119 #[.pointer (some ⟨b, o, none⟩), .agg (encI i).toArray] E l (fun _ : Unit => .bool (look ps i).isSome) (fun _ => rtA b o (del ps i) :: m) := by
  refine Con.body (n := 15) Tryz.func119 Z Z _ (env_ok 2 Z) <| J_pick hp <| sr <| L_op <| x_box Z Z Z fun b3 => ag Z Z <| nx <| mv Z Z <| L_val Z (v_loadA Z ty36 HS CT) <| xo fc108 (A2 Z Z) Z (rtHas (ps := ps) (i := i) PC) fun _ => ag Z Z <| nq <| J_seq <| J_pick (A := rtA b o ps) PC <| J_rtO fun ob _ => J_drawT 5 mixed (by kernel_rfl) <| sm Z Z <| sp Z (p_nilCheck Z) <| sp Z (p_fieldAddr Z fa138_0) <| S_val Z (v_loadL Z ty136 HS Z (by exact rfl)) <| S_val Z (v_loadA Z ty36 HS CT) <| S_nil <| L_op <| x_delete (ek := kI) (ev := evQ) (a := i) Z Z ky36 Tryz.underlying136 PC <| nx <| mv Z Z <| ag Z Z <| nq <| J_ret <| J_rtS (b := b) (o := o) (ps := del ps i) _ PX trivial ?_
  exact J_return (()) Tryz.results119 (.tmp Z .nil) Z SU
theorem cmpReq {a b : Rq} :
    Con Tryz.prog 75 #[.agg (encQ a).toArray, .agg (encQ b).toArray] E l (fun _ : Unit => .int .i64 (cmpQ a b)) (fun _ => l) := by
  refine Con.body (n := 12) Tryz.func75 Z Z _ (env_ok 2 Z) <| sr <| L_op <| x_box Z Z Z fun b2 => L_op <| x_box Z Z Z fun b3 => ag Z Z <| nx <| fa Z Z fa122_0 <| fa Z Z fa36_1 <| L_val Z (v_load Z ty3 HS (by exact rfl)) <| fa Z Z fa122_0 <| fa Z Z fa36_1 <| L_val Z (v_load Z ty3 HS (by exact rfl)) <| xo fc76 (A2 Z Z) Z (cmpZC (x := a.id.2) (y := b.id.2)) fun _ => ag Z Z <| nq <| J_ret <| J_return (()) Tryz.results75 (.tmp Z .nil) ?_ ?_
  · rfl
  · exact SU
variable {v : Value}
theorem reqSort {xs : List Rq} (hp : Pick (row 122 13 v (xs.map encQ)) l m) (hT : ∀ x ∈ xs, ∀ y ∈ xs, Go.Proofs.ltOf cmpQ x y = false → Go.Proofs.ltOf cmpQ y x = false → x = y) (hb : xs.length ≤ 1000000) :
    Con Tryz.prog 74 #[v, .func (.func 75) #[] #[]] E l (fun _ : Unit => .tuple #[]) (fun _ => row 122 13 v ((sortF cmpQ xs).map encQ) :: m) :=
  con_sortO Tryz.sortRq (fun w => ty122.isAgg w) (fun w => ty122.sizeOf w) (fun _ => rfl) (fun x v hv => by simp [encQ] at hv; rcases hv with rfl | rfl | rfl | rfl | rfl | rfl | rfl | rfl | rfl | rfl | rfl | rfl | rfl <;> rfl) cmpQ_swo hT (enters_of Tryz.func75 nm75 rfl) (fun x y W => cmpReq) hb hp
theorem rtOf (hp : Pick (rtA b o ps) l m) (hI : Ids ps) (hb : ps.length ≤ 100000) :
  Con Tryz.prog 23 #[.pointer (some ⟨b, o, none⟩), .int .i64 g] E l (fun v : Value => v) (fun v => row 122 13 v ((ofQ ps g).map encQ) :: rtA b o ps :: m) := by
 refine Con.body (n := 29) Tryz.func23 Z Z _ (env_ok 2 Z) <| J_pick hp <| J_rtO fun ob _ => sr <| ag Z Z <| nx <| ag Z Z <| J_nil (el := 122) (sz := 13) <| nxx <| mv Z Z <| nc Z Z <| fa Z Z fa138_0 <| L_val Z (v_loadL Z ty136 HS Z (by exact rfl)) <| L_op <| x_range (ek := kI) (ev := evQ) Z Tryz.underlying136 PC Z fun r12 => nq <| J_block <| J_rangeKeyd (ek := kI) (ev := evQ) (ps := ps) HS fun hK => J_loop2 (fun done v => Come ps done) (fun done v => rangeA kI evQ (.map ob) r12 ps done :: row 122 13 v ((comeQ ps g done).map encQ) :: fld b o [.map ob] :: m) (fun done v => [(12, .pointer (some ⟨r12, 0, none⟩)), (5, v), (0, .pointer (some ⟨b, o, none⟩)), (1, .int .i64 g)]) (fun done v => ps.length - done.length) [] _ Come.nil SU KE ?_
 intro done v hC
 refine sr <| L_op (x_next (ek := kI) (ev := evQ) Z PC Z (fun k13 u13 hm13 hn13 => ?_) (fun hd13 => ?_))
 have hlt := hC.lt hK hm13 hn13
 have hcl := comeQ_len ps g done
 refine L_pur Z (p_extract Z Z) <| nq <| J_seq <| C_true Z <| J_skip <| Q_then <| J_block <| sr <| L_val Z (v_entry (ek := kI) (ev := evQ) Z HS (by simp) hm13) <| L_pur Z (p_extract Z Z) <| L_pur Z (p_extract Z Z) <| L_op <| x_alloc ty36 Z fun b6 => L_op <| x_alloc ty122 Z fun b7 => L_op <| x_store Z Z ty36 Z SM SM RO PT <| L_op <| x_store Z Z ty122 Z SM SM RO PT <| nx <| fa Z Z fa36_0 <| L_val Z (v_load Z ty3 HS (by exact rfl)) <| mv Z Z <| L_pur Z (p_eql Z Z) <| nq <| C_dec Z (fun h21 => ?_) (fun h21 => ?_)
 refine J_region <| mv Z Z <| L_val Z (v_loadA Z ty122 HS CT) <| L_op <| x_lit (vals := [_]) Tryz.underlying46 ty122 Z (.cons Z .nil) (.agg .nil) (Wf.cons Z Z Wf.nil) Z (by decide) Z Z <| JR fun a24 c24 hw24 hl24 hm24 hz24 => L_op <| x_app Z Z Tryz.underlying46 ty122 Z Z PC (fun w H => sep_reads HS H) (by simp; omega) (by simp; omega) Z <| JE ((comeQ ps g (done ++ [k13])).map encQ) (by rw [comeQ_on hK hm13 h21]; simp) fun a25 c25 hw25 hl25 hm25 hz25 => ag Z Z <| J_nil (el := 122) (sz := 13) <| L_nil <| Q_blk_normal <| Q_then ?_
 
 exact J_again2 (done ++ [k13]) _ (by have := hC.lt hK hm13 hn13; simp; omega) (hC.step hm13 hn13) SU KE
 refine J_skip <| Q_blk_normal <| Q_then <| J_pick (A := row 122 13 _ _) PC <| J_rowEq (ys := (comeQ ps g (done ++ [k13])).map encQ) (by rw [comeQ_off h21]) ?_
 exact J_again2 (done ++ [k13]) _ (by have := hC.lt hK hm13 hn13; simp; omega) (hC.step hm13 hn13) SU KE
 have hperm := comeQ_perm (g := g) hK (hC.perm hK hd13)
 have hlen : (comeQ ps g done).length ≤ 1000000 := by
  rw [hperm.length_eq]
  have h1 := ofQ_len ps g
  unfold ofQ at h1
  rw [sortF_len] at h1
  omega
 refine L_pur Z (p_extract Z Z) <| nq <| J_seq <| C_false Z <| J_exit <| Q_then_exit <| Q_then_exit <| Q_blk_this <| qx <| mv Z Z <| xo fc74 (A2 Z Z) Z (reqSort (xs := comeQ ps g done) PC (ofQ_parts hK hI hperm) hlen) fun _ => nx <| mv Z Z <| ag Z Z <| nq <| J_ret <| J_pick (A := row 122 13 v _) PC <| J_rowEq (ys := (ofQ ps g).map encQ) (by rw [sortF_permOn cmpQ_swo (ofQ_parts hK hI hperm) hperm]; rfl) <| J_pick (A := rangeA kI evQ _ _ _ _) PC <| J_rangeEnd <| J_rtS (b := b) (o := o) (ps := ps) _ PX trivial ?_
 exact J_return (v) Tryz.results23 (.tmp Z .nil) Z SU
theorem rtAddC  (hp : Pick (rtA b o ps) l m) {q : Rq} (hI : Ids ps) (hb : ps.length ≤ 100000) :
    Con Tryz.prog 64 #[.pointer (some ⟨b, o, none⟩), .agg (encQ q).toArray] E l (fun _ : Unit => .bool (addOk ps q)) (fun _ => rtA b o (addQ ps q) :: m) := by
  refine Con.body (n := 34) Tryz.func64 Z Z _ (env_ok 2 Z) <| J_pick hp <| sr <| L_op <| x_box Z Z Z fun b3 => ag Z Z <| nxx <| mv Z Z <| fa Z Z fa122_0 <| L_val Z (v_loadA Z ty36 HS CT) <| xo fc108 (A2 Z Z) Z (rtHas (ps := ps) (i := q.id) PC) fun _ => mv Z Z <| J_gsplit (t := 9) Z (fun h9 => ?_) (fun h9 => ?_)
  refine gz Z Z Z Z Z <| gz Z Z Z Z Z <| gz Z Z Z Z Z <| gz Z Z Z Z Z <| gz Z Z Z Z Z <| gz Z Z Z Z Z <| gz Z Z Z Z Z <| L_pur Z (p_pick_t Z Z) <| nq <| C_true Z <| sr <| ag Z Z <| nq <| J_ret <| Q_then_ret <| J_pick (A := rtA b o _) PC <| J_asTo (B := rtA b o (addQ ps q)) (by simp_all [addQ, addOk]) <| J_return (()) Tryz.results64 (.tmp Z .nil) ?_ ?_
  · first | (simp_all [one, addOk]; done) | (simp_all [one, addOk] <;> omega)
  · exact SU
  refine gp Z Z Z (p_move Z) Z <| gp Z Z Z (p_fieldAddr Z fa122_0) Z <| L_op <| G_on Z Z Z <| J_pur (p_fieldAddr Z fa36_0) Z Z Z <| L_op <| G_on Z Z Z <| J_val (v_load Z ty3 HS (by exact rfl)) Z Z Z <| L_op <| G_on Z Z Z <| xc fc23 (A2 Z Z) Z (rtOf (ps := ps) (g := q.id.1) PC hI hb) <| JR fun a14 c14 hw14 hl14 hm14 hz14 => gp Z Z Z (p_len Z Tryz.underlying46) Z <| J_slot (t := 15) (v := .int .i64 ((ofQ ps q.id.1).length : Int)) Z (by simp) <| gp Z Z Z (p_geq Z Z) Z ?_
  have hol := ofQ_len ps q.id.1
  refine L_pur Z (p_pick_f Z Z) <| nq <| C_dec Z (fun h17 => ?_) (fun h17 => ?_)
  refine sr <| ag Z Z <| nq <| J_ret <| Q_then_ret <| J_pick (A := rtA b o _) PC <| J_asTo (B := rtA b o (addQ ps q)) (by rw [show addQ ps q = ps from if_neg (by unfold addOk; simp; intro _; omega)]) <| J_return (()) Tryz.results64 (.tmp Z .nil) ?_ ?_
  · first | (simp_all [one, addOk]; done) | (simp_all [one, addOk] <;> omega)
  · exact SU
  refine J_skip <| Q_then <| J_seq <| J_seq <| J_pick (A := rtA b o ps) PC <| J_rtO fun ob _ => J_region <| mv Z Z <| nc Z Z <| fa Z Z fa138_0 <| L_val Z (v_loadL Z ty136 HS Z (by exact rfl)) <| L_pur Z (p_eqNilMap Tryz.underlying136 Z) <| nq <| C_split Z (fun h22 => ?_) (fun h22 => ?_)
  obtain rfl : ob = none := by simpa using h22
  refine J_mapNone (ps := ps) HS fun hps => ?_
  subst hps
  refine J_region <| mv Z Z <| L_op <| x_makeMap (ek := kI) (ev := evQ) Z fun b24 => nc Z Z <| fa Z Z fa138_0 <| L_op <| x_storeL Z Z ty136 Z SM SM Z RO Z PT <| nq <| J_seq <| J_drawT 7 mixed (by kernel_rfl) <| sm Z Z <| sp Z (p_nilCheck Z) <| sp Z (p_fieldAddr Z fa138_0) <| S_val Z (v_loadL Z ty136 HS Z (by exact rfl)) <| sp Z (p_fieldAddr Z fa122_0) <| S_val Z (v_loadA Z ty36 HS CT) <| S_val Z (v_loadA Z ty122 HS CT) <| S_nil <| L_op <| x_mapUpdate (ek := kI) (ev := evQ) (a := q.id) (c := q) Z Z Z ky36 Tryz.underlying136 PC <| nx <| ag Z Z <| nq <| J_ret <| J_rtS (b := b) (o := o) (ps := ins [] q.id q) _ PX trivial <| J_pick (A := rtA b o _) PC <| J_asTo (B := rtA b o (addQ [] q)) (by rw [show addQ [] q = ins [] q.id q from if_pos (by unfold addOk; simp at h9 h17 ⊢; exact ⟨h9, by omega⟩)]) <| J_return (()) Tryz.results64 (.tmp Z .nil) ?_ ?_
  · first | (simp_all [one, addOk]; done) | (simp_all [one, addOk] <;> omega)
  · exact SU
  obtain ⟨bm, rfl⟩ : ∃ bm, ob = some bm := by cases ob with | none => simp at h22 | some x => exact ⟨x, rfl⟩
  refine J_skip <| Q_then <| J_seq <| J_drawT 7 mixed (by kernel_rfl) <| sm Z Z <| sp Z (p_nilCheck Z) <| sp Z (p_fieldAddr Z fa138_0) <| S_val Z (v_loadL Z ty136 HS Z (by exact rfl)) <| sp Z (p_fieldAddr Z fa122_0) <| S_val Z (v_loadA Z ty36 HS CT) <| S_val Z (v_loadA Z ty122 HS CT) <| S_nil <| L_op <| x_mapUpdate (ek := kI) (ev := evQ) (a := q.id) (c := q) Z Z Z ky36 Tryz.underlying136 PC <| nx <| ag Z Z <| nq <| J_ret <| J_rtS (b := b) (o := o) (ps := ins ps q.id q) _ PX trivial <| J_pick (A := rtA b o _) PC <| J_asTo (B := rtA b o (addQ ps q)) (by rw [show addQ ps q = ins ps q.id q from if_pos (by unfold addOk; simp at h9 h17 ⊢; exact ⟨h9, by omega⟩)]) <| J_return (()) Tryz.results64 (.tmp Z .nil) ?_ ?_
  · first | (simp_all [one, addOk]; done) | (simp_all [one, addOk] <;> omega)
  · exact SU
variable {k : Nat}
theorem find_here {α : Type} {p : α → Bool} {xs : List α} {c : α} (h0 : ∀ c ∈ xs.take k, p c = false) (h : xs[k]? = some c) (hc : p c = true) : xs.find? p = some c := by
  have hl := (List.getElem?_eq_some_iff.1 h).1
  have e : xs = xs.take k ++ c :: xs.drop (k + 1) := by
    rw [← (List.getElem?_eq_some_iff.1 h).2, ← List.drop_eq_getElem_cons hl, List.take_append_drop]
  rw [e, List.find?_append, List.find?_eq_none.2 (fun x hx => by simp [h0 x hx]), List.find?_cons, hc]; rfl
theorem find_gone {α : Type} {p : α → Bool} {xs : List α} (h0 : ∀ c ∈ xs, p c = false) : xs.find? p = none := List.find?_eq_none.2 fun x hx => by simp [h0 x hx]
theorem rtAfterC  (hp : Pick (rtA b o ps) l m) (hI : Ids ps) (hb : ps.length ≤ 100000) :
    Con Tryz.prog 122 #[.pointer (some ⟨b, o, none⟩), .agg (encI i).toArray] E l (fun _ : Unit => .tuple #[evQ ((afterQ ps i).getD q00), .bool (afterQ ps i).isSome]) (fun _ => rtA b o ps :: m) := by
  refine Con.body (n := 25) Tryz.func122 Z Z _ (env_ok 2 Z) <| J_pick hp <| sr <| L_op <| x_box Z Z Z fun b3 => L_op <| x_alloc ty122 Z fun b4 => ag Z Z <| nxx <| mv Z Z <| fa Z Z fa36_0 <| L_val Z (v_load Z ty3 HS (by exact rfl)) <| xo fc23 (A2 Z Z) Z (rtOf (ps := ps) (g := i.1) PC hI hb) <| JR fun a11 c11 hw11 hl11 hm11 hz11 => ?_
  have hol := ofQ_len ps i.1
  obtain ⟨xs, hxs⟩ : ∃ xs, xs = ofQ ps i.1 := ⟨_, rfl⟩
  refine J_pick (A := row 122 13 _ _) PC <| J_rowTo (ys := xs.map encQ) (v' := .slice a11 (xs.map encQ).length c11) (by rw [hxs]) (by rw [hxs]) <| J_slot (t := 11) (v := .slice a11 (xs.map encQ).length c11) Z (by rw [hxs]) ?_
  rw [← hxs] at hol hz11
  have hm : c11 ≤ 9223372036854775807 := hm11
  have hml : (xs.map encQ).length = xs.length := List.length_map _
  refine L_pur Z (p_len Z Tryz.underlying46) <| mv Z Z <| nq <| J_block <| J_loop (α := Nat) (fun k => k ≤ xs.length ∧ ∀ c ∈ xs.take k, decide (c.prev = i.2) = false) (fun _ => row 122 13 (.slice a11 (xs.map encQ).length c11) (xs.map encQ) :: blk b3 36 (encI i) :: blk b4 122 (encQ q00) :: rtA b o ps :: m) (fun k => [(13, .int .i64 (k : Int)), (11, .slice a11 (xs.map encQ).length c11), (12, .int .i64 ((xs.map encQ).length : Int)), (3, .pointer (some ⟨b3, 0, none⟩)), (4, .pointer (some ⟨b4, 0, none⟩))]) (fun k => xs.length - k) 0 ⟨by omega, by simp⟩ SU KE ?_
  intro k hk
  obtain ⟨hk, h0⟩ := hk
  refine sr <| L_pur Z (p_lss Z Z) <| nq <| J_seq <| C_dec Z (fun h14 => ?_) (fun h14 => ?_)
  have hlt : k < xs.length := by omega
  obtain ⟨bx, ox, rfl⟩ := hz11 (by intro h; rw [h] at hml; simp at hml; omega)
  obtain ⟨c, hcc⟩ : ∃ c, xs[k]? = some c := ⟨_, List.getElem?_eq_getElem hlt⟩
  refine J_skip <| Q_then <| J_seq <| J_block <| sr <| L_pur Z (p_indexAddr Z Z Tryz.underlying46 ty122 (by omega) (by omega)) <| L_val Z (v_loadE Z ty122 HS (by first | (simp only [Int.toNat_natCast, List.getElem?_map, hcc]; rfl) | (simp only [Int.toNat_natCast, List.getElem?_map, hcd]; rfl) | simp | rfl)) ?_
  refine L_op <| x_alloc ty122 Z fun b7 => L_op <| x_store Z Z ty122 Z SM SM RO PT <| nx <| fa Z Z fa122_2 <| L_val Z (v_load Z ty3 HS (by exact rfl)) <| fa Z Z fa36_1 <| L_val Z (v_load Z ty3 HS (by exact rfl)) <| L_pur Z (p_eql Z Z) <| nq <| C_dec Z (fun h21 => ?_) (fun h21 => ?_)
  have haf : afterQ ps i = some c := by unfold afterQ; rw [← hxs]; exact find_here h0 hcc (by simpa using h21)
  refine sr <| L_val Z (v_loadA Z ty122 HS CT) <| L_op <| x_store Z Z ty122 Z SM SM RO PT <| ag Z Z <| nq <| J_ret <| Q_blk_ret <| Q_then_ret <| Q_then_ret <| Q_blk_ret <| Q_then_ret <| J_return (()) Tryz.results122 (.cellA Z ty122 HS CT (.tmp Z .nil)) ?_ ?_
  · rw [haf]; rfl
  · exact SU
  refine J_skip <| Q_blk_normal <| qr <| L_pur Z (p_add64 Z Z (by omega)) <| mv Z Z <| nq ?_
  exact J_again (k + 1) (by omega) (⟨by omega, take_false_succ h0 hcc (by simpa using h21)⟩) SU KE
  have haf : afterQ ps i = none := by
    unfold afterQ; rw [← hxs]
    exact find_gone (by rw [show k = xs.length by omega, List.take_length] at h0; exact h0)
  refine J_exit <| Q_then_exit <| Q_then_exit <| Q_blk_this <| qx <| L_pur Z (bld122 .nil (by repeat constructor)) <| L_op <| x_store Z Z ty122 Z SM SM RO PT <| ag Z Z <| nq <| J_ret <| J_return (()) Tryz.results122 (.cellA Z ty122 HS CT (.tmp Z .nil)) ?_ ?_
  · rw [haf]; rfl
  · exact SU
/-! ### plain: numbers in bytes -/
def le4 (n : Int) : List Int := [n % 256, n / 256 % 256, n / 65536 % 256, n / 16777216 % 256]
def putB (bs : List Int) (a : Nat) (ys : List Int) : List Int := bs.take a ++ ys ++ bs.drop (a + ys.length)
def byteAt (bs : List Int) (k : Nat) : Int := (bs[k]?).getD 0
def getN (bs : List Int) (a : Nat) : Nat → Int
  | 0 => 0
  | i + 1 => getN bs a i + byteAt bs (a + i) * 2 ^ (8 * i)
def Bytes (bs : List Int) : Prop := ∀ x ∈ bs, 0 ≤ x ∧ x ≤ 255
variable {bs : List Int}
theorem byteAt_is (h : Bytes bs) (k : Nat) : 0 ≤ byteAt bs k ∧ byteAt bs k ≤ 255 := by
  unfold byteAt
  cases hk : bs[k]? with
  | none => simp
  | some x => exact h x (List.mem_of_getElem? hk)
theorem getN_is {bs : List Int} (h : Bytes bs) (a : Nat) : ∀ i, 0 ≤ getN bs a i ∧ getN bs a i < 2 ^ (8 * i)
  | 0 => by simp [getN]
  | i + 1 => by
    have h1 := getN_is h a i
    have h2 := byteAt_is h (a + i)
    have h3 : (2 : Int) ^ (8 * (i + 1)) = 256 * 2 ^ (8 * i) := by rw [show 8 * (i + 1) = 8 * i + 8 by omega, Int.pow_add]; omega
    have h4 : (0 : Int) < 2 ^ (8 * i) := Int.pow_pos (by omega)
    have h5 : byteAt bs (a + i) * 2 ^ (8 * i) ≤ 255 * 2 ^ (8 * i) := Int.mul_le_mul_of_nonneg_right h2.2 (by omega)
    have h6 : 0 ≤ byteAt bs (a + i) * 2 ^ (8 * i) := Int.mul_nonneg h2.1 (by omega)
    rw [getN, h3]
    omega
theorem or_nat {x y : Nat} (k : Nat) (hx : x < 2 ^ k) (hs : y * 2 ^ k < 4294967296) (hxs : x < 4294967296) : bits .or .u32 (x : Int) ((y * 2 ^ k : Nat) : Int) = ((x + y * 2 ^ k : Nat) : Int) := by
  rw [u32_or_nat x _ hxs hs, Nat.or_comm, Nat.mul_comm y, ← Nat.two_pow_add_eq_or_of_lt hx, Nat.add_comm]
variable {x y : Int}
theorem or_step {i : Nat} (hi : i < 4) (hx : 0 ≤ x ∧ x < 2 ^ (8 * i)) (hy : 0 ≤ y ∧ y ≤ 255) : bits .or .u32 x (IntKind.u32.wrap (IntKind.u32.wrap y * 2 ^ (8 * (i : Int)).toNat)) = x + y * 2 ^ (8 * i) := by
  obtain ⟨h1, h2⟩ := hx
  obtain ⟨X, rfl⟩ := Int.eq_ofNat_of_zero_le h1
  obtain ⟨Y, rfl⟩ := Int.eq_ofNat_of_zero_le hy.1
  rw [show (8 * (i : Int)).toNat = 8 * i by omega, wrap32u_of (a := (Y : Int)) (by omega)]
  have hX : X < 2 ^ (8 * i) := by exact_mod_cast h2
  have e : ((Y : Int) * 2 ^ (8 * i)) = ((Y * 2 ^ (8 * i) : Nat) : Int) := by push_cast; rfl
  rw [e]
  have hb : Y * 2 ^ (8 * i) < 4294967296 ∧ X < 4294967296 := by
    have : i = 0 ∨ i = 1 ∨ i = 2 ∨ i = 3 := by omega
    rcases this with rfl | rfl | rfl | rfl <;> simp at hX ⊢ <;> omega
  rw [wrap32u_of (by omega), or_nat _ hX hb.1 hb.2]
  push_cast; rfl
variable {a : Nat}
theorem putB_nil : putB bs a [] = bs := by simp [putB]
variable {ys : List Int}
theorem putB_len (h : a + ys.length ≤ bs.length) : (putB bs a ys).length = bs.length := by
  simp [putB]; omega
theorem putB_snoc (h : a + ys.length < bs.length) : (putB bs a ys).set (a + ys.length) y = putB bs a (ys ++ [y]) := by
  unfold putB
  rw [List.drop_eq_getElem_cons h, List.set_append_right _ _ (by simp; omega), show a + ys.length - (List.take a bs ++ ys).length = 0 by simp; omega, List.set_cons_zero]
  simp [Nat.add_assoc]
theorem putB_bytes (h : Bytes bs) (hy : Bytes ys) : Bytes (putB bs a ys) := fun x hx => by
  unfold putB at hx
  rcases List.mem_append.1 hx with h1 | h1
  · rcases List.mem_append.1 h1 with h2 | h2
    · exact h x (List.mem_of_mem_take h2)
    · exact hy x h2
  · exact h x (List.mem_of_mem_drop h1)
theorem le4_bytes (n : Int) : Bytes (le4 n) := fun x hx => by
  simp [le4] at hx
  rcases hx with rfl | rfl | rfl | rfl <;> omega
theorem le4_at (n : Int) {i : Nat} (h : i < 4) : (le4 n)[i]? = some (n / 2 ^ (8 * i) % 256) := by
  have : i = 0 ∨ i = 1 ∨ i = 2 ∨ i = 3 := by omega
  rcases this with rfl | rfl | rfl | rfl <;> simp [le4]
theorem wrap_u8 (n : Int) : IntKind.u8.wrap n = n % 256 := by simp [IntKind.wrap, IntKind.bits, IntKind.signed]
theorem put_step {i : Nat} {n : Int} (hi : i < 4) (ha : a + 4 ≤ bs.length) :
    ((putB bs a ((le4 n).take i)).map encU).set ((a : Int) + (i : Int)).toNat [.int .u8 (IntKind.u8.wrap (n / 2 ^ (8 * (i : Int)).toNat))] = (putB bs a ((le4 n).take (i + 1))).map encU := by
  have hl : ((le4 n).take i).length = i := by simp [le4]; omega
  rw [List.take_add_one, le4_at n hi, Option.toList_some, ← putB_snoc (by omega), List.map_set, hl, show ((a : Int) + (i : Int)).toNat = a + i by omega, show (8 * (i : Int)).toNat = 8 * i by omega, wrap_u8]
  rfl
theorem getN_part : getN ((bs.drop a).take 4) 0 4 = getN bs a 4 := by
  have h : ∀ k, k < 4 → byteAt ((bs.drop a).take 4) (0 + k) = byteAt bs (a + k) := fun k hk => by
    unfold byteAt; rw [List.getElem?_take_of_lt (by omega), List.getElem?_drop]; simp
  simp only [getN, h 0 (by omega), h 1 (by omega), h 2 (by omega), h 3 (by omega)]
theorem part_bytes {a n : Nat} (h : Bytes bs) : Bytes ((bs.drop a).take n) := fun x hx => h x (List.mem_of_mem_drop (List.mem_of_mem_take hx))
theorem clone97 {xs : List (List Value)} (hr : ∀ w, Sep E w l → Reads w 1 v xs) (hb : xs.length ≤ 1000000) :
    Con Tryz.prog 97 #[v] E l (fun v' : Value => v') (fun v' => row 5 1 v' xs :: l) := by
  refine Con.body (n := 8) Tryz.func97 Z Z _ (env_ok 1 Z) <| J_reads hr fun hw a cap hv h1 h2 h3 => ?_
  subst hv
  refine sr <| ag Z Z <| nxx <| mv Z Z <| L_pur Z (p_eqnil Tryz.underlying73 Z) <| nq <| C_split Z (fun h4 => ?_) (fun h4 => ?_)
  obtain rfl : a = none := by simpa using h4
  obtain ⟨rfl, rfl⟩ := h3 rfl
  refine J_nil (el := 5) (sz := 1) <| sr <| ag Z Z <| nq <| J_ret <| Q_then_ret ?_
  exact J_return (_) Tryz.results97 (.tmp Z .nil) Z SU
  refine J_skip <| qx <| L_op <| x_lit (vals := []) Tryz.underlying73 ty5 Z .nil .nil Wf.nil Z (by decide) Z Z <| JR fun a5 c5 hw5 hl5 hm5 hz5 => mv Z Z <| L_op <| x_app Z Z Tryz.underlying73 ty5 Z Z PC (fun w H => hr w H.tail) (OM) (OM) Z <| JR fun a7 c7 hw7 hl7 hm7 hz7 => ag Z Z <| nq <| J_ret ?_
  exact J_return (_) Tryz.results97 (.tmp Z .nil) Z SU
theorem getC (hr : ∀ w, Sep E w l → Reads w 1 v (bs.map encU)) (ha : a + 4 ≤ bs.length) (hl : bs.length ≤ 1000000) (hB : Bytes bs) :
    Con Tryz.prog 199 #[v, .int .i64 (a : Int), .int .i64 4] E l (fun _ : Unit => .int .u32 (getN bs a 4)) (fun _ => l) := by
  refine Con.body (n := 39) Tryz.func199 Z Z _ (env_ok 3 Z) <| J_readsB hr fun hw ad cap hv h1 h2 h3 => ?_
  subst hv
  have hm : cap ≤ 9223372036854775807 := h2
  have hml : (bs.map encU).length = bs.length := List.length_map _
  refine sr <| ag Z Z <| nx <| ag Z Z <| nxx <| mv Z Z <| mv Z Z <| nq <| J_block <| J_loop (α := Nat) (fun i => i ≤ 4) (fun _ => l) (fun i => [(10, .int .i64 (i : Int)), (9, .int .i64 4), (7, .int .u32 (getN bs a i)), (0, .slice ad (bs.map encU).length cap), (1, .int .i64 (a : Int))]) (fun i => 4 - i) 0 (by omega) SU KE ?_
  intro i hi
  refine sr <| L_pur Z (p_lss Z Z) <| nq <| J_seq <| C_dec Z (fun h11 => ?_) (fun h11 => ?_)
  have hlt : a + i < bs.length := by omega
  obtain ⟨bx, ox, rfl⟩ := h3 (by intro h; rw [h] at hml; simp at hml; omega)
  obtain ⟨c, hcc⟩ : ∃ c, bs[a + i]? = some c := ⟨_, List.getElem?_eq_getElem hlt⟩
  have hcB := hB c (List.mem_of_getElem? hcc)
  have hgN := getN_is hB a i
  refine J_skip <| Q_then <| J_seq <| J_block <| sr <| mv Z Z <| ag Z Z <| nx <| mv Z Z <| mv Z Z <| L_pur Z (p_neg64 Z (by omega)) <| L_pur Z (p_geq Z Z) <| mv Z Z <| J_bool (t := 17) (c := true) Z (by first | (simp; omega) | simp) <| L_op <| G_on Z Z Z <| J_pur (p_move Z) Z Z Z <| gp Z Z Z (p_move Z) Z <| gp Z Z Z (p_len Z Tryz.underlying73) Z <| L_op <| G_on Z Z Z <| J_pur (p_move Z) Z Z Z <| gp Z Z Z (p_sub64 Z Z (by omega)) Z <| gp Z Z Z (p_lss Z Z) Z <| L_pur Z (p_pick_t Z Z) <| nq <| J_bool (t := 24) (c := true) Z (by first | (simp; omega) | simp) <| C_true Z <| J_region <| mv Z Z <| mv Z Z <| mv Z Z <| mv Z Z <| L_pur Z (p_add64 Z Z (by omega)) <| L_pur Z (p_indexAddr Z Z Tryz.underlying73 ty5 (by omega) (by simp; omega)) <| L_val Z (v_loadR1 Z ty5 (fun w H => hr w H) (by rw [show ((a : Int) + (i : Int)).toNat = a + i by omega, List.getElem?_map, hcc]; rfl)) ?_
  refine L_pur Z (p_conv Z Tryz.underlying5 Tryz.underlying22) <| mv Z Z <| L_pur Z (p_mul64 Z Z (by omega)) <| L_pur Z (p_shl Z Z (by omega) (by have : (IntKind.u32.bits : Int) = 32 := rfl; omega)) <| L_pur Z (p_or Z Z) <| J_slot (t := 36) (v := .int .u32 (getN bs a (i + 1))) Z (by rw [or_step (by omega) hgN hcB, getN, byteAt, hcc]; rfl) <| ag Z Z <| L_nil <| Q_blk_normal <| qr <| L_pur Z (p_add64 Z Z (by omega)) <| mv Z Z <| nq ?_
  exact J_again (i + 1) (by omega) (by omega) SU KE
  have hi4 : i = 4 := by omega
  subst hi4
  refine J_exit <| Q_then_exit <| Q_then_exit <| Q_blk_this <| qx <| mv Z Z <| ag Z Z <| nq <| J_ret <| J_return (()) Tryz.results199 (.tmp Z .nil) ?_ ?_
  · rfl
  · exact SU
theorem putC (hr : ∀ w, Sep E w l → Reads w 1 v (bs.map encU)) (ha : a + 4 ≤ bs.length) (hl : bs.length ≤ 1000000) {n : Int} :
  Con Tryz.prog 306 #[v, .int .i64 (a : Int), .int .i64 4, .int .u32 n] E l (fun v' : Value => v') (fun v' => row 5 1 v' ((putB bs a (le4 n)).map encU) :: l) := by
 refine Con.body (n := 41) Tryz.func306 Z Z _ (env_ok 4 Z) <| J_readsB hr fun hw ad cap hv h1 h2 h3 => ?_
 subst hv
 have hm : cap ≤ 9223372036854775807 := h2
 have hml : (bs.map encU).length = bs.length := List.length_map _
 refine sr <| ag Z Z <| nx <| mv Z Z <| xo fc97 (A1 Z) Z (clone97 (xs := bs.map encU) (fun w H => hr w H) (by simpa using hl)) <| JR fun a12 c12 hw12 hl12 hm12 hz12 => ?_
 obtain ⟨bq, oq, rfl⟩ := hz12 (by intro h; rw [h] at hml; simp at hml; omega)
 have hmq : c12 ≤ 9223372036854775807 := hm12
 refine ag Z Z <| nxx <| mv Z Z <| mv Z Z <| J_pick (A := row 5 1 _ _) PC <| J_rowEq (ys := (putB bs a ((le4 n).take 0)).map encU) (by rw [List.take_zero, putB_nil]) <| nq <| J_block <| J_loop (α := Nat) (fun i => i ≤ 4) (fun i => row 5 1 (.slice (some ⟨bq, oq, none⟩) (bs.map encU).length c12) ((putB bs a ((le4 n).take i)).map encU) :: l) (fun i => [(14, .int .i64 (i : Int)), (13, .int .i64 4), (9, .slice (some ⟨bq, oq, none⟩) (bs.map encU).length c12), (0, .slice ad (bs.map encU).length cap), (1, .int .i64 (a : Int)), (3, .int .u32 n)]) (fun i => 4 - i) 0 (by omega) SU KE ?_
 intro i hi
 refine sr <| L_pur Z (p_lss Z Z) <| nq <| J_seq <| C_dec Z (fun h15 => ?_) (fun h15 => ?_)
 have hpl : ((putB bs a ((le4 n).take i)).map encU).length = bs.length := by rw [List.length_map, putB_len (by simp [le4]; omega)]
 refine J_skip <| Q_then <| J_seq <| J_block <| sr <| mv Z Z <| ag Z Z <| nx <| mv Z Z <| mv Z Z <| L_pur Z (p_neg64 Z (by omega)) <| L_pur Z (p_geq Z Z) <| mv Z Z <| J_bool (t := 21) (c := true) Z (by first | (simp; omega) | simp) <| L_op <| G_on Z Z Z <| J_pur (p_move Z) Z Z Z <| gp Z Z Z (p_move Z) Z <| gp Z Z Z (p_len Z Tryz.underlying73) Z <| L_op <| G_on Z Z Z <| J_pur (p_move Z) Z Z Z <| gp Z Z Z (p_sub64 Z Z (by omega)) Z <| gp Z Z Z (p_lss Z Z) Z <| L_pur Z (p_pick_t Z Z) <| nq <| J_bool (t := 28) (c := true) Z (by first | (simp; omega) | simp) <| C_true Z <| J_region <| mv Z Z <| mv Z Z <| mv Z Z <| L_pur Z (p_add64 Z Z (by omega)) ?_
 refine mv Z Z <| mv Z Z <| L_pur Z (p_mul64 Z Z (by omega)) <| L_pur Z (p_shr Z Z (by omega) (by have : (IntKind.u32.bits : Int) = 32 := rfl; omega)) <| L_pur Z (p_conv Z Tryz.underlying22 Tryz.underlying5) <| L_pur Z (p_indexAddr Z Z Tryz.underlying73 ty5 (by omega) (by simp; omega)) <| L_op <| x_storeE Z Z ty5 Z SM SM PC (by omega) <| J_rowEq (ys := (putB bs a ((le4 n).take (i + 1))).map encU) (put_step (by omega) ha) <| L_nil <| Q_blk_normal <| qr <| L_pur Z (p_add64 Z Z (by omega)) <| mv Z Z <| nq ?_
 exact J_again (i + 1) (by omega) (by omega) SU KE
 have hi4 : i = 4 := by omega
 subst hi4
 refine J_pick (A := row 5 1 _ _) PC <| J_rowEq (ys := (putB bs a (le4 n)).map encU) (by rfl) <| J_exit <| Q_then_exit <| Q_then_exit <| Q_blk_this <| qx <| mv Z Z <| ag Z Z <| nq <| J_ret ?_
 exact J_return (_) Tryz.results306 (.tmp Z .nil) Z SU
theorem u32C (hr : ∀ w, Sep E w l → Reads w 1 v (bs.map encU)) (ha : a + 4 ≤ bs.length) (hl : bs.length ≤ 1000000) (hB : Bytes bs) :
    Con Tryz.prog 139 #[v, .int .i64 (a : Int)] E l (fun _ : Unit => .int .u32 (getN bs a 4)) (fun _ => l) := by
  refine Con.body (n := 8) Tryz.func139 Z Z _ (env_ok 2 Z) <| sr <| ag Z Z <| nx <| mv Z Z <| mv Z Z <| xo fc199 (A3 Z Z Z) Z (getC hr ha hl hB) fun _ => ag Z Z <| nq <| J_ret ?_
  exact J_return (()) Tryz.results139 (.tmp Z .nil) Z SU
theorem put32C (hr : ∀ w, Sep E w l → Reads w 1 v (bs.map encU)) (ha : a + 4 ≤ bs.length) (hl : bs.length ≤ 1000000) {n : Int} :
    Con Tryz.prog 264 #[v, .int .i64 (a : Int), .int .u32 n] E l (fun v' : Value => v') (fun v' => row 5 1 v' ((putB bs a (le4 n)).map encU) :: l) := by
  refine Con.body (n := 11) Tryz.func264 Z Z _ (env_ok 3 Z) <| sr <| ag Z Z <| nx <| mv Z Z <| mv Z Z <| mv Z Z <| xo fc306 (A4 Z Z Z Z) Z (putC hr ha hl) <| JR fun a10 c10 hw10 hl10 hm10 hz10 => ag Z Z <| nq <| J_ret ?_
  exact J_return (_) Tryz.results264 (.tmp Z .nil) Z SU
theorem shl32_small : ∀ k : Nat, k ≤ 8 → IntKind.u32.wrap (1 * 2 ^ (k : Int).toNat) = 2 ^ k ∧ IntKind.u32.wrap ((2 : Int) ^ k - 1) = 2 ^ k - 1 := by decide
theorem and_mask {n : Int} (hk : k ≤ 8) (hn : 0 ≤ n ∧ n < 4294967296) : bits .and .u32 n (2 ^ k - 1) = n % 2 ^ k := by
  obtain ⟨X, rfl⟩ := Int.eq_ofNat_of_zero_le hn.1
  have h2 : 1 ≤ 2 ^ k ∧ 2 ^ k ≤ 256 := ⟨Nat.one_le_two_pow, by have : (2 : Nat) ^ k ≤ 2 ^ 8 := Nat.pow_le_pow_right (by omega) hk; omega⟩
  have e : ((2 : Int) ^ k - 1) = ((2 ^ k - 1 : Nat) : Int) := by rw [Int.ofNat_sub h2.1]; push_cast; rfl
  rw [e, u32_and_nat X _ (by omega) (by omega), Nat.and_two_pow_sub_one_eq_mod]
  push_cast; rfl
theorem maskC (hk : k ≤ 8) :
    Con Tryz.prog 305 #[.int .i64 0, .int .i64 (k : Int)] E l (fun _ : Unit => .int .u32 (2 ^ k - 1)) (fun _ => l) := by
  refine Con.body (n := 21) Tryz.func305 Z Z _ (env_ok 2 Z) <| sr <| ag Z Z <| nxx <| mv Z Z <| L_pur Z (p_lss Z Z) <| mv Z Z <| J_bool (t := 7) (c := false) Z (rfl) <| gp Z Z Z (p_move Z) Z <| gp Z Z Z (p_geq Z Z) Z <| L_pur Z (p_pick_f Z Z) <| mv Z Z <| J_bool (t := 11) (c := false) Z (rfl) <| gp Z Z Z (p_move Z) Z <| gp Z Z Z (p_lss Z Z) Z <| L_pur Z (p_pick_f Z Z) <| nq <| C_split Z (fun h14 => ?_) (fun h14 => ?_)
  obtain rfl : k = 0 := by simp at h14; omega
  refine sr <| ag Z Z <| nq <| J_ret <| Q_then_ret <| J_return (()) Tryz.results305 (.tmp Z .nil) ?_ ?_
  · rfl
  · exact SU
  have hk1 : 1 ≤ k := by simp at h14; omega
  refine J_skip <| qx <| mv Z Z <| mv Z Z <| L_pur Z (p_sub64 Z Z (by omega)) <| L_pur Z (p_min Z Z) <| J_slot (t := 18) (v := .int .i64 (k : Int)) Z (by congr 1; simp; omega) <| L_pur Z (p_shl Z Z (by omega) (by have : (IntKind.u32.bits : Int) = 32 := rfl; omega)) <| J_slot (t := 19) (v := .int .u32 (2 ^ k)) Z (by rw [(shl32_small k hk).1]) <| L_pur Z (p_sub Z Z) <| J_slot (t := 20) (v := .int .u32 (2 ^ k - 1)) Z (by rw [(shl32_small k hk).2]) <| ag Z Z <| nq <| J_ret <| J_return (()) Tryz.results305 (.tmp Z .nil) ?_ ?_
  · rfl
  · exact SU
theorem fieldC {n : Int} (hk : k ≤ 8) (hn : 0 ≤ n ∧ n < 4294967296) :
    Con Tryz.prog 263 #[.int .u32 n, .int .i64 0, .int .i64 (k : Int)] E l (fun _ : Unit => .int .u32 (n % 2 ^ k)) (fun _ => l) := by
  refine Con.body (n := 18) Tryz.func263 Z Z _ (env_ok 3 Z) <| sr <| ag Z Z <| nx <| mv Z Z <| mv Z Z <| xo fc305 (A2 Z Z) Z (maskC hk) fun _ => ag Z Z <| nxx <| mv Z Z <| L_pur Z (p_eql Z Z) <| nq <| C_dec Z (fun h12 => ?_) (fun h12 => ?_)
  have hk0 : n % 2 ^ k = 0 := by
    have : (2 : Int) ^ k = 1 := by omega
    rw [this]; omega
  refine sr <| ag Z Z <| nq <| J_ret <| Q_then_ret <| J_return (()) Tryz.results263 (.tmp Z .nil) ?_ ?_
  · rw [hk0]; rfl
  · exact SU
  refine J_skip <| qx <| mv Z Z <| mv Z Z <| L_pur Z (p_shr Z Z (by omega) (by decide)) <| J_slot (t := 15) (v := .int .u32 n) Z (by simp) <| mv Z Z <| L_pur Z (p_and Z Z) <| J_slot (t := 17) (v := .int .u32 (n % 2 ^ k)) Z (by rw [and_mask hk hn]) <| ag Z Z <| nq <| J_ret <| J_return (()) Tryz.results263 (.tmp Z .nil) ?_ ?_
  · rfl
  · exact SU
theorem mod_small {n : Int} (hk : k ≤ 4) : 0 ≤ n % 2 ^ k ∧ n % 2 ^ k ≤ 15 := by
  have h2 : (1 : Int) ≤ 2 ^ k ∧ (2 : Int) ^ k ≤ 16 := by
    have : k = 0 ∨ k = 1 ∨ k = 2 ∨ k = 3 ∨ k = 4 := by omega
    rcases this with rfl | rfl | rfl | rfl | rfl <;> decide
  have h3 := Int.emod_nonneg n (b := 2 ^ k) (by omega)
  have h4 := Int.emod_lt_of_pos n (b := 2 ^ k) (by omega)
  omega
theorem placeC {n z : Int} (hz : z = 16 ∨ z = 32) (hk : k ≤ 4) (hn : 0 ≤ n ∧ n < 4294967296) :
    Con Tryz.prog 193 #[.int .u32 n, .int .i64 (k : Int), .int .i64 z] E l (fun _ : Unit => .int .i64 (16 + n % 2 ^ k * z)) (fun _ => l) := by
  refine Con.body (n := 14) Tryz.func193 Z Z _ (env_ok 3 Z) <| sr <| ag Z Z <| nx <| mv Z Z <| mv Z Z <| xo fc263 (A3 Z Z Z) Z (fieldC (k := k) (n := n) (by omega) hn) fun _ => ?_
  have hms := mod_small (n := n) hk
  have hmz : 0 ≤ n % 2 ^ k * z ∧ n % 2 ^ k * z ≤ 480 := by rcases hz with rfl | rfl <;> omega
  refine L_pur Z (p_conv Z Tryz.underlying22 Tryz.underlying3) <| J_slot (t := 10) (v := .int .i64 (n % 2 ^ k)) Z (by rw [wrap64_of (by omega)]) <| mv Z Z <| L_pur Z (p_mul64 Z Z (by omega)) <| L_pur Z (p_add64 Z Z (by omega)) <| ag Z Z <| nq <| J_ret <| J_return (()) Tryz.results193 (.tmp Z .nil) ?_ ?_
  · rfl
  · exact SU
theorem distC :
    Con Tryz.prog 94 #[.int .u32 x, .int .u32 y] E l (fun _ : Unit => .int .u32 (IntKind.u32.wrap (x - y))) (fun _ => l) := by
  refine Con.body (n := 8) Tryz.func94 Z Z _ (env_ok 2 Z) <| sr <| ag Z Z <| nx <| mv Z Z <| mv Z Z <| L_pur Z (p_sub Z Z) <| ag Z Z <| nq <| J_ret <| J_return (()) Tryz.results94 (.tmp Z .nil) ?_ ?_
  · rfl
  · exact SU
def bytesX (c : Cqe) : List Int := le4 c.1 ++ le4 (IntKind.u32.wrap c.2.1) ++ le4 c.2.2.1 ++ le4 c.2.2.2
def z16 : List Int := List.replicate 16 0
theorem bytesX_len (c : Cqe) : (bytesX c).length = 16 := rfl
theorem bytesX_bytes (c : Cqe) : Bytes (bytesX c) := fun x hx => by
  simp only [bytesX, List.mem_append] at hx
  rcases hx with ((h | h) | h) | h <;> exact le4_bytes _ x h
theorem bytesX_put (c : Cqe) : putB (putB (putB (putB z16 0 (le4 c.1)) 4 (le4 (IntKind.u32.wrap c.2.1))) 8 (le4 c.2.2.1)) 12 (le4 c.2.2.2) = bytesX c := rfl
def ofD (d : Deed) : Cqe := (d.2.1, IntKind.i32.wrap d.2.2.2.1, d.2.2.2.2.1, IntKind.u32.wrap d.1.2)
variable {c : Cqe}
theorem bytesC :
    Con Tryz.prog 194 #[.agg (encX c).toArray] E l (fun v : Value => v) (fun v => row 5 1 v ((bytesX c).map encU) :: l) := by
  refine Con.body (n := 21) Tryz.func194 Z Z _ (env_ok 1 Z) <| sr <| L_op <| x_box Z Z Z fun b1 => ag Z Z <| nq <| J_seq <| J_drawL none mixed <| ip 1 Z Z Z Z (p_fieldAddr Z fa93_0) <| iv 2 Z Z Z Z (fun _ => v_load Z ty22 HS (by exact rfl)) <| i1 0 Z <| x_make (len := 16) Z Z Tryz.underlying73 ty5 Z Z (by simp) (by simp) Z Z <| JE (z16.map encU) (by rfl) fun a4 c4 hw4 hl4 hm4 hz4 => i1 3 Z <| xc fc264 (A3 Z Z Z) Z (put32C (a := 0) (bs := z16) (fun w H => sep_reads (xs := z16.map encU) HS H) (show 4 ≤ 16 by decide) (show 16 ≤ 1000000 by decide)) <| JR fun a7 c7 hw7 hl7 hm7 hz7 => ip 4 Z Z Z Z (p_assign Z) <| i0 <| qx <| mv Z Z <| fa Z Z fa93_1 <| L_val Z (v_load Z ty21 HS (by exact rfl)) ?_
  refine L_pur Z (p_conv Z Tryz.underlying21 Tryz.underlying22) <| xo fc264 (A3 Z Z Z) Z (put32C (a := 4) (bs := (putB z16 0 (le4 c.1))) (fun w H => sep_reads (xs := (putB z16 0 (le4 c.1)).map encU) HS H) (show 8 ≤ 16 by decide) (show 16 ≤ 1000000 by decide)) <| JR fun a12 c12 hw12 hl12 hm12 hz12 => ag Z Z <| nx <| mv Z Z <| fa Z Z fa93_2 <| L_val Z (v_load Z ty22 HS (by exact rfl)) <| xo fc264 (A3 Z Z Z) Z (put32C (a := 8) (bs := (putB (putB z16 0 (le4 c.1)) 4 (le4 (IntKind.u32.wrap c.2.1)))) (fun w H => sep_reads (xs := (putB (putB z16 0 (le4 c.1)) 4 (le4 (IntKind.u32.wrap c.2.1))).map encU) HS H) (show 12 ≤ 16 by decide) (show 16 ≤ 1000000 by decide)) <| JR fun a16 c16 hw16 hl16 hm16 hz16 => ag Z Z <| nx <| mv Z Z <| fa Z Z fa93_3 <| L_val Z (v_load Z ty22 HS (by exact rfl)) ?_
  refine xo fc264 (A3 Z Z Z) Z (put32C (a := 12) (bs := (putB (putB (putB z16 0 (le4 c.1)) 4 (le4 (IntKind.u32.wrap c.2.1))) 8 (le4 c.2.2.1))) (fun w H => sep_reads (xs := (putB (putB (putB z16 0 (le4 c.1)) 4 (le4 (IntKind.u32.wrap c.2.1))) 8 (le4 c.2.2.1)).map encU) HS H) (show 16 ≤ 16 by decide) (show 16 ≤ 1000000 by decide)) <| JE ((bytesX c).map encU) (by rw [bytesX_put]) fun a20 c20 hw20 hl20 hm20 hz20 => ag Z Z <| nq <| J_ret ?_
  exact J_return (_) Tryz.results194 (.tmp Z .nil) Z SU
variable {d : Deed}
theorem compOfC :
    Con Tryz.prog 176 #[.agg (encD d).toArray] E l (fun _ : Unit => .agg (encX (ofD d)).toArray) (fun _ => l) := by
  refine Con.body (n := 15) Tryz.func176 Z Z _ (env_ok 1 Z) <| sr <| L_op <| x_box Z Z Z fun b1 => L_op <| x_alloc ty93 Z fun b2 => nx <| fa Z Z fa45_1 <| L_val Z (v_load Z ty22 HS (by exact rfl)) <| fa Z Z fa45_3 <| L_val Z (v_load Z ty3 HS (by exact rfl)) <| L_pur Z (p_conv Z Tryz.underlying3 Tryz.underlying21) <| fa Z Z fa45_4 <| L_val Z (v_load Z ty22 HS (by exact rfl)) <| fa Z Z fa45_0 <| fa Z Z fa36_1 <| L_val Z (v_load Z ty3 HS (by exact rfl)) <| L_pur Z (p_conv Z Tryz.underlying3 Tryz.underlying22) <| L_pur Z (bld93 (.cons Z (.cons Z (.cons Z (.cons Z .nil)))) (by repeat constructor)) <| L_op <| x_store Z Z ty93 Z SM SM RO PT <| nq <| J_ret <| J_return (()) Tryz.results176 (.cellA Z ty93 HS CT .nil) ?_ ?_
  · rfl
  · exact SU
section
variable {P : Program} {ops : Array Oper} {Q : Exit → Act → World → Prop} {E : World} {l l' m : List As} {n : Nat} {F : Env} {K : Act → World → Prop}
variable {d : Nat} {T : TypeId} {p : String} {e : Array Edge} {g : Option (Nat × Bool)} {dst : Option Tmp} {t : TypeId} {x y z : Operand} {u v : Value}
variable {w : World} {agg : Bool} {zs : List Value}
theorem run_copy_sz {sT ty el : TypeId} {gb o dl dc sl sc sz by_ : Nat} {a : Addr} {cur : Array Value} {bt : TypeId} {cs : List Value} (hu : P.underlying sT = some (.slice el)) (hT : Ty P el sz by_ agg zs)
    (hg : w.heap[gb]? = some (.cells cur bt (0, 0))) (hn : cs.length = Nat.min sl dl * sz) (hsrc : ∀ j v, cs[j]? = some v → w.cell? (a.add j) = some v) (hfit : o + cs.length ≤ cur.size) (h1 : ∀ v ∈ cs, v.oneCell' = true) :
    (Builtin.copy_ #[sT, sT] ty #[.slice (some ⟨gb, o, none⟩) dl dc, .slice (some a) sl sc]).run P w =
      .ok (.int .i64 (Nat.min sl dl : Nat)) (w.setRow gb (cur.toList.take o ++ cs ++ cur.toList.drop (o + cs.length)).toArray) := by
  have hl := run_loadCells_list (P := P) w a cs hsrc
  have hst := run_storeCells_at P gb o bt cs 0 cur w hg (by simpa using hfit) h1
  simp only [Nat.add_zero] at hst
  simp [Builtin.copy_, run_underlying hu, Builtin.lenOf, Builtin.firstCells, hT.sizeOf, ← hn, hl, hst, goInt]
theorem run_copy_nothing {sT ty el : TypeId} {dl dc sl sc sz by_ : Nat} {a b : Option Addr} (hu : P.underlying sT = some (.slice el)) (hT : Ty P el sz by_ agg zs) (h0 : Nat.min sl dl = 0) :
    (Builtin.copy_ #[sT, sT] ty #[.slice b dl dc, .slice a sl sc]).run P w = .ok (.int .i64 (0 : Nat)) w := by
  have h0' : min sl dl = 0 := h0
  cases a <;> cases b <;> simp [Builtin.copy_, run_underlying hu, Builtin.lenOf, Builtin.firstCells, hT.sizeOf, h0', loadCells, loadCellsFrom, storeCells, goInt]
theorem copy_op {sT : TypeId} {v2 : Value} {r : Value} {w' : World} (hx : evl F x = some v) (hy : evl F y = some v2) (hd : Nat.blt d n = true) {a : Act} (hF : Fr n F a)
    (hrun : (Builtin.copy_ #[sT, sT] T #[v, v2]).run P w = .ok r w') (hs : Sep E w' l') (k : Jk E l' n ((d, r) :: F) K) :
    if Region.wanted (⟨some d, .call { callee := .builtin .copy, args := #[x, y], argTypes := #[sT, sT] }, T, p, e, none⟩ : Oper) (yielded ops a.tmps) = true then (⟨some d, .call { callee := .builtin .copy, args := #[x, y], argTypes := #[sT, sT] }, T, p, e, none⟩ : Oper).wp P a w K Q else K (a.put (some d) undef) w := by
  have hw : Region.wanted (⟨some d, .call { callee := .builtin .copy, args := #[x, y], argTypes := #[sT, sT] }, T, p, e, none⟩ : Oper) (yielded ops a.tmps) = true := rfl
  rw [if_pos hw]
  unfold Oper.wp
  have : (execOp a.eval ⟨some d, .call { callee := .builtin .copy, args := #[x, y], argTypes := #[sT, sT] }, T, p, e, none⟩).run P w = .ok (.value r) w' := by
    simp [execOp, resolve, invoke, builtin, hF.evl hx, hF.evl hy, hrun]
  rw [this]
  exact k w' _ hs (hF.put hd)
theorem x_copyTo {el sT : TypeId} {b o len cap sz by_ k0 dl dc : Nat} {xs ys : List (List Value)} {v2 : Value} (hx : evl F x = some (.slice (if cap = k0 then some ⟨b, o, none⟩ else (some (⟨b, o, none⟩ : Addr)).map (·.add (k0 * sz))) dl dc)) (hy : evl F y = some v2)
    (ht : P.underlying sT = some (.slice el)) (hT : Ty P el sz by_ agg zs) (hp : Pick (row el sz (.slice (some ⟨b, o, none⟩) len cap) xs) l m) (hr : ∀ w, Sep E w l → Reads w sz v2 ys) (hi : ys.length ≤ dl) (hk : k0 + ys.length ≤ xs.length) (hd : Nat.blt d n = true)
    (k : Jk E (row el sz (.slice (some ⟨b, o, none⟩) len cap) (xs.take k0 ++ ys ++ xs.drop (k0 + ys.length)) :: m) n ((d, .int .i64 (ys.length : Nat)) :: F) K) :
    Jop P ops Q ⟨some d, .call { callee := .builtin .copy, args := #[x, y], argTypes := #[sT, sT] }, T, p, e, none⟩ E l n F K := fun w a H hF => by
  have hrd := hr w H
  obtain ⟨a2, c2, hv2, hc2, hc2', hn2, ha2⟩ := hrd.is
  have H' := H.pick hp
  obtain ⟨S, hS⟩ := H'.head
  obtain ⟨C, hC, hl, hlc, hsz⟩ := row_block hS
  have hyl := hrd.wf.len
  subst hv2
  by_cases h0 : ys = []
  · subst h0
    refine copy_op hx hy hd hF (w' := w) (r := .int .i64 (0 : Nat)) (run_copy_nothing ht hT (by simp)) ?_ k
    simpa using H'
  · have hpos : 0 < ys.length := List.length_pos_iff.2 h0
    have hne : cap ≠ k0 := by omega
    rw [if_neg hne] at hx
    simp only [Option.map_some, Addr.add_lit] at hx
    cases a2 with
    | none => exact absurd (hn2 rfl).1 h0
    | some ad =>
      have hmul : k0 * sz + ys.length * sz ≤ xs.length * sz := by rw [← Nat.add_mul]; exact Nat.mul_le_mul_right _ hk
      have hmul2 : xs.length * sz ≤ cap * sz := Nat.mul_le_mul_right _ (by omega)
      have hrun := run_copy_sz (P := P) (w := w) (ty := T) (o := o + k0 * sz) (dl := dl) (dc := dc) (sl := ys.length) (sc := c2) (a := ad) (cs := ys.flatten) ht hT hC (by rw [hyl]; congr 1; exact (Nat.min_eq_left hi).symm) (ha2 ad rfl).2 (by rw [hyl]; omega) hrd.wf.one
      have hmin : Nat.min ys.length dl = ys.length := Nat.min_eq_left hi
      rw [hmin] at hrun
      exact copy_op hx hy hd hF hrun (H'.rep .here setRow_same (row_splice hC hrd.wf hk)) k
/-! ### two rows lie apart -/
end
theorem lset_same {α : Type} {xs : List α} {i : Nat} {y : α} (h : xs[i]? = some y) : xs.set i y = xs := by
  obtain ⟨hl, rfl⟩ := List.getElem?_eq_some_iff.1 h
  exact List.set_getElem_self hl
variable {ms : List (List Int)}
theorem snd_at {xs : List (Value × List Int)} {u : Nat} {r : List Int} (h : xs.map Prod.snd = ms) (hr : ms[u]? = some r) : ∃ v, xs[u]? = some (v, r) := by
  subst h
  rw [List.getElem?_map] at hr
  obtain ⟨⟨v, x⟩, h1, rfl⟩ := Option.map_eq_some_iff.1 hr
  exact ⟨v, h1⟩
theorem fst_set {xs : List (Value × List Int)} {u : Nat} {r r' : List Int} (h : xs[u]? = some (v, r)) : ((xs.set u (v, r')).map fun x => [x.1]) = xs.map fun x => [x.1] := by
  rw [List.map_set]
  exact lset_same (by rw [List.getElem?_map, h]; rfl)
theorem partC {b u off n br orr len cr : Nat} {ms : List Int} {xs : List (Value × List Int)} (hb : Has (blk b 292 [v]) l) (hv : Has (row 73 1 v (xs.map fun x => [x.1])) l) (hx : xs[u]? = some (.slice (some ⟨br, orr, none⟩) len cr, ms)) (hxl : xs.length ≤ 64) (ho : off + n ≤ 512) (hc : 512 ≤ cr) :
    Con Tryz.prog 85 #[.pointer (some ⟨b, 0, none⟩), .int .i64 ((u : Int) + 1), .int .i64 (off : Int), .int .i64 (n : Int)] E l (fun _ : Unit => .tuple #[.slice (if cr = off then some ⟨br, orr, none⟩ else (some (⟨br, orr, none⟩ : Addr)).map (·.add (off * 1))) n (cr - off), .bool true]) (fun _ => l) := by
  refine Con.body (n := 52) Tryz.func85 Z Z _ (env_ok 4 Z) ?_
  have hxu := (List.getElem?_eq_some_iff.1 hx).1
  refine J_row hv fun hw a cap hv' h1 h2 h3 => ?_
  have hml : (xs.map fun x : Value × List Int => [x.1]).length = xs.length := List.length_map _
  obtain ⟨bx, ox, rfl⟩ := h3 (by intro h; rw [h] at hml; simp at hml; omega)
  subst hv'
  have hm : cap ≤ 9223372036854775807 := h2
  refine sr <| ag Z Z <| ag Z Z <| nxx <| mv Z Z <| L_pur Z (p_lss Z Z) <| mv Z Z <| J_bool (t := 12) (c := false) Z (by first | (simp; omega) | simp) <| gp Z Z Z (p_move Z) Z <| gp Z Z Z (p_move Z) Z <| L_op <| G_on Z Z Z <| J_pur (p_nilCheck Z) Z Z Z <| gp Z Z Z (p_fieldAddr Z fa292_0) Z <| L_op <| G_on Z Z Z <| J_val (v_load Z ty290 HS (by exact rfl)) Z Z Z <| gp Z Z Z (p_len Z Tryz.underlying290) Z <| gp Z Z Z (p_gtr Z Z) Z <| L_pur Z (p_pick_f Z Z) <| mv Z Z <| J_bool (t := 21) (c := false) Z (by first | (simp; omega) | simp) <| gp Z Z Z (p_move Z) Z <| gp Z Z Z (p_lss Z Z) Z <| L_pur Z (p_pick_f Z Z) <| mv Z Z <| J_bool (t := 25) (c := false) Z (by first | (simp; omega) | simp) <| gp Z Z Z (p_move Z) Z <| gp Z Z Z (p_lss Z Z) Z ?_
  refine L_pur Z (p_pick_f Z Z) <| mv Z Z <| J_bool (t := 29) (c := false) Z (by first | (simp; omega) | simp) <| gp Z Z Z (p_move Z) Z <| L_op <| G_on Z Z Z <| J_pur (p_gtr Z Z) Z Z Z <| L_pur Z (p_pick_f Z Z) <| mv Z Z <| J_bool (t := 33) (c := false) Z (by first | (simp; omega) | simp) <| gp Z Z Z (p_move Z) Z <| L_op <| G_on Z Z Z <| J_pur (p_move Z) Z Z Z <| gp Z Z Z (p_sub64 Z Z (by omega)) Z <| gp Z Z Z (p_gtr Z Z) Z <| L_pur Z (p_pick_f Z Z) <| nq <| J_bool (t := 38) (c := false) Z (by first | (simp; omega) | simp) <| C_false Z <| J_skip <| qx <| mv Z Z <| nc Z Z <| fa Z Z fa292_0 <| L_val Z (v_load Z ty290 HS (by exact rfl)) <| mv Z Z <| L_pur Z (p_sub64 Z Z (by omega)) <| L_pur Z (p_indexAddr Z Z Tryz.underlying290 ty73 (by omega) (by simp; omega)) <| L_val Z (v_loadE1 Z ty73 hv (by rw [show ((u : Int) + 1 - 1).toNat = u by omega, List.getElem?_map, hx]; rfl)) ?_
  refine mv Z Z <| mv Z Z <| mv Z Z <| L_pur Z (p_add64 Z Z (by omega)) <| L_pur Z (p_slice Z Tryz.underlying73 ty5 Z Z (by omega) (by omega) (by omega)) <| J_slot (t := 51) (v := .slice (if cr = off then some ⟨br, orr, none⟩ else (some (⟨br, orr, none⟩ : Addr)).map (·.add (off * 1))) n (cr - off)) Z (by rw [show ((off : Int) + (n : Int)).toNat = off + n by omega, show ((off : Int)).toNat = off by omega, Nat.add_sub_cancel_left]) <| ag Z Z <| ag Z Z <| nq <| J_ret <| J_return (()) Tryz.results85 (.tmp Z (.tmp Z .nil)) ?_ ?_
  · rfl
  · exact SU
theorem readC {u : Nat} {r : List Int} (hp : Pick (memA b ms) l m) (hms : ms.length = 64) (hu : ms[u]? = some r) (hrl : r.length = 512) {off n : Nat} (ho : off + n ≤ 512) :
  Con Tryz.prog 50 #[.pointer (some ⟨b, 0, none⟩), .int .i64 ((u : Int) + 1), .int .i64 (off : Int), .int .i64 (n : Int)] E l (fun v : Value => .tuple #[v, .bool true]) (fun v => row 5 1 v (((r.drop off).take n).map encU) :: memA b ms :: m) := by
 refine Con.body (n := 23) Tryz.func50 Z Z _ (env_ok 4 Z) <| J_pick hp <| J_memO fun v xs hxs => ?_
 have hxl : xs.length = 64 := by rw [← hms, ← show xs.map Prod.snd = ms from hxs, List.length_map]
 obtain ⟨vr, hx⟩ := snd_at hxs hu
 have hxu := (List.getElem?_eq_some_iff.1 hx).1
 refine J_pick (A := each memF xs) PC <| J_eachOut hx <| J_asTo (B := row 5 1 vr (r.map encU)) (by rfl) <| J_row .here fun hwr ar cr hvr hr1 hr2 hr3 => ?_
 have hlr : (r.map encU).length = 512 := by rw [List.length_map]; exact hrl
 obtain ⟨br, orr, rfl⟩ := hr3 (by intro h; rw [h] at hlr; simp at hlr)
 subst hvr
 have hcr : cr ≤ 9223372036854775807 := hr2
 refine sr <| ag Z Z <| ag Z Z <| nx <| mv Z Z <| mv Z Z <| mv Z Z <| mv Z Z <| xo fc85 (A4 Z Z Z Z) Z (partC (len := (r.map encU).length) HS HS hx (by omega) ho (by omega)) fun _ => mv Z Z <| L_pur Z (p_extract Z Z) <| L_pur Z (p_extract Z Z) <| ag Z Z <| ag Z Z <| nx <| mv Z Z <| xo fc97 (A1 Z) Z (clone97 (xs := (((r.map encU).drop off).take n)) (fun w H => ((sep_reads (xs := r.map encU) HS H).drop (lo := off) (by omega)).take (i := n) (by simp; omega)) (by simp; omega)) <| JE (((r.drop off).take n).map encU) (by rw [List.map_take, List.map_drop]) fun a21 c21 hw21 hl21 hm21 hz21 => mv Z Z <| ag Z Z <| ag Z Z <| nq <| J_ret <| J_pick (A := row 5 1 (.slice (some ⟨br, orr, none⟩) (r.map encU).length cr) _) PC <| J_asTo (B := memF (.slice (some ⟨br, orr, none⟩) (r.map encU).length cr, r)) (by rfl) <| J_pick (A := each memF _) PC <| J_pick (A := memF _) PC ?_
 refine J_eachIn (.slice (some ⟨br, orr, none⟩) (r.map encU).length cr, r) hxu ?_
 skip
 refine J_pick (A := row 73 1 v _) PC <| J_rowEq (ys := (xs.set u (.slice (some ⟨br, orr, none⟩) (r.map encU).length cr, r)).map fun x : Value × List Int => [x.1]) (fst_set hx).symm <| J_memS (b := b) (ms := (ms.set u r)) v (xs.set u (.slice (some ⟨br, orr, none⟩) (r.map encU).length cr, r)) PX (by show List.map Prod.snd _ = _; rw [List.map_set, show xs.map Prod.snd = ms from hxs]) <| J_asTo (B := memA b ms) (by rw [lset_same hu]) ?_
 exact J_return (_) Tryz.results50 (.tmp Z (.tmp Z .nil)) Z SU
theorem writeC {u : Nat} {r : List Int} (hp : Pick (memA b ms) l m) (hms : ms.length = 64) (hu : ms[u]? = some r) (hrl : r.length = 512) {off : Nat} {v' : Value} (hr : ∀ w, Sep E w m → Reads w 1 v' (ys.map encU)) (ho : off + ys.length ≤ 512) :
    Con Tryz.prog 40 #[.pointer (some ⟨b, 0, none⟩), .int .i64 ((u : Int) + 1), .int .i64 (off : Int), v'] E l (fun _ : Unit => .bool true) (fun _ => memA b (ms.set u (putB r off ys)) :: m) := by
  refine Con.body (n := 24) Tryz.func40 Z Z _ (env_ok 4 Z) <| J_readsB (fun w H => hr w (H.pick hp).tail) fun hw' a' cap' hv' h1' h2' h3' => ?_
  subst hv'
  refine J_pick hp <| J_memO fun v xs hxs => ?_
  have hxl : xs.length = 64 := by rw [← hms, ← show xs.map Prod.snd = ms from hxs, List.length_map]
  obtain ⟨vr, hx⟩ := snd_at hxs hu
  have hxu := (List.getElem?_eq_some_iff.1 hx).1
  refine J_pick (A := each memF xs) PC <| J_eachOut hx <| J_asTo (B := row 5 1 vr (r.map encU)) (by rfl) <| J_row .here fun hwr ar cr hvr hr1 hr2 hr3 => ?_
  have hlr : (r.map encU).length = 512 := by rw [List.length_map]; exact hrl
  obtain ⟨br, orr, rfl⟩ := hr3 (by intro h; rw [h] at hlr; simp at hlr)
  subst hvr
  have hcr : cr ≤ 9223372036854775807 := hr2
  refine sr <| ag Z Z <| nx <| mv Z Z <| mv Z Z <| mv Z Z <| mv Z Z <| L_pur Z (p_len Z Tryz.underlying73) <| J_slot (t := 16) (v := .int .i64 (ys.length : Int)) Z (by simp) <| xo fc85 (A4 Z Z Z Z) Z (partC (len := (r.map encU).length) (n := ys.length) HS HS hx (by omega) ho (by omega)) fun _ => mv Z Z <| L_pur Z (p_extract Z Z) <| L_pur Z (p_extract Z Z) <| ag Z Z <| ag Z Z <| nx <| mv Z Z <| mv Z Z <| L_op <| x_copyTo (k0 := off) (len := (r.map encU).length) (xs := r.map encU) (ys := ys.map encU) Z Z Tryz.underlying73 ty5 PC (fun w H => hr w (Sub.sep SU H)) (by simp) (by simp; omega) Z <| J_rowEq (ys := (putB r off ys).map encU) (by simp [putB]) <| nx <| mv Z Z <| ag Z Z <| nq <| J_ret <| J_pick (A := row 5 1 (.slice (some ⟨br, orr, none⟩) (r.map encU).length cr) _) PC ?_
  refine J_asTo (B := memF (.slice (some ⟨br, orr, none⟩) (r.map encU).length cr, putB r off ys)) (by rfl) <| J_pick (A := each memF _) PC <| J_pick (A := memF _) PC <| J_eachIn (.slice (some ⟨br, orr, none⟩) (r.map encU).length cr, putB r off ys) hxu ?_
  skip
  refine J_pick (A := row 73 1 v _) PC <| J_rowEq (ys := (xs.set u (.slice (some ⟨br, orr, none⟩) (r.map encU).length cr, putB r off ys)).map fun x : Value × List Int => [x.1]) (fst_set hx).symm <| J_memS (b := b) (ms := (ms.set u (putB r off ys))) v (xs.set u (.slice (some ⟨br, orr, none⟩) (r.map encU).length cr, putB r off ys)) PX (by show List.map Prod.snd _ = _; rw [List.map_set, show xs.map Prod.snd = ms from hxs]) <| J_return (()) Tryz.results40 (.tmp Z .nil) ?_ ?_
  · rfl
  · exact SU
def rowAt (ms : List (List Int)) (u : Int) : List Int := (ms[(u - 1).toNat]?).getD []
structure MemOk (ms : List (List Int)) : Prop where
  len : ms.length = 64
  rows : ∀ r ∈ ms, r.length = 512 ∧ Bytes r
structure RgOk (r : Rg) : Prop where
  sq : 1 ≤ r.sq ∧ r.sq ≤ 64
  cq : 1 ≤ r.cq ∧ r.cq ≤ 64
  cb : 0 ≤ r.cb ∧ r.cb ≤ 4
  tail : 0 ≤ r.tail ∧ r.tail < 4294967296
  sb : 0 ≤ r.sb ∧ r.sb ≤ 3
  head : 0 ≤ r.head ∧ r.head < 4294967296
variable {u : Int}
theorem MemOk.at (h : MemOk ms) (hu : 1 ≤ u ∧ u ≤ 64) : ms[(u - 1).toNat]? = some (rowAt ms u) ∧ (rowAt ms u).length = 512 ∧ Bytes (rowAt ms u) := by
  have hl : (u - 1).toNat < ms.length := by rw [h.len]; omega
  have e := List.getElem?_eq_getElem hl
  have e2 : rowAt ms u = ms[(u - 1).toNat] := by unfold rowAt; rw [e]; rfl
  exact ⟨by rw [e2]; exact e, by rw [e2]; exact h.rows _ (List.getElem_mem hl)⟩
theorem MemOk.put (h : MemOk ms) {u : Nat} {r : List Int} (hr : r.length = 512 ∧ Bytes r) : MemOk (ms.set u r) := ⟨by rw [List.length_set, h.len], fun x hx => by
  rcases List.mem_or_eq_of_mem_set hx with h1 | h1
  · exact h.rows x h1
  · rw [h1]; exact hr⟩
def rgFar (r : Rg) (ms : List (List Int)) : Int := IntKind.u32.wrap (r.tail - getN (rowAt ms r.cq) 0 4)
def rgRoom (r : Rg) (ms : List (List Int)) : Int := if rgFar r ms > 2 ^ r.cb.toNat then 0 else 2 ^ r.cb.toNat - rgFar r ms
def rgWrOk (r : Rg) (ms : List (List Int)) : Bool := decide (rgFar r ms < 2 ^ r.cb.toNat)
def rgRow (r : Rg) (ms : List (List Int)) (c : Cqe) : List Int := putB (putB (rowAt ms r.cq) (16 + r.tail % 2 ^ r.cb.toNat * 16).toNat (bytesX c)) 4 (le4 (IntKind.u32.wrap (r.tail + 1)))
def rgUp (r : Rg) : Rg := { r with tail := IntKind.u32.wrap (r.tail + 1) }
def postOk (r : Rg) (ms : List (List Int)) : Bool := r.over.isEmpty && rgWrOk r ms
def postR (r : Rg) (ms : List (List Int)) (c : Cqe) : Rg := if postOk r ms then rgUp r else { r with over := r.over ++ [c] }
def postM (r : Rg) (ms : List (List Int)) (c : Cqe) : List (List Int) := if postOk r ms then ms.set (r.cq - 1).toNat (rgRow r ms c) else ms
theorem wrap32_in (n : Int) : 0 ≤ IntKind.u32.wrap n ∧ IntKind.u32.wrap n < 4294967296 := by
  have : IntKind.u32.wrap n = n % 4294967296 := by simp [IntKind.wrap, IntKind.bits, IntKind.signed]
  rw [this]; omega
theorem cutI_in {n a b : Int} (h : a ≤ b) : a ≤ cutI n a b ∧ cutI n a b ≤ b := by
  unfold cutI; split <;> split <;> omega
theorem rgNew_is {a b cs cc : Int} (ha : 1 ≤ a ∧ a ≤ 64) (hb : 1 ≤ b ∧ b ≤ 64) : RgOk (rgNew a b cs cc) := ⟨ha, hb, cutI_in (by omega), ⟨by show (0 : Int) ≤ 0; omega, by show (0 : Int) < _; omega⟩, cutI_in (by omega), ⟨by show (0 : Int) ≤ 0; omega, by show (0 : Int) < _; omega⟩⟩
variable {r : Rg}
theorem RgOk.up (h : RgOk r) : RgOk (rgUp r) := ⟨h.sq, h.cq, h.cb, wrap32_in _, h.sb, h.head⟩
theorem pow_cb {k : Int} (h : 0 ≤ k ∧ k ≤ 4) : (1 : Int) ≤ 2 ^ k.toNat ∧ (2 : Int) ^ k.toNat ≤ 16 ∧ IntKind.u32.wrap (1 * 2 ^ k.toNat) = 2 ^ k.toNat := by
  have : k = 0 ∨ k = 1 ∨ k = 2 ∨ k = 3 ∨ k = 4 := by omega
  rcases this with rfl | rfl | rfl | rfl | rfl <;> decide
theorem place_in (h : RgOk r) : 0 ≤ r.tail % 2 ^ r.cb.toNat ∧ r.tail % 2 ^ r.cb.toNat ≤ 15 := by
  have h2 := pow_cb h.cb
  have h3 := Int.emod_nonneg r.tail (b := 2 ^ r.cb.toNat) (by omega)
  have h4 := Int.emod_lt_of_pos r.tail (b := 2 ^ r.cb.toNat) (by omega)
  omega
theorem rgRow_ok (h : RgOk r) (hM : MemOk ms) (c : Cqe) : (rgRow r ms c).length = 512 ∧ Bytes (rgRow r ms c) := by
  obtain ⟨h1, h2, h3⟩ := hM.at h.cq
  have h4 := place_in h
  have h5 : (putB (rowAt ms r.cq) (16 + r.tail % 2 ^ r.cb.toNat * 16).toNat (bytesX c)).length = 512 := by rw [putB_len (by rw [bytesX_len]; omega), h2]
  exact ⟨by unfold rgRow; rw [putB_len (by simp [le4]; omega), h5], putB_bytes (putB_bytes h3 (bytesX_bytes c)) (le4_bytes _)⟩
theorem postM_ok (h : RgOk r) (hM : MemOk ms) (c : Cqe) : MemOk (postM r ms c) := by
  unfold postM; split
  · exact hM.put (rgRow_ok h hM c)
  · exact hM
theorem postR_ok (h : RgOk r) (c : Cqe) : RgOk (postR r ms c) := by
  unfold postR; split
  · exact h.up
  · exact ⟨h.sq, h.cq, h.cb, h.tail, h.sb, h.head⟩
variable {mb : Nat}
theorem ringWord (hp : Picks [blk b 217 [.pointer (some ⟨mb, 0, none⟩), .int .i64 r.sq, .int .i64 r.cq, .int .i64 r.sb, .int .i64 r.cb, .int .u32 r.head, .int .u32 r.tail, v], memA mb ms] l m) {x : List Int} {at_ : Nat} (hat : at_ + 4 ≤ 512) {u : Nat} (hms : ms.length = 64) (hu : ms[u]? = some x) (hxl : x.length = 512) (hB : Bytes x) :
    Con Tryz.prog 95 #[.pointer (some ⟨b, 0, none⟩), .int .i64 ((u : Int) + 1), .int .i64 (at_ : Int)] E l (fun _ : Unit => .int .u32 (getN x at_ 4)) (fun _ => blk b 217 [.pointer (some ⟨mb, 0, none⟩), .int .i64 r.sq, .int .i64 r.cq, .int .i64 r.sb, .int .i64 r.cb, .int .u32 r.head, .int .u32 r.tail, v] :: memA mb ms :: m) := by
  refine Con.body (n := 21) Tryz.func95 Z Z _ (env_ok 3 Z) <| J_picks2 hp <| sr <| ag Z Z <| nx <| mv Z Z <| nc Z Z <| fa Z Z fa217_0 <| L_val Z (v_load Z ty75 HS (by exact rfl)) <| mv Z Z <| mv Z Z <| xo fc50 (A4 Z Z Z Z) Z (readC (ms := ms) (u := u) (off := at_) (n := 4) PC hms hu hxl (by omega)) fun x16 => mv Z Z <| L_pur Z (p_extract Z Z) <| L_pur Z (p_extract Z Z) <| ag Z Z <| ag Z Z <| nx <| mv Z Z <| xo fc139 (A2 Z Z) Z (u32C (a := 0) (bs := (x.drop at_).take 4) (fun w H => sep_reads (xs := ((x.drop at_).take 4).map encU) HS H) (by simp; omega) (by simp; omega) (part_bytes hB)) fun _ => J_slot (t := 20) (v := .int .u32 (getN x at_ 4)) Z (by rw [getN_part]) <| ag Z Z <| nq <| J_ret <| J_return (()) Tryz.results95 (.tmp Z .nil) ?_ ?_
  · rfl
  · exact SU
theorem ringPuts (hp : Picks [blk b 217 [.pointer (some ⟨mb, 0, none⟩), .int .i64 r.sq, .int .i64 r.cq, .int .i64 r.sb, .int .i64 r.cb, .int .u32 r.head, .int .u32 r.tail, v], memA mb ms] l m) {x : List Int} {n : Int} {at_ : Nat} (hat : at_ + 4 ≤ 512) {u : Nat} (hms : ms.length = 64) (hu : ms[u]? = some x) (hxl : x.length = 512)  :
    Con Tryz.prog 195 #[.pointer (some ⟨b, 0, none⟩), .int .i64 ((u : Int) + 1), .int .i64 (at_ : Int), .int .u32 n] E l (fun _ : Unit => .tuple #[]) (fun _ => blk b 217 [.pointer (some ⟨mb, 0, none⟩), .int .i64 r.sq, .int .i64 r.cq, .int .i64 r.sb, .int .i64 r.cb, .int .u32 r.head, .int .u32 r.tail, v] :: memA mb (ms.set u (putB x at_ (le4 n))) :: m) := by
  refine Con.body (n := 18) Tryz.func195 Z Z _ (env_ok 4 Z) <| J_picks2 hp <| J_drawL (some 9) mixed <| ip 0 Z Z Z Z (p_move Z) <| ip 1 Z Z Z Z (p_nilCheck Z) <| ip 2 Z Z Z Z (p_fieldAddr Z fa217_0) <| iv 3 Z Z Z Z (fun _ => v_load Z ty75 HS (by exact rfl)) <| ip 4 Z Z Z Z (p_move Z) <| ip 5 Z Z Z Z (p_move Z) <| ip 7 Z Z Z Z (p_move Z) <| i1 6 Z <| x_make (len := 4) Z Z Tryz.underlying73 ty5 Z Z (by simp) (by simp) Z Z <| JE ((List.replicate 4 0).map encU) (by rfl) fun a14 c14 hw14 hl14 hm14 hz14 => i1 8 Z <| xc fc264 (A3 Z Z Z) Z (put32C (a := 0) (bs := List.replicate 4 0) (fun w H => sep_reads (xs := (List.replicate 4 (0 : Int)).map encU) HS H) (by decide) (by decide)) ?_
  refine JE ((le4 n).map encU) (by rfl) fun a16 c16 hw16 hl16 hm16 hz16 => i1 9 Z <| xc fc40 (A4 Z Z Z Z) Z (writeC (ms := ms) (u := u) (r := x) (off := at_) (ys := le4 n) PC hms hu hxl (fun w H => sep_reads (xs := (le4 n).map encU) HS H) (by simp [le4]; omega)) fun _ => i0 <| J_endnormal ?_
  exact J_return (()) Tryz.results195 .nil Z SU
theorem ringRoom (hp : Picks [blk b 217 [.pointer (some ⟨mb, 0, none⟩), .int .i64 r.sq, .int .i64 r.cq, .int .i64 r.sb, .int .i64 r.cb, .int .u32 r.head, .int .u32 r.tail, v], memA mb ms] l m) (hR : RgOk r) (hM : MemOk ms) :
    Con Tryz.prog 49 #[.pointer (some ⟨b, 0, none⟩)] E l (fun _ : Unit => .tuple #[.int .i64 (rgRoom r ms), .bool (!decide (rgFar r ms > 2 ^ r.cb.toNat))]) (fun _ => blk b 217 [.pointer (some ⟨mb, 0, none⟩), .int .i64 r.sq, .int .i64 r.cq, .int .i64 r.sb, .int .i64 r.cb, .int .u32 r.head, .int .u32 r.tail, v] :: memA mb ms :: m) := by
  refine Con.body (n := 29) Tryz.func49 Z Z _ (env_ok 1 Z) <| J_picks2 hp ?_
  obtain ⟨hu, hxl, hB⟩ := hM.at hR.cq
  obtain ⟨x, hx⟩ : ∃ x, x = rowAt ms r.cq := ⟨_, rfl⟩
  obtain ⟨u, huq⟩ : ∃ u : Nat, r.cq = (u : Int) + 1 := ⟨(r.cq - 1).toNat, by have := hR.cq; omega⟩
  have hu1 : (r.cq - 1).toNat = u := by omega
  rw [← hx, hu1] at hu
  rw [← hx] at hxl hB
  have hcb := pow_cb hR.cb
  have hcr := hR.cb
  refine sr <| ag Z Z <| ag Z Z <| nq <| J_seq <| J_drawL none mixed <| ip 0 Z Z Z Z (p_move Z) <| ip 1 Z Z Z Z (p_nilCheck Z) <| ip 2 Z Z Z Z (p_fieldAddr Z fa217_6) <| iv 3 Z Z Z Z (fun _ => v_load Z ty22 HS (by exact rfl)) <| ip 4 Z Z Z Z (p_move Z) <| ip 5 Z Z Z Z (p_move Z) <| ip 6 Z Z Z Z (p_nilCheck Z) <| ip 7 Z Z Z Z (p_fieldAddr Z fa217_2) <| iv 8 Z Z Z Z (fun _ => v_load Z ty3 HS (by exact rfl)) <| J_slot (t := 14) (v := .int .i64 ((u : Int) + 1)) Z (by rw [huq]) <| ip 11 Z Z Z Z (p_move Z) <| ip 12 Z Z Z Z (p_nilCheck Z) <| ip 13 Z Z Z Z (p_fieldAddr Z fa217_4) <| iv 14 Z Z Z Z (fun _ => v_load Z ty3 HS (by exact rfl)) ?_
  refine ip 15 Z Z Z Z (p_shl Z Z (by omega) (by have : (IntKind.u32.bits : Int) = 32 := rfl; omega)) <| J_slot (t := 21) (v := .int .u32 (2 ^ r.cb.toNat)) Z (by rw [hcb.2.2]) <| i1 9 Z <| xc fc95 (A3 Z Z Z) Z (ringWord (r := r) (ms := ms) (x := x) (u := u) (at_ := 0) PX (by omega) hM.len hu hxl hB) fun _ => i1 10 Z <| xc fc94 (A2 Z Z) Z (distC) fun _ => J_slot (t := 16) (v := .int .u32 (rgFar r ms)) Z (by unfold rgFar; rw [← hx]) <| ip 16 Z Z Z Z (p_assign Z) <| ip 17 Z Z Z Z (p_assign Z) <| i0 <| Q_then <| J_seq <| sr <| mv Z Z <| mv Z Z <| L_pur Z (p_gtr Z Z) <| nq <| C_dec Z (fun h24 => ?_) (fun h24 => ?_)
  refine sr <| ag Z Z <| ag Z Z <| nq <| J_ret <| Q_then_ret <| J_return (()) Tryz.results49 (.tmp Z (.tmp Z .nil)) ?_ ?_
  · simp [one, rgRoom, h24]
  · exact SU
  have hfar := wrap32_in (r.tail - getN (rowAt ms r.cq) 0 4)
  have hfe : rgFar r ms = IntKind.u32.wrap (r.tail - getN (rowAt ms r.cq) 0 4) := rfl
  refine J_skip <| qx <| mv Z Z <| mv Z Z <| L_pur Z (p_sub Z Z) <| L_pur Z (p_conv Z Tryz.underlying22 Tryz.underlying3) <| J_slot (t := 28) (v := .int .i64 (2 ^ r.cb.toNat - rgFar r ms)) Z (by rw [wrap32u_of (by omega), wrap64_of (by omega)]) <| ag Z Z <| ag Z Z <| nq <| J_ret <| J_return (()) Tryz.results49 (.tmp Z (.tmp Z .nil)) ?_ ?_
  · simp [one, rgRoom, h24]
  · exact SU
theorem ringWrites (hp : Picks [blk b 217 [.pointer (some ⟨mb, 0, none⟩), .int .i64 r.sq, .int .i64 r.cq, .int .i64 r.sb, .int .i64 r.cb, .int .u32 r.head, .int .u32 r.tail, v], memA mb ms] l m) (hR : RgOk r) (hM : MemOk ms) :
    Con Tryz.prog 133 #[.pointer (some ⟨b, 0, none⟩), .agg (encX c).toArray] E l (fun _ : Unit => .bool (rgWrOk r ms)) (fun _ => blk b 217 [.pointer (some ⟨mb, 0, none⟩), .int .i64 (if rgWrOk r ms then rgUp r else r).sq, .int .i64 (if rgWrOk r ms then rgUp r else r).cq, .int .i64 (if rgWrOk r ms then rgUp r else r).sb, .int .i64 (if rgWrOk r ms then rgUp r else r).cb, .int .u32 (if rgWrOk r ms then rgUp r else r).head, .int .u32 (if rgWrOk r ms then rgUp r else r).tail, v] :: memA mb (if rgWrOk r ms then ms.set (r.cq - 1).toNat (rgRow r ms c) else ms) :: m) := by
  refine Con.body (n := 55) Tryz.func133 Z Z _ (env_ok 2 Z) <| J_picks2 hp ?_
  obtain ⟨hu, hxl, hB⟩ := hM.at hR.cq
  obtain ⟨x, hx⟩ : ∃ x, x = rowAt ms r.cq := ⟨_, rfl⟩
  obtain ⟨u, huq⟩ : ∃ u : Nat, r.cq = (u : Int) + 1 := ⟨(r.cq - 1).toNat, by have := hR.cq; omega⟩
  have hu1 : (r.cq - 1).toNat = u := by omega
  rw [← hx, hu1] at hu
  rw [← hx] at hxl hB
  have hcb := pow_cb hR.cb
  have hcr := hR.cb
  refine sr <| L_op <| x_box Z Z Z fun b3 => ag Z Z <| nxx <| mv Z Z <| xo fc49 (A1 Z) Z (ringRoom (r := r) (ms := ms) PX hR hM) fun _ => mv Z Z <| L_pur Z (p_extract Z Z) <| L_pur Z (p_extract Z Z) <| ag Z Z <| ag Z Z <| nx <| mv Z Z <| L_pur Z (p_not Z) <| mv Z Z <| J_gsplit (t := 14) Z (fun h14 => ?_) (fun h14 => ?_)
  have hno : rgWrOk r ms = false := by unfold rgWrOk; simp at h14 ⊢; omega
  refine gz Z Z Z Z Z <| gz Z Z Z Z Z <| L_pur Z (p_pick_t Z Z) <| nq <| C_true Z <| sr <| ag Z Z <| nq <| J_ret <| Q_then_ret <| J_pick (A := blk b _ _) PC <| J_asTo (B := blk b 217 [.pointer (some ⟨mb, 0, none⟩), .int .i64 (if rgWrOk r ms then rgUp r else r).sq, .int .i64 (if rgWrOk r ms then rgUp r else r).cq, .int .i64 (if rgWrOk r ms then rgUp r else r).sb, .int .i64 (if rgWrOk r ms then rgUp r else r).cb, .int .u32 (if rgWrOk r ms then rgUp r else r).head, .int .u32 (if rgWrOk r ms then rgUp r else r).tail, v]) (by rw [hno, if_neg (by decide)]) <| J_pick (A := memA mb _) PC <| J_asTo (B := memA mb (if rgWrOk r ms then ms.set (r.cq - 1).toNat (rgRow r ms c) else ms)) (by rw [hno, if_neg (by decide)]) <| J_return (()) Tryz.results133 (.tmp Z .nil) ?_ ?_
  · simp [one, hno]
  · exact SU
  refine gp Z Z Z (p_move Z) Z <| gp Z Z Z (p_lss Z Z) Z <| L_pur Z (p_pick_f Z Z) <| nq <| C_dec Z (fun h17 => ?_) (fun h17 => ?_)
  have hno : rgWrOk r ms = false := by unfold rgWrOk rgRoom at *; simp at h14 h17 ⊢; split at h17 <;> omega
  refine sr <| ag Z Z <| nq <| J_ret <| Q_then_ret <| J_pick (A := blk b _ _) PC <| J_asTo (B := blk b 217 [.pointer (some ⟨mb, 0, none⟩), .int .i64 (if rgWrOk r ms then rgUp r else r).sq, .int .i64 (if rgWrOk r ms then rgUp r else r).cq, .int .i64 (if rgWrOk r ms then rgUp r else r).sb, .int .i64 (if rgWrOk r ms then rgUp r else r).cb, .int .u32 (if rgWrOk r ms then rgUp r else r).head, .int .u32 (if rgWrOk r ms then rgUp r else r).tail, v]) (by rw [hno, if_neg (by decide)]) <| J_pick (A := memA mb _) PC <| J_asTo (B := memA mb (if rgWrOk r ms then ms.set (r.cq - 1).toNat (rgRow r ms c) else ms)) (by rw [hno, if_neg (by decide)]) <| J_return (()) Tryz.results133 (.tmp Z .nil) ?_ ?_
  · simp [one, hno]
  · exact SU
  have hyes : rgWrOk r ms = true := by unfold rgWrOk rgRoom at *; simp at h14 h17 ⊢; split at h17 <;> omega
  have hpl := place_in hR
  obtain ⟨off, hoff⟩ : ∃ off : Nat, 16 + r.tail % 2 ^ r.cb.toNat * 16 = (off : Int) := ⟨(16 + r.tail % 2 ^ r.cb.toNat * 16).toNat, by omega⟩
  obtain ⟨y, hy⟩ : ∃ y, y = putB x off (bytesX c) := ⟨_, rfl⟩
  have hyl : y.length = 512 := by rw [hy, putB_len (by rw [bytesX_len]; omega), hxl]
  have hul : u < ms.length := (List.getElem?_eq_some_iff.1 hu).1
  have hrow : rgRow r ms c = putB y 4 (le4 (IntKind.u32.wrap (r.tail + 1))) := by unfold rgRow; rw [← hx, hoff, Int.toNat_natCast, ← hy]
  refine J_skip <| Q_then <| J_seq <| J_drawL (some 19) mixed <| ip 0 Z Z Z Z (p_move Z) <| ip 1 Z Z Z Z (p_nilCheck Z) <| ip 2 Z Z Z Z (p_fieldAddr Z fa217_0) <| iv 3 Z Z Z Z (fun _ => v_load Z ty75 HS (by exact rfl)) <| ip 4 Z Z Z Z (p_move Z) <| ip 5 Z Z Z Z (p_nilCheck Z) <| ip 6 Z Z Z Z (p_fieldAddr Z fa217_2) <| iv 7 Z Z Z Z (fun _ => v_load Z ty3 HS (by exact rfl)) <| J_slot (t := 25) (v := .int .i64 ((u : Int) + 1)) Z (by rw [huq]) <| ip 8 Z Z Z Z (p_move Z) <| ip 9 Z Z Z Z (p_nilCheck Z) <| ip 10 Z Z Z Z (p_fieldAddr Z fa217_6) <| iv 11 Z Z Z Z (fun _ => v_load Z ty22 HS (by exact rfl)) <| ip 12 Z Z Z Z (p_move Z) <| ip 13 Z Z Z Z (p_nilCheck Z) <| ip 14 Z Z Z Z (p_fieldAddr Z fa217_4) <| iv 15 Z Z Z Z (fun _ => v_load Z ty3 HS (by exact rfl)) ?_
  refine J_slot (t := 33) (v := .int .i64 (r.cb.toNat : Int)) Z (by rw [Int.toNat_of_nonneg hcr.1]) <| iv 17 Z Z Z Z (fun _ => v_loadA Z ty93 HS CT) <| i1 16 Z <| xc fc193 (A3 Z Z Z) Z (placeC (k := r.cb.toNat) (n := r.tail) (.inl Z) (by omega) hR.tail) fun _ => J_slot (t := 34) (v := .int .i64 (off : Int)) Z (by rw [← hoff]) <| i1 18 Z <| xc fc194 (A1 Z) Z (bytesC) <| JR fun a36 c36 hw36 hl36 hm36 hz36 => i1 19 Z <| xc fc40 (A4 Z Z Z Z) Z (writeC (ms := ms) (u := u) (r := x) (off := off) (ys := bytesX c) PC hM.len hu hxl (fun w H => sep_reads (xs := (bytesX c).map encU) HS H) (by rw [bytesX_len]; omega)) fun _ => J_pick (A := memA mb _) PC <| J_asTo (B := memA mb (ms.set u y)) (by rw [hy]) <| i0 <| qx <| mv Z Z <| nc Z Z <| fa Z Z fa217_6 <| L_val Z (v_load Z ty22 HS (by exact rfl)) ?_
  refine L_pur Z (p_add Z Z) <| J_slot (t := 42) (v := .int .u32 (rgUp r).tail) Z Z <| nc Z Z <| fa Z Z fa217_6 <| L_op <| x_store Z Z ty22 Z SM SM RO PT <| J_pick (A := blk b _ _) PC <| J_asTo (B := blk b 217 [.pointer (some ⟨mb, 0, none⟩), .int .i64 (rgUp r).sq, .int .i64 (rgUp r).cq, .int .i64 (rgUp r).sb, .int .i64 (rgUp r).cb, .int .u32 (rgUp r).head, .int .u32 (rgUp r).tail, v]) (by rfl) <| nq <| J_seq <| J_drawT 9 mixed (by kernel_rfl) <| sm Z Z <| sm Z Z <| sp Z (p_nilCheck Z) <| sp Z (p_fieldAddr Z fa217_2) <| S_val Z (v_load Z ty3 HS (by exact rfl)) <| J_slot (t := 49) (v := .int .i64 ((u : Int) + 1)) Z (by rw [← huq]; rfl) <| sm Z Z <| sp Z (p_nilCheck Z) <| sp Z (p_fieldAddr Z fa217_6) <| S_val Z (v_load Z ty22 HS (by exact rfl)) <| S_nil ?_
  refine L_op (xc fc195 (A4 Z Z Z Z) Z (ringPuts (r := rgUp r) (ms := ms.set u y) (x := y) (u := u) (n := (rgUp r).tail) (at_ := 4) PX (by omega) (by rw [List.length_set, hM.len]) (by rw [List.getElem?_set_self hul]) hyl) fun _ => ?_)
  refine J_pick (A := memA mb _) PC <| J_asTo (B := memA mb (ms.set u (rgRow r ms c))) (by rw [List.set_set, hrow]; rfl) <| nx <| ag Z Z <| nq <| J_ret <| J_pick (A := blk b _ _) PC <| J_asTo (B := blk b 217 [.pointer (some ⟨mb, 0, none⟩), .int .i64 (if rgWrOk r ms then rgUp r else r).sq, .int .i64 (if rgWrOk r ms then rgUp r else r).cq, .int .i64 (if rgWrOk r ms then rgUp r else r).sb, .int .i64 (if rgWrOk r ms then rgUp r else r).cb, .int .u32 (if rgWrOk r ms then rgUp r else r).head, .int .u32 (if rgWrOk r ms then rgUp r else r).tail, v]) (by rw [hyes, if_pos Z]) <| J_pick (A := memA mb _) PC <| J_asTo (B := memA mb (if rgWrOk r ms then ms.set (r.cq - 1).toNat (rgRow r ms c) else ms)) (by rw [hyes, if_pos rfl, hu1]) <| J_return (()) Tryz.results133 (.tmp Z .nil) ?_ ?_
  · simp [one, hyes]
  · exact SU
theorem ringPost (hp : Picks [rgA b mb r, memA mb ms] l m) (hl : r.over.length ≤ 100000) (hR : RgOk r) (hM : MemOk ms) :
    Con Tryz.prog 175 #[.pointer (some ⟨b, 0, none⟩), .agg (encX c).toArray] E l (fun _ : Unit => .bool (postOk r ms)) (fun _ => rgA b mb (postR r ms c) :: memA mb (postM r ms c) :: m) := by
  refine Con.body (n := 26) Tryz.func175 Z Z _ (env_ok 2 Z) <| J_picks2 hp <| J_rgO fun v _ => J_row (.there .here) fun hw a cap hv h1 h2 h3 => ?_
  subst hv
  have hm : cap ≤ 9223372036854775807 := h2
  have hml : (r.over.map encX).length = r.over.length := List.length_map _
  refine sr <| L_op <| x_box Z Z Z fun b3 => ag Z Z <| nxx <| mv Z Z <| nc Z Z <| fa Z Z fa217_7 <| L_val Z (v_load Z ty88 HS (by exact rfl)) <| L_pur Z (p_len Z Tryz.underlying88) <| L_pur Z (p_eql Z Z) <| mv Z Z <| J_gsplit (t := 11) Z (fun h11 => ?_) (fun h11 => ?_)
  have he : r.over = [] := by simpa using h11
  refine gp Z Z Z (p_move Z) Z <| L_op <| G_on Z Z Z <| J_val (v_loadA Z ty93 HS CT) Z Z Z <| L_op <| G_on Z Z Z <| xc fc133 (A2 Z Z) Z (ringWrites (c := c) (r := r) (ms := ms) PX hR hM) fun _ => L_pur Z (p_pick_t Z Z) <| nq <| C_split Z (fun h15 => ?_) (fun h15 => ?_)
  have hok : postOk r ms = true := by unfold postOk; rw [he, h15]; rfl
  refine sr <| ag Z Z <| nq <| J_ret <| Q_then_ret <| J_pick (A := row 93 4 _ _) PC <| J_rowEq (ys := (rgUp r).over.map encX) (by rfl) <| J_pick (A := blk b _ _) PC <| J_asTo (B := blk b 217 [.pointer (some ⟨mb, 0, none⟩), .int .i64 (rgUp r).sq, .int .i64 (rgUp r).cq, .int .i64 (rgUp r).sb, .int .i64 (rgUp r).cb, .int .u32 (rgUp r).head, .int .u32 (rgUp r).tail, (.slice a (r.over.map encX).length cap)]) (by rw [h15, if_pos Z]) <| J_pick (A := memA mb _) PC <| J_asTo (B := memA mb (ms.set (r.cq - 1).toNat (rgRow r ms c))) (by rw [h15, if_pos Z]) <| J_rgS (b := b) (mb := mb) (r := rgUp r) _ PX trivial <| J_asTo (B := rgA b mb (postR r ms c)) (by rw [postR, hok]; rfl) <| J_pick (A := memA mb _) PC <| J_asTo (B := memA mb (postM r ms c)) (by rw [postM, hok]; rfl) <| J_return (()) Tryz.results175 (.tmp Z .nil) ?_ ?_
  · simp [one, hok]
  · exact SU
  have hno : rgWrOk r ms = false := h15
  have hok : postOk r ms = false := by unfold postOk; rw [hno, Bool.and_false]
  refine J_skip <| Q_then <| J_seq <| J_pick (A := blk b _ _) PC <| J_asTo (B := blk b 217 [.pointer (some ⟨mb, 0, none⟩), .int .i64 r.sq, .int .i64 r.cq, .int .i64 r.sb, .int .i64 r.cb, .int .u32 r.head, .int .u32 r.tail, (.slice a (r.over.map encX).length cap)]) (by rw [hno, if_neg (by decide)]) <| J_pick (A := memA mb _) PC <| J_asTo (B := memA mb ms) (by rw [hno, if_neg (by decide)]) <| J_drawL (some 7) mixed <| ip 0 Z Z Z Z (p_move Z) <| ip 1 Z Z Z Z (p_move Z) <| ip 2 Z Z Z Z (p_nilCheck Z) <| ip 3 Z Z Z Z (p_fieldAddr Z fa217_7) <| iv 4 Z Z Z Z (fun _ => v_load Z ty88 HS (by exact rfl)) <| iv 5 Z Z Z Z (fun _ => v_loadA Z ty93 HS CT) ?_
  refine i1 6 Z <| x_lit (vals := [_]) Tryz.underlying88 ty93 Z (.cons Z .nil) (.agg .nil) (Wf.cons Z Z Wf.nil) Z (by decide) Z Z <| JR fun a22 c22 hw22 hl22 hm22 hz22 => i1 7 Z <| x_app Z Z Tryz.underlying88 ty93 Z Z PC (fun w H => sep_reads HS H) (by simp; omega) (by simp; omega) Z <| JE ((r.over ++ [c]).map encX) (by simp) fun a23 c23 hw23 hl23 hm23 hz23 => ip 8 Z Z Z Z (p_nilCheck Z) <| ip 9 Z Z Z Z (p_fieldAddr Z fa217_7) <| i1 10 Z <| x_store Z Z ty88 Z SM SM RO PT <| i0 <| qx <| ag Z Z <| nq <| J_ret <| J_rgS (b := b) (mb := mb) (r := { r with over := r.over ++ [c] }) _ PX trivial <| J_asTo (B := rgA b mb (postR r ms c)) (by rw [postR, hok]; rfl) <| J_pick (A := memA mb _) PC <| J_asTo (B := memA mb (postM r ms c)) (by rw [postM, hok]; rfl) <| J_return (()) Tryz.results175 (.tmp Z .nil) ?_ ?_
  · simp [one, hok]
  · exact SU
  have he : r.over.isEmpty = false := by
    cases hov : r.over with
    | nil => rw [hov] at h11; simp at h11
    | cons x xs => rfl
  refine gz Z Z Z Z Z <| gz Z Z Z Z Z <| gz Z Z Z Z Z <| L_pur Z (p_pick_f Z Z) <| nq <| C_false Z <| J_skip <| Q_then <| J_seq ?_
  have hok : postOk r ms = false := by unfold postOk; rw [he]; rfl
  refine J_drawL (some 7) mixed <| ip 0 Z Z Z Z (p_move Z) <| ip 1 Z Z Z Z (p_move Z) <| ip 2 Z Z Z Z (p_nilCheck Z) <| ip 3 Z Z Z Z (p_fieldAddr Z fa217_7) <| iv 4 Z Z Z Z (fun _ => v_load Z ty88 HS (by exact rfl)) <| iv 5 Z Z Z Z (fun _ => v_loadA Z ty93 HS CT) <| i1 6 Z <| x_lit (vals := [_]) Tryz.underlying88 ty93 Z (.cons Z .nil) (.agg .nil) (Wf.cons Z Z Wf.nil) Z (by decide) Z Z <| JR fun a22 c22 hw22 hl22 hm22 hz22 => i1 7 Z <| x_app Z Z Tryz.underlying88 ty93 Z Z PC (fun w H => sep_reads HS H) (by simp; omega) (by simp; omega) Z <| JE ((r.over ++ [c]).map encX) (by simp) fun a23 c23 hw23 hl23 hm23 hz23 => ip 8 Z Z Z Z (p_nilCheck Z) <| ip 9 Z Z Z Z (p_fieldAddr Z fa217_7) <| i1 10 Z <| x_store Z Z ty88 Z SM SM RO PT <| i0 <| qx <| ag Z Z <| nq <| J_ret <| J_rgS (b := b) (mb := mb) (r := { r with over := r.over ++ [c] }) _ PX trivial ?_
  refine J_asTo (B := rgA b mb (postR r ms c)) (by rw [postR, hok]; rfl) <| J_pick (A := memA mb _) PC <| J_asTo (B := memA mb (postM r ms c)) (by rw [postM, hok]; rfl) <| J_return (()) Tryz.results175 (.tmp Z .nil) ?_ ?_
  · simp [one, hok]
  · exact SU
theorem jnlAdd {xs : List Deed} (hp : Pick (jnlA b o xs) l m) (hb : xs.length ≤ 200000) :
    Con Tryz.prog 174 #[.pointer (some ⟨b, o, none⟩), .agg (encD d).toArray] E l (fun _ : Unit => .tuple #[]) (fun _ => jnlA b o (xs ++ [d]) :: m) := by
  refine Con.body (n := 14) Tryz.func174 Z Z _ (env_ok 2 Z) <| J_pick hp <| J_jnlO fun v _ => J_row (.there .here) fun hw a cap hv h1 h2 h3 => ?_
  subst hv
  have hm : cap ≤ 9223372036854775807 := h2
  have hml : (xs.map encD).length = xs.length := List.length_map _
  refine sr <| L_op <| x_box Z Z Z fun b3 => nq <| J_drawL (some 7) mixed <| ip 0 Z Z Z Z (p_move Z) <| ip 1 Z Z Z Z (p_move Z) <| ip 2 Z Z Z Z (p_nilCheck Z) <| ip 3 Z Z Z Z (p_fieldAddr Z fa143_0) <| iv 4 Z Z Z Z (fun _ => v_loadL Z ty40 HS Z (by exact rfl)) <| iv 5 Z Z Z Z (fun _ => v_loadA Z ty45 HS CT) <| i1 6 Z <| x_lit (vals := [_]) Tryz.underlying40 ty45 Z (.cons Z .nil) (.agg .nil) (Wf.cons Z Z Wf.nil) Z (by decide) Z Z <| JR fun a10 c10 hw10 hl10 hm10 hz10 => i1 7 Z <| x_app Z Z Tryz.underlying40 ty45 Z Z PC (fun w H => sep_reads HS H) (by simp; omega) (by simp; omega) Z <| JE ((xs ++ [d]).map encD) (by simp) fun a11 c11 hw11 hl11 hm11 hz11 => ip 8 Z Z Z Z (p_nilCheck Z) <| ip 9 Z Z Z Z (p_fieldAddr Z fa143_0) <| i1 10 Z <| x_storeL Z Z ty40 Z SM SM Z RO Z PT <| i0 <| J_endnormal <| J_jnlS (b := b) (o := o) (xs := xs ++ [d]) _ PX trivial ?_
  exact J_return (()) Tryz.results174 .nil Z SU
theorem clone73 {xs : List (List Value)} (hr : ∀ w, Sep E w l → Reads w 7 v xs) (hb : xs.length ≤ 1000000) :
    Con Tryz.prog 73 #[v] E l (fun v' : Value => v') (fun v' => row 45 7 v' xs :: l) := by
  refine Con.body (n := 8) Tryz.func73 Z Z _ (env_ok 1 Z) <| J_reads hr fun hw a cap hv h1 h2 h3 => ?_
  subst hv
  refine sr <| ag Z Z <| nxx <| mv Z Z <| L_pur Z (p_eqnil Tryz.underlying40 Z) <| nq <| C_split Z (fun h4 => ?_) (fun h4 => ?_)
  obtain rfl : a = none := by simpa using h4
  obtain ⟨rfl, rfl⟩ := h3 rfl
  refine J_nil (el := 45) (sz := 7) <| sr <| ag Z Z <| nq <| J_ret <| Q_then_ret ?_
  exact J_return (_) Tryz.results73 (.tmp Z .nil) Z SU
  refine J_skip <| qx <| L_op <| x_lit (vals := []) Tryz.underlying40 ty45 Z .nil .nil Wf.nil Z (by decide) Z Z <| JR fun a5 c5 hw5 hl5 hm5 hz5 => mv Z Z <| L_op <| x_app Z Z Tryz.underlying40 ty45 Z Z PC (fun w H => hr w H.tail) (OM) (OM) Z <| JR fun a7 c7 hw7 hl7 hm7 hz7 => ag Z Z <| nq <| J_ret ?_
  exact J_return (_) Tryz.results73 (.tmp Z .nil) Z SU
theorem jnlAll {xs : List Deed} (hp : Pick (jnlA b o xs) l m) (hb : xs.length ≤ 200000) :
    Con Tryz.prog 21 #[.pointer (some ⟨b, o, none⟩)] E l (fun v : Value => v) (fun v => row 45 7 v (xs.map encD) :: jnlA b o xs :: m) := by
  refine Con.body (n := 8) Tryz.func21 Z Z _ (env_ok 1 Z) <| J_pick hp <| J_jnlO fun v _ => J_row (.there .here) fun hw a cap hv h1 h2 h3 => ?_
  subst hv
  have hm : cap ≤ 9223372036854775807 := h2
  have hml : (xs.map encD).length = xs.length := List.length_map _
  refine sr <| ag Z Z <| nx <| mv Z Z <| nc Z Z <| fa Z Z fa143_0 <| L_val Z (v_loadL Z ty40 HS Z (by exact rfl)) <| xo fc73 (A1 Z) Z (clone73 (xs := xs.map encD) (fun w H => sep_reads (xs := xs.map encD) HS H) (by simp; omega)) <| JR fun a7 c7 hw7 hl7 hm7 hz7 => ag Z Z <| nq <| J_ret <| J_jnlS (b := b) (o := o) (xs := xs) _ PX trivial ?_
  exact J_return (_) Tryz.results21 (.tmp Z .nil) Z SU
/-! ### plain: who waits, in order -/
theorem encI_one (c : ID) : ones (encI c) = true := rfl
theorem encI_len (c : ID) : (encI c).length = 2 := rfl
def isI (i c : ID) : Bool := decide (c.1 = i.1 ∧ c.2 = i.2)
theorem isI_iff {c : ID} : isI i c = true ↔ c = i := by unfold isI; rw [decide_eq_true_eq, Prod.ext_iff]
theorem isI_eq (i c : ID) : isI i c = decide (c = i) := by rw [Bool.eq_iff_iff, isI_iff, decide_eq_true_eq]
def lpush (xs : List ID) (i : ID) : List ID := if i ∈ xs then xs else xs ++ [i]
def ldrop (xs : List ID) (i : ID) : List ID := xs.filter fun c => !isI i c
theorem ldrop_len (xs : List ID) (i : ID) : (ldrop xs i).length ≤ xs.length := List.length_filter_le _ _
theorem lpush_len (xs : List ID) (i : ID) : (lpush xs i).length ≤ xs.length + 1 := by unfold lpush; split <;> simp
variable {xs : List ID}
theorem ldrop_mem {c : ID} : c ∈ ldrop xs i ↔ c ∈ xs ∧ ¬ c = i := by
  unfold ldrop; rw [List.mem_filter]; simp [isI_eq]
theorem ldrop_no (h : i ∉ xs) : ldrop xs i = xs := by
  unfold ldrop; rw [List.filter_eq_self]; intro c hc; have : ¬ c = i := fun e => h (e ▸ hc); simp [isI_eq, this]
theorem ldrop_nodup (h : xs.Nodup) (i : ID) : (ldrop xs i).Nodup := List.Nodup.sublist List.filter_sublist h
theorem lpush_nodup (h : xs.Nodup) (i : ID) : (lpush xs i).Nodup := by
  unfold lpush; split
  · exact h
  · rename_i hi
    rw [List.nodup_append]
    refine ⟨h, by simp, fun x hx y hy => ?_⟩
    simp at hy; subst hy; exact fun e => hi (e ▸ hx)
theorem ldrop_head {x : ID} (h : (x :: xs).Nodup) : ldrop (x :: xs) x = xs := by
  have h1 := List.nodup_cons.1 h
  unfold ldrop
  rw [List.filter_cons, if_neg (by simp [isI_eq])]
  exact ldrop_no h1.1
theorem Who.push {ps : List (ID × Bool)} (h : Who xs ps) (hi : i ∉ xs) : Who (xs ++ [i]) (ins ps i true) := by
  refine ⟨by have := lpush_nodup h.1 i; unfold lpush at this; rwa [if_neg hi] at this, fun c => ?_⟩
  rw [look_ins, h.2]
  by_cases hc : i = c
  · subst hc; simp
  · have hc' : ¬ c = i := fun e => hc e.symm
    simp [hc, hc']
theorem Who.drop {ps : List (ID × Bool)} (h : Who xs ps) (i : ID) : Who (ldrop xs i) (del ps i) := by
  refine ⟨ldrop_nodup h.1 i, fun c => ?_⟩
  rw [look_del, h.2]
  by_cases hc : i = c
  · subst hc; simp [ldrop_mem]
  · have hc' : ¬ c = i := fun e => hc e.symm
    simp [hc, hc', ldrop_mem]
theorem Who.says {ps : List (ID × Bool)} (h : Who xs ps) (i : ID) : zof evB (.bool false) (look ps i) = .bool (decide (i ∈ xs)) := by
  rw [h.2]; by_cases hi : i ∈ xs <;> simp [zof, hi]
variable {caps : Array Value} {fn : Func} {C : As}
theorem indexfunc317 {α : Type} {enc : α → List Value} {xs : List α} {g : FuncId} (hf : Tryz.prog.funcs[g]? = some fn) (hn : (fn.name == "runtime.NumGoroutine") = false) (hb : fn.body.isNone = false) {q : α → Bool} (hg : ∀ (l' : List As) (c : α), Has C l' → Con Tryz.prog g (#[.agg (enc c).toArray] ++ caps) E l' (fun _ : Unit => .bool (q c)) (fun _ => l')) (hv : Has (row 36 2 v (xs.map enc)) l) (hc : Has C l) :
    Con Tryz.prog 317 #[v, .func (.func g) #[] caps] E l (fun _ : Unit => .int .i64 (idx q xs)) (fun _ => l) := by
  refine Con.body (n := 19) Tryz.func317 Z Z _ (env_ok 2 Z) <| J_row hv fun hw a cap hv h1 h2 h3 => ?_
  subst hv
  have hm : cap ≤ 9223372036854775807 := h2
  have hml : (xs.map enc).length = xs.length := List.length_map _
  refine sr <| ag Z Z <| nxx <| mv Z Z <| L_pur Z (p_len Z Tryz.underlying224) <| mv Z Z <| nq <| J_block <| J_loop (α := Nat) (fun i => i ≤ xs.length ∧ ∀ c ∈ xs.take i, q c = false) (fun _ => l) (fun i => [(8, .int .i64 (i : Int)), (7, .int .i64 (xs.map enc).length), (0, .slice a (xs.map enc).length cap), (1, .func (.func g) #[] caps)]) (fun i => xs.length - i) 0 ⟨by omega, by simp⟩ SU KE ?_
  intro i ⟨hi, hq⟩
  refine sr <| L_pur Z (p_lss Z Z) <| nq <| J_seq <| C_dec Z (fun h9 => ?_) (fun h9 => ?_)
  have hlt : i < xs.length := by omega
  obtain ⟨b, o, rfl⟩ := h3 (by intro h; rw [h] at hml; simp at hml; omega)
  obtain ⟨c, hcc⟩ : ∃ c, xs[i]? = some c := ⟨_, List.getElem?_eq_getElem hlt⟩
  refine J_skip <| Q_then <| J_seq <| J_block <| sr <| mv Z Z <| ag Z Z <| nx <| mv Z Z <| mv Z Z <| mv Z Z <| L_pur Z (p_indexAddr Z Z Tryz.underlying224 ty36 (by omega) (by omega)) <| L_val Z (v_loadE Z ty36 HS (by simp only [Int.toNat_natCast, List.getElem?_map, hcc]; rfl)) ?_
  refine L_op <| x_callc Z hf hn hb (.cons Z .nil) Z (hg _ c hc) fun _ => nq <| C_split Z (fun h16 => ?_) (fun h16 => ?_)
  have hidx := idx_here hq hcc h16
  refine sr <| mv Z Z <| ag Z Z <| nq <| J_ret <| Q_blk_ret <| Q_then_ret <| Q_then_ret <| Q_blk_ret <| Q_then_ret <| J_return (()) Tryz.results317 (.tmp Z .nil) ?_ ?_
  · simp [one, hidx]
  · exact SU
  refine J_skip <| Q_blk_normal <| qr <| L_pur Z (p_add64 Z Z (by omega)) <| mv Z Z <| nq ?_
  exact J_again (i + 1) (by omega) (⟨by omega, take_false_succ hq hcc h16⟩) SU KE
  have hix : i = xs.length := by omega
  rw [hix, List.take_length] at hq
  have hidx := idx_none hq
  refine J_exit <| Q_then_exit <| Q_then_exit <| Q_blk_this <| qx <| ag Z Z <| nq <| J_ret <| J_return (()) Tryz.results317 (.tmp Z .nil) ?_ ?_
  · simp [one, hidx]
  · exact SU
theorem deletefunc296 {α : Type} {enc : α → List Value} {xs : List α} {g : FuncId} (hf : Tryz.prog.funcs[g]? = some fn) (hn : (fn.name == "runtime.NumGoroutine") = false) (hb : fn.body.isNone = false) {q : α → Bool} (hg : ∀ (l' : List As) (c : α), Has C l' → Con Tryz.prog g (#[.agg (enc c).toArray] ++ caps) E l' (fun _ : Unit => .bool (q c)) (fun _ => l')) (hv : Pick (row 36 2 v (xs.map enc)) l m) (hc : Has C m) (hone : ∀ c, ones (enc c) = true) (hlen : ∀ c, (enc c).length = 2) :
  Con Tryz.prog 296 #[v, .func (.func g) #[] caps] E l (fun v' : Value => v') (fun v' => row 36 2 v' ((xs.filter fun c => !q c).map enc) :: m) := by
 rcases idx_cases q xs with ⟨hi0, hall⟩ | ⟨i0, hi0, hlt0, hpre, c0, hc0, hq0⟩
 ·
  refine Con.body (n := 42) Tryz.func296 Z Z _ (env_ok 2 Z) <| J_pick hv <| sr <| ag Z Z <| nx <| mv Z Z <| mv Z Z <| xo fc317 (A2 Z Z) Z (indexfunc317 hf hn hb hg .here (.there hc)) fun _ => ag Z Z <| nxx <| mv Z Z <| L_pur Z (p_eql Z Z) <| nq <| J_bool (t := 12) (c := true) Z (by simp [hi0]) <| C_true Z <| sr <| J_rowEq (ys := (xs.filter fun c => !q c).map enc) (by rw [List.filter_eq_self.2 (fun c hc => by simp [hall c hc])]) <| mv Z Z <| ag Z Z <| nq <| J_ret <| Q_then_ret ?_
  exact J_return (_) Tryz.results296 (.tmp Z .nil) Z SU
 ·
  refine Con.body (n := 42) Tryz.func296 Z Z _ (env_ok 2 Z) <| J_pick hv <| J_row .here fun hw a cap hv h1 h2 h3 => ?_
  obtain ⟨b, o, rfl⟩ := h3 (by intro h; have := congrArg List.length h; simp at this; subst this; simp at hlt0)
  subst hv
  have hm : cap ≤ 9223372036854775807 := h2
  have hml : (xs.map enc).length = xs.length := List.length_map _
  have hk0 : kept q xs (i0 + 1) = xs.take i0 := kept_first hpre hc0 hq0
  have hl0 : (xs.take i0).length = i0 := by simp; omega
  refine sr <| ag Z Z <| nx <| mv Z Z <| mv Z Z <| xo fc317 (A2 Z Z) Z (indexfunc317 hf hn hb hg .here (.there hc)) fun _ => J_slot (t := 10) (v := .int .i64 (i0 : Int)) Z (by rw [hi0]) <| ag Z Z <| nxx <| mv Z Z <| L_pur Z (p_eql Z Z) <| nq <| J_bool (t := 12) (c := false) Z (by simp) <| C_false Z <| J_skip <| Q_then <| J_seq <| sr <| mv Z Z <| L_pur Z (p_add64 Z Z (by omega)) <| ag Z Z <| nq <| J_block ?_
  refine J_rowEq (ys := (kept q xs (i0 + 1) ++ xs.drop (kept q xs (i0 + 1)).length).map enc) (by rw [hk0, hl0, List.take_append_drop]) <| J_slot (t := 5) (v := .int .i64 ((kept q xs (i0 + 1)).length : Int)) Z (by rw [hk0, hl0]) <| J_loop (α := Nat) (fun j => j ≤ xs.length) (fun j => row 36 2 (.slice (some ⟨b, o, none⟩) (xs.map enc).length cap) ((kept q xs j ++ xs.drop (kept q xs j).length).map enc) :: m) (fun j => [(6, .int .i64 (j : Int)), (5, .int .i64 ((kept q xs j).length : Int)), (0, .slice (some ⟨b, o, none⟩) (xs.map enc).length cap), (1, .func (.func g) #[] caps)]) (fun j => xs.length - j) (i0 + 1) (by omega) SU KE ?_
  intro j hj
  have hkl := kept_le q xs j
  refine J_seq <| sr <| mv Z Z <| mv Z Z <| L_pur Z (p_len Z Tryz.underlying224) <| L_pur Z (p_lss Z Z) <| nq <| C_dec Z (fun h19 => ?_) (fun h19 => ?_)
  have hlt : j < xs.length := by omega
  obtain ⟨c, hcc⟩ : ∃ c, xs[j]? = some c := ⟨_, List.getElem?_eq_getElem hlt⟩
  refine J_skip <| Q_then <| J_seq <| J_block <| sr <| mv Z Z <| mv Z Z <| L_pur Z (p_indexAddr Z Z Tryz.underlying224 ty36 (by omega) (by omega)) <| L_val Z (v_loadE Z ty36 HS (by simp only [Int.toNat_natCast, List.getElem?_map, kept_get, hcc]; rfl)) ?_
  refine L_op <| x_alloc ty36 Z fun b7 => L_op <| x_store Z Z ty36 Z SM SM RO PT <| nx <| mv Z Z <| L_val Z (v_loadA Z ty36 HS CT) <| L_op <| x_callc Z hf hn hb (.cons Z .nil) Z (hg _ c (.there (.there hc))) fun _ => L_pur Z (p_not Z) <| nq <| C_split Z (fun h29 => ?_) (fun h29 => ?_)
  have hqc : q c = false := by simpa using h29
  have hks := kept_set hcc hqc
  have hkl1 : (kept q xs (j + 1)).length = (kept q xs j).length + 1 := by rw [kept_succ hcc, hqc]; simp
  refine sr <| mv Z Z <| mv Z Z <| L_val Z (v_loadA Z ty36 HS CT) <| L_pur Z (p_indexAddr Z Z Tryz.underlying224 ty36 (by omega) (by omega)) <| L_op <| x_storeE (vs := enc c) Z Z ty36 Z (hlen c) (hone c) PC (OM) <| J_rowEq (ys := (kept q xs (j + 1) ++ xs.drop (kept q xs (j + 1)).length).map enc) (by rw [← hks, List.map_set]; simp) <| ny <| mv Z Z <| L_pur Z (p_add64 Z Z (by omega)) <| ag Z Z <| L_nil <| Q_blk_normal <| qr <| mv Z Z <| L_pur Z (p_add64 Z Z (by omega)) <| ag Z Z <| nq <| J_slot (t := 5) (v := .int .i64 ((kept q xs (j + 1)).length : Int)) Z (by rw [hkl1]; rfl) ?_
  exact J_again (j + 1) (by omega) (by omega) SU KE
  have hqc : q c = true := by simpa using h29
  have hks : kept q xs (j + 1) = kept q xs j := by rw [kept_succ hcc, hqc]; simp
  refine J_skip <| Q_blk_normal <| qr <| mv Z Z <| L_pur Z (p_add64 Z Z (by omega)) <| ag Z Z <| nq <| J_slot (t := 5) (v := .int .i64 ((kept q xs (j + 1)).length : Int)) Z (by rw [hks]) <| J_pick (A := row 36 2 (.slice (some ⟨b, o, none⟩) (xs.map enc).length cap) ((kept q xs j ++ xs.drop (kept q xs j).length).map enc)) PC <| J_rowEq (ys := (kept q xs (j + 1) ++ xs.drop (kept q xs (j + 1)).length).map enc) (by rw [hks]) ?_
  exact J_again (j + 1) (by omega) (by omega) SU KE
  have hjx : j = xs.length := by omega
  have hka : kept q xs j = xs.filter fun c => !q c := kept_all (by omega)
  refine J_exit <| Q_then_exit <| Q_then_exit <| Q_blk_this <| qx <| mv Z Z <| mv Z Z <| L_pur Z (p_slice Z Tryz.underlying224 ty36 Z Z (by omega) (by omega) (by omega)) <| L_op <| x_clear (len := (xs.map enc).length) Z Tryz.underlying224 ty36 Z Z PC (OM) <| nx <| mv Z Z <| mv Z Z <| L_pur Z (p_slice Z Tryz.underlying224 ty36 Z Z (by omega) (by omega) (by omega)) <| J_take (k := (kept q xs j).length) (OM) <| J_rowTo (v' := .slice (some ⟨b, o, none⟩) (kept q xs j).length cap) (ys := (xs.filter fun c => !q c).map enc) (by simp [hka]) Z <| J_slot (t := 41) (v := .slice (some ⟨b, o, none⟩) (kept q xs j).length cap) Z (by simp [Addr.add]) <| ag Z Z <| nq <| J_ret ?_
  exact J_return (_) Tryz.results296 (.tmp Z .nil) Z SU
variable {bc : Nat}
theorem clo297 {c : ID} (hc : Has (blk bc 36 (encI i)) l) :
    Con Tryz.prog 297 #[.agg (encI c).toArray, .pointer (some ⟨bc, 0, none⟩)] E l (fun _ : Unit => .bool (isI i c)) (fun _ => l) := by
  refine Con.body (n := 7) Tryz.func297 Z Z _ (env_ok 2 Z) <| sr <| L_op <| x_box Z Z Z fun b2 => ag Z Z <| nx <| L_val Z (v_loadA Z ty36 HS CT) <| L_val Z (v_loadA Z ty36 HS CT) <| L_pur Z (p_eqv Z Z (fun w => eg36 _ _ _ _ _ w) (fun w => eqv36 _ _ _ _ w)) <| ag Z Z <| nq <| J_ret ?_
  exact J_return (()) Tryz.results297 (.tmp Z .nil) Z SU
theorem lPush (hp : Pick (lsA b o xs) l m) (hb : xs.length ≤ 100000) :
    Con Tryz.prog 290 #[.pointer (some ⟨b, o, none⟩), .agg (encI i).toArray] E l (fun _ : Unit => .bool (!decide (i ∈ xs))) (fun _ => lsA b o (lpush xs i) :: m) := by
  refine Con.body (n := 35) Tryz.func290 Z Z _ (env_ok 2 Z) <| J_pick hp <| J_lsO fun v ob ps hw => sr <| L_op <| x_box Z Z Z fun b3 => ag Z Z <| nq <| J_seq <| J_seq <| J_drawS mixed (by kernel_rfl) <| sm Z Z <| sp Z (p_nilCheck Z) <| sp Z (p_fieldAddr Z fa227_1) <| S_val Z (v_loadL Z ty225 HS Z (by exact rfl)) <| S_val Z (v_loadA Z ty36 HS CT) <| S_val Z (v_look (ek := kI) (ev := evB) (a := i) Z Z ky36 Tryz.underlying225 zv4 HS) <| J_slot (t := 10) (v := .bool (decide (i ∈ xs))) Z (hw.says i) <| sq <| C_dec Z (fun h10 => ?_) (fun h10 => ?_)
  have hlp : lpush xs i = xs := if_pos h10
  refine sr <| ag Z Z <| nq <| J_ret <| Q_then_ret <| J_lsS (b := b) (o := o) (xs := xs) _ _ _ PX (hw) <| J_asTo (B := lsA b o (lpush xs i)) (by rw [hlp]) <| J_return (()) Tryz.results290 (.tmp Z .nil) ?_ ?_
  · first | rfl | simp [one, h10]
  · exact SU
  have hlp : lpush xs i = xs ++ [i] := if_neg h10
  refine J_skip <| Q_then <| J_seq <| sr <| mv Z Z <| nc Z Z <| fa Z Z fa227_1 <| L_val Z (v_loadL Z ty225 HS Z (by exact rfl)) <| L_pur Z (p_eqNilMap Tryz.underlying225 Z) <| nq <| C_split Z (fun h15 => ?_) (fun h15 => ?_)
  obtain rfl : ob = none := by simpa using h15
  refine J_mapNone (ps := ps) HS fun hps => ?_
  subst hps
  refine J_region <| mv Z Z <| L_op <| x_makeMap (ek := kI) (ev := evB) Z fun b17 => nc Z Z <| fa Z Z fa227_1 <| L_op <| x_storeL Z Z ty225 Z SM SM Z RO Z PT <| nq <| J_seq <| J_drawT 5 mixed (by kernel_rfl) <| sm Z Z <| sp Z (p_nilCheck Z) <| sp Z (p_fieldAddr Z fa227_1) <| S_val Z (v_loadL Z ty225 HS Z (by exact rfl)) <| S_val Z (v_loadA Z ty36 HS CT) <| S_nil <| L_op <| x_mapUpdate (ek := kI) (ev := evB) Z Z Z ky36 Tryz.underlying225 PC <| nq <| J_seq <| J_drawL (some 7) mixed <| ip 0 Z Z Z Z (p_move Z) <| ip 1 Z Z Z Z (p_move Z) <| ip 2 Z Z Z Z (p_nilCheck Z) <| ip 3 Z Z Z Z (p_fieldAddr Z fa227_0) <| iv 4 Z Z Z Z (fun _ => v_loadL Z ty224 HS Z (by exact rfl)) <| iv 5 Z Z Z Z (fun _ => v_loadA Z ty36 HS CT) ?_
  refine i1 6 Z <| x_lit (vals := [_]) Tryz.underlying224 ty36 Z (.cons Z .nil) (.agg .nil) (Wf.cons Z Z Wf.nil) Z (by decide) Z Z <| JR fun a31 c31 hw31 hl31 hm31 hz31 => i1 7 Z <| x_app Z Z Tryz.underlying224 ty36 Z Z PC (fun w H => sep_reads HS H) (OM) (OM) Z <| JE ((xs ++ [i]).map encI) (by simp) fun a32 c32 hw32 hl32 hm32 hz32 => ip 8 Z Z Z Z (p_nilCheck Z) <| ip 9 Z Z Z Z (p_fieldAddr Z fa227_0) <| i1 10 Z <| x_storeL Z Z ty224 Z SM SM Z RO Z PT <| i0 <| qx <| ag Z Z <| nq <| J_ret <| J_lsS (b := b) (o := o) (xs := xs ++ [i]) _ _ _ PX (hw.push h10) <| J_asTo (B := lsA b o (lpush xs i)) (by rw [hlp]) <| J_return (()) Tryz.results290 (.tmp Z .nil) ?_ ?_
  · first | rfl | simp [one, h10]
  · exact SU
  obtain ⟨bm, rfl⟩ : ∃ bm, ob = some bm := by cases ob with | none => simp at h15 | some x => exact ⟨x, rfl⟩
  refine J_skip <| Q_then <| J_seq <| J_drawT 5 mixed (by kernel_rfl) <| sm Z Z <| sp Z (p_nilCheck Z) <| sp Z (p_fieldAddr Z fa227_1) <| S_val Z (v_loadL Z ty225 HS Z (by exact rfl)) <| S_val Z (v_loadA Z ty36 HS CT) <| S_nil <| L_op <| x_mapUpdate (ek := kI) (ev := evB) Z Z Z ky36 Tryz.underlying225 PC <| nq <| J_seq <| J_drawL (some 7) mixed <| ip 0 Z Z Z Z (p_move Z) <| ip 1 Z Z Z Z (p_move Z) <| ip 2 Z Z Z Z (p_nilCheck Z) <| ip 3 Z Z Z Z (p_fieldAddr Z fa227_0) <| iv 4 Z Z Z Z (fun _ => v_loadL Z ty224 HS Z (by exact rfl)) <| iv 5 Z Z Z Z (fun _ => v_loadA Z ty36 HS CT) ?_
  refine i1 6 Z <| x_lit (vals := [_]) Tryz.underlying224 ty36 Z (.cons Z .nil) (.agg .nil) (Wf.cons Z Z Wf.nil) Z (by decide) Z Z <| JR fun a31 c31 hw31 hl31 hm31 hz31 => i1 7 Z <| x_app Z Z Tryz.underlying224 ty36 Z Z PC (fun w H => sep_reads HS H) (OM) (OM) Z <| JE ((xs ++ [i]).map encI) (by simp) fun a32 c32 hw32 hl32 hm32 hz32 => ip 8 Z Z Z Z (p_nilCheck Z) <| ip 9 Z Z Z Z (p_fieldAddr Z fa227_0) <| i1 10 Z <| x_storeL Z Z ty224 Z SM SM Z RO Z PT <| i0 <| qx <| ag Z Z <| nq <| J_ret <| J_lsS (b := b) (o := o) (xs := xs ++ [i]) _ _ _ PX (hw.push h10) <| J_asTo (B := lsA b o (lpush xs i)) (by rw [hlp]) <| J_return (()) Tryz.results290 (.tmp Z .nil) ?_ ?_
  · first | rfl | simp [one, h10]
  · exact SU
theorem lDrop (hp : Pick (lsA b o xs) l m) (hb : xs.length ≤ 100000) :
    Con Tryz.prog 240 #[.pointer (some ⟨b, o, none⟩), .agg (encI i).toArray] E l (fun _ : Unit => .bool (decide (i ∈ xs))) (fun _ => lsA b o (ldrop xs i) :: m) := by
  refine Con.body (n := 26) Tryz.func240 Z Z _ (env_ok 2 Z) <| J_pick hp <| J_lsO fun v ob ps hw => sr <| L_op <| x_box Z Z Z fun b3 => ag Z Z <| nq <| J_seq <| J_seq <| J_drawS mixed (by kernel_rfl) <| sm Z Z <| sp Z (p_nilCheck Z) <| sp Z (p_fieldAddr Z fa227_1) <| S_val Z (v_loadL Z ty225 HS Z (by exact rfl)) <| S_val Z (v_loadA Z ty36 HS CT) <| S_val Z (v_look (ek := kI) (ev := evB) (a := i) Z Z ky36 Tryz.underlying225 zv4 HS) <| J_slot (t := 10) (v := .bool (decide (i ∈ xs))) Z (hw.says i) <| sp Z (p_not Z) <| sq <| C_split Z (fun h11 => ?_) (fun h11 => ?_)
  have hi : i ∉ xs := by simpa using h11
  refine sr <| ag Z Z <| nq <| J_ret <| Q_then_ret <| J_lsS (b := b) (o := o) (xs := xs) _ _ _ PX (hw) <| J_asTo (B := lsA b o (ldrop xs i)) (by rw [ldrop_no hi]) <| J_return (()) Tryz.results240 (.tmp Z .nil) ?_ ?_
  · simp [one, hi]
  · exact SU
  have hi : i ∈ xs := by simpa using h11
  refine J_skip <| Q_then <| J_seq <| J_drawT 5 mixed (by kernel_rfl) <| sm Z Z <| sp Z (p_nilCheck Z) <| sp Z (p_fieldAddr Z fa227_1) <| S_val Z (v_loadL Z ty225 HS Z (by exact rfl)) <| S_val Z (v_loadA Z ty36 HS CT) <| S_nil <| L_op <| x_delete (ek := kI) (ev := evB) (a := i) Z Z ky36 Tryz.underlying225 PC <| nx <| mv Z Z <| mv Z Z <| nc Z Z <| fa Z Z fa227_0 <| L_val Z (v_loadL Z ty224 HS Z (by exact rfl)) <| L_pur Z (p_makeFunc (.cons Z .nil)) <| xo fc296 (A2 Z Z) Z (deletefunc296 (xs := xs) (enc := encI) (q := isI i) (C := blk b3 36 (encI i)) Tryz.func297 nm297 bd297 (fun l' c hc => clo297 hc) PC HS encI_one encI_len) <| JR fun a23 c23 hw23 hl23 hm23 hz23 => nc Z Z <| fa Z Z fa227_0 <| L_op <| x_storeL Z Z ty224 Z SM SM Z RO Z PT <| nx <| ag Z Z <| nq <| J_ret <| J_lsS (b := b) (o := o) (xs := xs.filter fun c => !isI i c) _ _ _ PX (hw.drop i) ?_
  refine J_return (()) Tryz.results240 (.tmp Z .nil) ?_ ?_
  · simp [one, hi]
  · exact SU
theorem lPop (hp : Pick (lsA b o xs) l m) (hb : xs.length ≤ 100000) :
  Con Tryz.prog 241 #[.pointer (some ⟨b, o, none⟩)] E l (fun _ : Unit => .tuple #[.agg (encI (xs.headD (0, 0))).toArray, .bool (!xs.isEmpty)]) (fun _ => lsA b o xs.tail :: m) := by
 rcases xs with _ | ⟨x, r⟩
 ·
  refine Con.body (n := 22) Tryz.func241 Z Z _ (env_ok 1 Z) <| J_pick hp <| J_lsO fun v ob ps hw => J_row (.there .here) fun hwf a cap hv h1 h2 h3 => ?_
  subst hv
  refine sr <| L_op <| x_alloc ty36 Z fun b2 => ag Z Z <| nxx <| mv Z Z <| nc Z Z <| fa Z Z fa227_0 <| L_val Z (v_loadL Z ty224 HS Z (by exact rfl)) <| L_pur Z (p_len Z Tryz.underlying224) <| L_pur Z (p_eql Z Z) <| nq <| J_bool (t := 10) (c := true) Z (by simp) <| C_true Z <| sr <| L_pur Z (bld36 .nil (by repeat constructor)) <| L_op <| x_store Z Z ty36 Z SM SM RO PT <| ag Z Z <| nq <| J_ret <| Q_then_ret <| J_lsS (b := b) (o := o) (xs := []) _ _ _ PX (hw) ?_
  exact J_return (()) Tryz.results241 (.cellA Z ty36 HS CT (.tmp Z .nil)) Z SU
 ·
  refine Con.body (n := 22) Tryz.func241 Z Z _ (env_ok 1 Z) <| J_pick hp <| J_lsO fun v ob ps hw => ?_
  have hnd := hw.1
  refine J_row (.there .here) fun hwf a cap hv h1 h2 h3 => ?_
  obtain ⟨bi, oi, rfl⟩ := h3 (by simp)
  subst hv
  refine sr <| L_op <| x_alloc ty36 Z fun b2 => ag Z Z <| nxx <| mv Z Z <| nc Z Z <| fa Z Z fa227_0 <| L_val Z (v_loadL Z ty224 HS Z (by exact rfl)) <| L_pur Z (p_len Z Tryz.underlying224) <| L_pur Z (p_eql Z Z) <| nq <| J_bool (t := 10) (c := false) Z (by simp; omega) <| C_false Z <| J_skip <| qx <| mv Z Z <| nc Z Z <| fa Z Z fa227_0 <| L_val Z (v_loadL Z ty224 HS Z (by exact rfl)) <| L_pur Z (p_indexAddr Z Z Tryz.underlying224 ty36 (by omega) (by simp)) <| L_val Z (v_loadE Z ty36 HS (by rfl)) <| L_op <| x_alloc ty36 Z fun b4 => L_op <| x_store Z Z ty36 Z SM SM RO PT <| nx <| J_lsS (b := b) (o := o) (xs := x :: r) _ _ _ PX (hw) <| mv Z Z <| L_val Z (v_loadA Z ty36 HS CT) <| xo fc240 (A2 Z Z) Z (lDrop (i := x) PC (by omega)) fun _ => J_asTo (B := lsA b o r) (by rw [ldrop_head hnd]) <| nx <| L_val Z (v_loadA Z ty36 HS CT) <| L_op <| x_store Z Z ty36 Z SM SM RO PT ?_
  refine ag Z Z <| nq <| J_ret ?_
  exact J_return (()) Tryz.results241 (.cellA Z ty36 HS CT (.tmp Z .nil)) Z SU
abbrev orb (w x : Int) : Int := bits .or .u32 w x
def woke (w : Int) (xs : List ID) (x : Int) : Bool := !decide (orb w x = 0) && !xs.isEmpty
def sigI (w : Int) (xs : List ID) (x : Int) : ID := if woke w xs x then xs.headD (0, 0) else (0, 0)
def sigV (w : Int) (xs : List ID) (x : Int) : Int := if woke w xs x then orb w x else 0
def sigW (w : Int) (xs : List ID) (x : Int) : Int := if woke w xs x then 0 else orb w x
def sigL (w : Int) (xs : List ID) (x : Int) : List ID := if woke w xs x then xs.tail else xs
def waitL (w : Int) (xs : List ID) (i : ID) : List ID := if w = 0 then lpush xs i else xs
theorem sigL_len (w : Int) (xs : List ID) (x : Int) : (sigL w xs x).length ≤ xs.length := by unfold sigL; split <;> simp
theorem waitL_len (w : Int) (xs : List ID) (i : ID) : (waitL w xs i).length ≤ xs.length + 1 := by
  unfold waitL; split
  · exact lpush_len xs i
  · omega
theorem ntDropC {w : Int} (hp : Pick (ntA b o w xs) l m) (hb : xs.length ≤ 100000) :
    Con Tryz.prog 171 #[.pointer (some ⟨b, o, none⟩), .agg (encI i).toArray] E l (fun _ : Unit => .bool (decide (i ∈ xs))) (fun _ => ntA b o w (ldrop xs i) :: m) := by
  refine Con.body (n := 10) Tryz.func171 Z Z _ (env_ok 2 Z) <| J_pick hp <| J_ntO fun _ _ => sr <| L_op <| x_box Z Z Z fun b3 => ag Z Z <| nq <| J_seq <| J_drawT 4 mixed (by kernel_rfl) <| sm Z Z <| sp Z (p_nilCheck Z) <| sp Z (p_fieldAddr Z fa229_1) <| S_val Z (v_loadA Z ty36 HS CT) <| S_nil <| xo fc240 (A2 Z Z) Z (lDrop (xs := xs) (i := i) PC (by omega)) fun _ => ag Z Z <| nq <| J_ret <| J_ntS (b := b) (o := o) (w := w) (xs := ldrop xs i) PX trivial ?_
  exact J_return (()) Tryz.results171 (.tmp Z .nil) Z SU
theorem ntWait {w : Int} (hp : Pick (ntA b o w xs) l m) (hb : xs.length ≤ 100000) :
    Con Tryz.prog 229 #[.pointer (some ⟨b, o, none⟩), .agg (encI i).toArray] E l (fun _ : Unit => .tuple #[.int .u32 w, .bool (!decide (w = 0))]) (fun _ => ntA b o 0 (waitL w xs i) :: m) := by
  refine Con.body (n := 22) Tryz.func229 Z Z _ (env_ok 2 Z) <| J_pick hp <| J_ntO fun _ _ => sr <| L_op <| x_box Z Z Z fun b3 => ag Z Z <| ag Z Z <| nxx <| mv Z Z <| nc Z Z <| fa Z Z fa229_0 <| L_val Z (v_loadL Z ty22 HS Z (by exact rfl)) <| ag Z Z <| nx <| mv Z Z <| L_pur Z (p_neq Z Z) <| nq <| C_dec Z (fun h12 => ?_) (fun h12 => ?_)
  have hwl : waitL w xs i = xs := if_neg h12
  refine sr <| mv Z Z <| nc Z Z <| fa Z Z fa229_0 <| L_op <| x_storeL Z Z ty22 Z SM SM Z RO Z PT <| nx <| mv Z Z <| ag Z Z <| ag Z Z <| nq <| J_ret <| Q_then_ret <| J_ntS (b := b) (o := o) (w := 0) (xs := xs) PX trivial <| J_asTo (B := ntA b o 0 (waitL w xs i)) (by rw [hwl]) <| J_return (()) Tryz.results229 (.tmp Z (.tmp Z .nil)) ?_ ?_
  · first | rfl | simp [one, h12]
  · exact SU
  have hw0 : w = 0 := by simpa using h12
  subst hw0
  have hwl : waitL 0 xs i = lpush xs i := if_pos rfl
  refine J_skip <| Q_then <| J_seq <| J_drawT 4 mixed (by kernel_rfl) <| sm Z Z <| sp Z (p_nilCheck Z) <| sp Z (p_fieldAddr Z fa229_1) <| S_val Z (v_loadA Z ty36 HS CT) <| S_nil <| xo fc290 (A2 Z Z) Z (lPush (xs := xs) (i := i) PC (by omega)) fun _ => nx <| ag Z Z <| ag Z Z <| nq <| J_ret <| J_ntS (b := b) (o := o) (w := 0) (xs := lpush xs i) PX trivial <| J_asTo (B := ntA b o 0 (waitL 0 xs i)) (by rw [hwl]) <| J_return (()) Tryz.results229 (.tmp Z (.tmp Z .nil)) ?_ ?_
  · first | rfl | simp [one, h12]
  · exact SU
theorem ntSignal {w : Int} (hp : Pick (ntA b o w xs) l m) (hb : xs.length ≤ 100000) :
    Con Tryz.prog 178 #[.pointer (some ⟨b, o, none⟩), .int .u32 x] E l (fun _ : Unit => .tuple #[.agg (encI (sigI w xs x)).toArray, .int .u32 (sigV w xs x), .bool (woke w xs x)]) (fun _ => ntA b o (sigW w xs x) (sigL w xs x) :: m) := by
  refine Con.body (n := 43) Tryz.func178 Z Z _ (env_ok 2 Z) <| J_pick hp <| J_ntO fun _ _ => sr <| L_op <| x_alloc ty36 Z fun b4 => ag Z Z <| ag Z Z <| nx <| mv Z Z <| nc Z Z <| fa Z Z fa229_0 <| L_val Z (v_loadL Z ty22 HS Z (by exact rfl)) <| mv Z Z <| L_pur Z (p_or Z Z) <| nc Z Z <| fa Z Z fa229_0 <| L_op <| x_storeL Z Z ty22 Z SM SM Z RO Z PT <| nxx <| mv Z Z <| nc Z Z <| fa Z Z fa229_0 <| L_val Z (v_loadL Z ty22 HS Z (by exact rfl)) <| L_pur Z (p_eql Z Z) <| nq <| C_dec Z (fun h22 => ?_) (fun h22 => ?_)
  have h22' : orb w x = 0 := h22
  have hwk : woke w xs x = false := by simp [woke, h22']
  have e1 : sigI w xs x = (0, 0) := by simp [sigI, hwk]
  have e2 : sigV w xs x = 0 := by simp [sigV, hwk]
  have e3 : sigW w xs x = orb w x := by simp [sigW, hwk]
  have e4 : sigL w xs x = xs := by simp [sigL, hwk]
  refine sr <| L_pur Z (bld36 .nil (by repeat constructor)) <| L_op <| x_store Z Z ty36 Z SM SM RO PT <| ag Z Z <| ag Z Z <| nq <| J_ret <| Q_then_ret <| J_ntS (b := b) (o := o) (w := orb w x) (xs := xs) PX trivial <| J_asTo (B := ntA b o (sigW w xs x) (sigL w xs x)) (by first | (rw [e3, e4]; done) | (rw [e3, e4]; rfl)) <| J_return (()) Tryz.results178 (.cellA Z ty36 HS CT (.tmp Z (.tmp Z .nil))) ?_ ?_
  · rw [e1, e2, hwk]; rfl
  · exact SU
  have h22' : ¬ orb w x = 0 := h22
  refine J_skip <| qx <| mv Z Z <| nc Z Z <| fa Z Z fa229_1 <| xo fc241 (A1 Z) Z (lPop (xs := xs) PC (by omega)) fun _ => mv Z Z <| L_pur Z (p_extract Z Z) <| L_pur Z (p_extract Z Z) <| L_op <| x_alloc ty36 Z fun b7 => L_op <| x_store Z Z ty36 Z SM SM RO PT <| ag Z Z <| nxx <| mv Z Z <| L_pur Z (p_not Z) <| nq <| C_split Z (fun h32 => ?_) (fun h32 => ?_)
  have hnil : xs = [] := by simpa using h32
  subst hnil
  have hwk : woke w [] x = false := by simp [woke, h22']
  have e1 : sigI w [] x = (0, 0) := by simp [sigI, hwk]
  have e2 : sigV w [] x = 0 := by simp [sigV, hwk]
  have e3 : sigW w [] x = orb w x := by simp [sigW, hwk]
  have e4 : sigL w [] x = [] := by simp [sigL, hwk]
  refine sr <| L_pur Z (bld36 .nil (by repeat constructor)) <| L_op <| x_store Z Z ty36 Z SM SM RO PT <| ag Z Z <| ag Z Z <| nq <| J_ret <| Q_then_ret <| J_ntS (b := b) (o := o) (w := orb w x) (xs := List.tail []) PX trivial <| J_asTo (B := ntA b o (sigW w [] x) (sigL w [] x)) (by first | (rw [e3, e4]; done) | (rw [e3, e4]; rfl)) <| J_return (()) Tryz.results178 (.cellA Z ty36 HS CT (.tmp Z (.tmp Z .nil))) ?_ ?_
  · rw [e1, e2, hwk]; rfl
  · exact SU
  have hne : xs.isEmpty = false := by simpa using h32
  have hwk : woke w xs x = true := by simp [woke, h22', hne]
  have e1 : sigI w xs x = xs.headD (0, 0) := by simp [sigI, hwk]
  have e2 : sigV w xs x = orb w x := by simp [sigV, hwk]
  have e3 : sigW w xs x = 0 := by simp [sigW, hwk]
  have e4 : sigL w xs x = xs.tail := by simp [sigL, hwk]
  refine J_skip <| qx <| mv Z Z <| nc Z Z <| fa Z Z fa229_0 <| L_val Z (v_loadL Z ty22 HS Z (by exact rfl)) <| ag Z Z <| nx <| mv Z Z <| nc Z Z <| fa Z Z fa229_0 <| L_op <| x_storeL Z Z ty22 Z SM SM Z RO Z PT <| nx <| L_val Z (v_loadA Z ty36 HS CT) <| mv Z Z <| L_op <| x_store Z Z ty36 Z SM SM RO PT <| ag Z Z <| ag Z Z <| nq <| J_ret <| J_ntS (b := b) (o := o) (w := 0) (xs := xs.tail) PX trivial <| J_asTo (B := ntA b o (sigW w xs x) (sigL w xs x)) (by first | (rw [e3, e4]; done) | (rw [e3, e4]; rfl)) <| J_return (()) Tryz.results178 (.cellA Z ty36 HS CT (.tmp Z (.tmp Z .nil))) ?_ ?_
  · rw [e1, e2, hwk]; rfl
  · exact SU
def isM (i : ID) (m : Msg) : Bool := decide (m.1.1 = i.1 ∧ m.1.2 = i.2)
def isR (i : ID) (r : Rcv) : Bool := decide (r.1.1 = i.1 ∧ r.1.2 = i.2)
theorem isR_eq (i : ID) (c : Rcv) : isR i c = decide (c.1 = i) := by unfold isR; rw [decide_eq_decide]; exact Prod.ext_iff.symm
abbrev mdrop (xs : List Msg) (i : ID) : List Msg := xs.filter fun c => !isM i c
abbrev rdrop (xs : List Rcv) (i : ID) : List Rcv := xs.filter fun c => !isR i c
theorem encM_one (c : Msg) : ones (encM c) = true := rfl
theorem encM_len (c : Msg) : (encM c).length = 5 := rfl
theorem encR_one (c : Rcv) : ones (encR c) = true := rfl
theorem encR_len (c : Rcv) : (encR c).length = 3 := rfl
theorem encT_one (c : Tm) : ones (encT c) = true := rfl
theorem encT_len (c : Tm) : (encT c).length = 3 := rfl
def isTm (i : ID) (c : Tm) : Bool := decide (c.2.1 = i.1 ∧ c.2.2 = i.2)
theorem isTm_eq (i : ID) (c : Tm) : isTm i c = decide (c.2 = i) := by unfold isTm; rw [decide_eq_decide]; exact Prod.ext_iff.symm
abbrev tdrop (xs : List Tm) (i : ID) : List Tm := xs.filter fun c => !isTm i c
theorem indexfunc294 {α : Type} {enc : α → List Value} {xs : List α} {g : FuncId} (hf : Tryz.prog.funcs[g]? = some fn) (hn : (fn.name == "runtime.NumGoroutine") = false) (hb : fn.body.isNone = false) {q : α → Bool} (hg : ∀ (l' : List As) (c : α), Has C l' → Con Tryz.prog g (#[.agg (enc c).toArray] ++ caps) E l' (fun _ : Unit => .bool (q c)) (fun _ => l')) (hv : Has (row 374 5 v (xs.map enc)) l) (hc : Has C l) :
    Con Tryz.prog 294 #[v, .func (.func g) #[] caps] E l (fun _ : Unit => .int .i64 (idx q xs)) (fun _ => l) := by
  refine Con.body (n := 19) Tryz.func294 Z Z _ (env_ok 2 Z) <| J_row hv fun hw a cap hv h1 h2 h3 => ?_
  subst hv
  have hm : cap ≤ 9223372036854775807 := h2
  have hml : (xs.map enc).length = xs.length := List.length_map _
  refine sr <| ag Z Z <| nxx <| mv Z Z <| L_pur Z (p_len Z Tryz.underlying220) <| mv Z Z <| nq <| J_block <| J_loop (α := Nat) (fun i => i ≤ xs.length ∧ ∀ c ∈ xs.take i, q c = false) (fun _ => l) (fun i => [(8, .int .i64 (i : Int)), (7, .int .i64 (xs.map enc).length), (0, .slice a (xs.map enc).length cap), (1, .func (.func g) #[] caps)]) (fun i => xs.length - i) 0 ⟨by omega, by simp⟩ SU KE ?_
  intro i ⟨hi, hq⟩
  refine sr <| L_pur Z (p_lss Z Z) <| nq <| J_seq <| C_dec Z (fun h9 => ?_) (fun h9 => ?_)
  have hlt : i < xs.length := by omega
  obtain ⟨b, o, rfl⟩ := h3 (by intro h; rw [h] at hml; simp at hml; omega)
  obtain ⟨c, hcc⟩ : ∃ c, xs[i]? = some c := ⟨_, List.getElem?_eq_getElem hlt⟩
  refine J_skip <| Q_then <| J_seq <| J_block <| sr <| mv Z Z <| ag Z Z <| nx <| mv Z Z <| mv Z Z <| mv Z Z <| L_pur Z (p_indexAddr Z Z Tryz.underlying220 ty374 (by omega) (by omega)) <| L_val Z (v_loadE Z ty374 HS (by simp only [Int.toNat_natCast, List.getElem?_map, hcc]; rfl)) ?_
  refine L_op <| x_callc Z hf hn hb (.cons Z .nil) Z (hg _ c hc) fun _ => nq <| C_split Z (fun h16 => ?_) (fun h16 => ?_)
  have hidx := idx_here hq hcc h16
  refine sr <| mv Z Z <| ag Z Z <| nq <| J_ret <| Q_blk_ret <| Q_then_ret <| Q_then_ret <| Q_blk_ret <| Q_then_ret <| J_return (()) Tryz.results294 (.tmp Z .nil) ?_ ?_
  · simp [one, hidx]
  · exact SU
  refine J_skip <| Q_blk_normal <| qr <| L_pur Z (p_add64 Z Z (by omega)) <| mv Z Z <| nq ?_
  exact J_again (i + 1) (by omega) (⟨by omega, take_false_succ hq hcc h16⟩) SU KE
  have hix : i = xs.length := by omega
  rw [hix, List.take_length] at hq
  have hidx := idx_none hq
  refine J_exit <| Q_then_exit <| Q_then_exit <| Q_blk_this <| qx <| ag Z Z <| nq <| J_ret <| J_return (()) Tryz.results294 (.tmp Z .nil) ?_ ?_
  · simp [one, hidx]
  · exact SU
theorem indexfunc295 {α : Type} {enc : α → List Value} {xs : List α} {g : FuncId} (hf : Tryz.prog.funcs[g]? = some fn) (hn : (fn.name == "runtime.NumGoroutine") = false) (hb : fn.body.isNone = false) {q : α → Bool} (hg : ∀ (l' : List As) (c : α), Has C l' → Con Tryz.prog g (#[.agg (enc c).toArray] ++ caps) E l' (fun _ : Unit => .bool (q c)) (fun _ => l')) (hv : Has (row 246 3 v (xs.map enc)) l) (hc : Has C l) :
    Con Tryz.prog 295 #[v, .func (.func g) #[] caps] E l (fun _ : Unit => .int .i64 (idx q xs)) (fun _ => l) := by
  refine Con.body (n := 19) Tryz.func295 Z Z _ (env_ok 2 Z) <| J_row hv fun hw a cap hv h1 h2 h3 => ?_
  subst hv
  have hm : cap ≤ 9223372036854775807 := h2
  have hml : (xs.map enc).length = xs.length := List.length_map _
  refine sr <| ag Z Z <| nxx <| mv Z Z <| L_pur Z (p_len Z Tryz.underlying114) <| mv Z Z <| nq <| J_block <| J_loop (α := Nat) (fun i => i ≤ xs.length ∧ ∀ c ∈ xs.take i, q c = false) (fun _ => l) (fun i => [(8, .int .i64 (i : Int)), (7, .int .i64 (xs.map enc).length), (0, .slice a (xs.map enc).length cap), (1, .func (.func g) #[] caps)]) (fun i => xs.length - i) 0 ⟨by omega, by simp⟩ SU KE ?_
  intro i ⟨hi, hq⟩
  refine sr <| L_pur Z (p_lss Z Z) <| nq <| J_seq <| C_dec Z (fun h9 => ?_) (fun h9 => ?_)
  have hlt : i < xs.length := by omega
  obtain ⟨b, o, rfl⟩ := h3 (by intro h; rw [h] at hml; simp at hml; omega)
  obtain ⟨c, hcc⟩ : ∃ c, xs[i]? = some c := ⟨_, List.getElem?_eq_getElem hlt⟩
  refine J_skip <| Q_then <| J_seq <| J_block <| sr <| mv Z Z <| ag Z Z <| nx <| mv Z Z <| mv Z Z <| mv Z Z <| L_pur Z (p_indexAddr Z Z Tryz.underlying114 ty246 (by omega) (by omega)) <| L_val Z (v_loadE Z ty246 HS (by simp only [Int.toNat_natCast, List.getElem?_map, hcc]; rfl)) ?_
  refine L_op <| x_callc Z hf hn hb (.cons Z .nil) Z (hg _ c hc) fun _ => nq <| C_split Z (fun h16 => ?_) (fun h16 => ?_)
  have hidx := idx_here hq hcc h16
  refine sr <| mv Z Z <| ag Z Z <| nq <| J_ret <| Q_blk_ret <| Q_then_ret <| Q_then_ret <| Q_blk_ret <| Q_then_ret <| J_return (()) Tryz.results295 (.tmp Z .nil) ?_ ?_
  · simp [one, hidx]
  · exact SU
  refine J_skip <| Q_blk_normal <| qr <| L_pur Z (p_add64 Z Z (by omega)) <| mv Z Z <| nq ?_
  exact J_again (i + 1) (by omega) (⟨by omega, take_false_succ hq hcc h16⟩) SU KE
  have hix : i = xs.length := by omega
  rw [hix, List.take_length] at hq
  have hidx := idx_none hq
  refine J_exit <| Q_then_exit <| Q_then_exit <| Q_blk_this <| qx <| ag Z Z <| nq <| J_ret <| J_return (()) Tryz.results295 (.tmp Z .nil) ?_ ?_
  · simp [one, hidx]
  · exact SU
theorem deletefunc236 {α : Type} {enc : α → List Value} {xs : List α} {g : FuncId} (hf : Tryz.prog.funcs[g]? = some fn) (hn : (fn.name == "runtime.NumGoroutine") = false) (hb : fn.body.isNone = false) {q : α → Bool} (hg : ∀ (l' : List As) (c : α), Has C l' → Con Tryz.prog g (#[.agg (enc c).toArray] ++ caps) E l' (fun _ : Unit => .bool (q c)) (fun _ => l')) (hv : Pick (row 374 5 v (xs.map enc)) l m) (hc : Has C m) (hone : ∀ c, ones (enc c) = true) (hlen : ∀ c, (enc c).length = 5) :
  Con Tryz.prog 236 #[v, .func (.func g) #[] caps] E l (fun v' : Value => v') (fun v' => row 374 5 v' ((xs.filter fun c => !q c).map enc) :: m) := by
 rcases idx_cases q xs with ⟨hi0, hall⟩ | ⟨i0, hi0, hlt0, hpre, c0, hc0, hq0⟩
 ·
  refine Con.body (n := 42) Tryz.func236 Z Z _ (env_ok 2 Z) <| J_pick hv <| sr <| ag Z Z <| nx <| mv Z Z <| mv Z Z <| xo fc294 (A2 Z Z) Z (indexfunc294 hf hn hb hg .here (.there hc)) fun _ => ag Z Z <| nxx <| mv Z Z <| L_pur Z (p_eql Z Z) <| nq <| J_bool (t := 12) (c := true) Z (by simp [hi0]) <| C_true Z <| sr <| J_rowEq (ys := (xs.filter fun c => !q c).map enc) (by rw [List.filter_eq_self.2 (fun c hc => by simp [hall c hc])]) <| mv Z Z <| ag Z Z <| nq <| J_ret <| Q_then_ret ?_
  exact J_return (_) Tryz.results236 (.tmp Z .nil) Z SU
 ·
  refine Con.body (n := 42) Tryz.func236 Z Z _ (env_ok 2 Z) <| J_pick hv <| J_row .here fun hw a cap hv h1 h2 h3 => ?_
  obtain ⟨b, o, rfl⟩ := h3 (by intro h; have := congrArg List.length h; simp at this; subst this; simp at hlt0)
  subst hv
  have hm : cap ≤ 9223372036854775807 := h2
  have hml : (xs.map enc).length = xs.length := List.length_map _
  have hk0 : kept q xs (i0 + 1) = xs.take i0 := kept_first hpre hc0 hq0
  have hl0 : (xs.take i0).length = i0 := by simp; omega
  refine sr <| ag Z Z <| nx <| mv Z Z <| mv Z Z <| xo fc294 (A2 Z Z) Z (indexfunc294 hf hn hb hg .here (.there hc)) fun _ => J_slot (t := 10) (v := .int .i64 (i0 : Int)) Z (by rw [hi0]) <| ag Z Z <| nxx <| mv Z Z <| L_pur Z (p_eql Z Z) <| nq <| J_bool (t := 12) (c := false) Z (by simp) <| C_false Z <| J_skip <| Q_then <| J_seq <| sr <| mv Z Z <| L_pur Z (p_add64 Z Z (by omega)) <| ag Z Z <| nq <| J_block ?_
  refine J_rowEq (ys := (kept q xs (i0 + 1) ++ xs.drop (kept q xs (i0 + 1)).length).map enc) (by rw [hk0, hl0, List.take_append_drop]) <| J_slot (t := 5) (v := .int .i64 ((kept q xs (i0 + 1)).length : Int)) Z (by rw [hk0, hl0]) <| J_loop (α := Nat) (fun j => j ≤ xs.length) (fun j => row 374 5 (.slice (some ⟨b, o, none⟩) (xs.map enc).length cap) ((kept q xs j ++ xs.drop (kept q xs j).length).map enc) :: m) (fun j => [(6, .int .i64 (j : Int)), (5, .int .i64 ((kept q xs j).length : Int)), (0, .slice (some ⟨b, o, none⟩) (xs.map enc).length cap), (1, .func (.func g) #[] caps)]) (fun j => xs.length - j) (i0 + 1) (by omega) SU KE ?_
  intro j hj
  have hkl := kept_le q xs j
  refine J_seq <| sr <| mv Z Z <| mv Z Z <| L_pur Z (p_len Z Tryz.underlying220) <| L_pur Z (p_lss Z Z) <| nq <| C_dec Z (fun h19 => ?_) (fun h19 => ?_)
  have hlt : j < xs.length := by omega
  obtain ⟨c, hcc⟩ : ∃ c, xs[j]? = some c := ⟨_, List.getElem?_eq_getElem hlt⟩
  refine J_skip <| Q_then <| J_seq <| J_block <| sr <| mv Z Z <| mv Z Z <| L_pur Z (p_indexAddr Z Z Tryz.underlying220 ty374 (by omega) (by omega)) <| L_val Z (v_loadE Z ty374 HS (by simp only [Int.toNat_natCast, List.getElem?_map, kept_get, hcc]; rfl)) ?_
  refine L_op <| x_alloc ty374 Z fun b7 => L_op <| x_store Z Z ty374 Z SM SM RO PT <| nx <| mv Z Z <| L_val Z (v_loadA Z ty374 HS CT) <| L_op <| x_callc Z hf hn hb (.cons Z .nil) Z (hg _ c (.there (.there hc))) fun _ => L_pur Z (p_not Z) <| nq <| C_split Z (fun h29 => ?_) (fun h29 => ?_)
  have hqc : q c = false := by simpa using h29
  have hks := kept_set hcc hqc
  have hkl1 : (kept q xs (j + 1)).length = (kept q xs j).length + 1 := by rw [kept_succ hcc, hqc]; simp
  refine sr <| mv Z Z <| mv Z Z <| L_val Z (v_loadA Z ty374 HS CT) <| L_pur Z (p_indexAddr Z Z Tryz.underlying220 ty374 (by omega) (by omega)) <| L_op <| x_storeE (vs := enc c) Z Z ty374 Z (hlen c) (hone c) PC (OM) <| J_rowEq (ys := (kept q xs (j + 1) ++ xs.drop (kept q xs (j + 1)).length).map enc) (by rw [← hks, List.map_set]; simp) <| ny <| mv Z Z <| L_pur Z (p_add64 Z Z (by omega)) <| ag Z Z <| L_nil <| Q_blk_normal <| qr <| mv Z Z <| L_pur Z (p_add64 Z Z (by omega)) <| ag Z Z <| nq <| J_slot (t := 5) (v := .int .i64 ((kept q xs (j + 1)).length : Int)) Z (by rw [hkl1]; rfl) ?_
  exact J_again (j + 1) (by omega) (by omega) SU KE
  have hqc : q c = true := by simpa using h29
  have hks : kept q xs (j + 1) = kept q xs j := by rw [kept_succ hcc, hqc]; simp
  refine J_skip <| Q_blk_normal <| qr <| mv Z Z <| L_pur Z (p_add64 Z Z (by omega)) <| ag Z Z <| nq <| J_slot (t := 5) (v := .int .i64 ((kept q xs (j + 1)).length : Int)) Z (by rw [hks]) <| J_pick (A := row 374 5 (.slice (some ⟨b, o, none⟩) (xs.map enc).length cap) ((kept q xs j ++ xs.drop (kept q xs j).length).map enc)) PC <| J_rowEq (ys := (kept q xs (j + 1) ++ xs.drop (kept q xs (j + 1)).length).map enc) (by rw [hks]) ?_
  exact J_again (j + 1) (by omega) (by omega) SU KE
  have hjx : j = xs.length := by omega
  have hka : kept q xs j = xs.filter fun c => !q c := kept_all (by omega)
  refine J_exit <| Q_then_exit <| Q_then_exit <| Q_blk_this <| qx <| mv Z Z <| mv Z Z <| L_pur Z (p_slice Z Tryz.underlying220 ty374 Z Z (by omega) (by omega) (by omega)) <| L_op <| x_clear (len := (xs.map enc).length) Z Tryz.underlying220 ty374 Z Z PC (OM) <| nx <| mv Z Z <| mv Z Z <| L_pur Z (p_slice Z Tryz.underlying220 ty374 Z Z (by omega) (by omega) (by omega)) <| J_take (k := (kept q xs j).length) (OM) <| J_rowTo (v' := .slice (some ⟨b, o, none⟩) (kept q xs j).length cap) (ys := (xs.filter fun c => !q c).map enc) (by simp [hka]) Z <| J_slot (t := 41) (v := .slice (some ⟨b, o, none⟩) (kept q xs j).length cap) Z (by simp [Addr.add]) <| ag Z Z <| nq <| J_ret ?_
  exact J_return (_) Tryz.results236 (.tmp Z .nil) Z SU
theorem deletefunc238 {α : Type} {enc : α → List Value} {xs : List α} {g : FuncId} (hf : Tryz.prog.funcs[g]? = some fn) (hn : (fn.name == "runtime.NumGoroutine") = false) (hb : fn.body.isNone = false) {q : α → Bool} (hg : ∀ (l' : List As) (c : α), Has C l' → Con Tryz.prog g (#[.agg (enc c).toArray] ++ caps) E l' (fun _ : Unit => .bool (q c)) (fun _ => l')) (hv : Pick (row 246 3 v (xs.map enc)) l m) (hc : Has C m) (hone : ∀ c, ones (enc c) = true) (hlen : ∀ c, (enc c).length = 3) :
  Con Tryz.prog 238 #[v, .func (.func g) #[] caps] E l (fun v' : Value => v') (fun v' => row 246 3 v' ((xs.filter fun c => !q c).map enc) :: m) := by
 rcases idx_cases q xs with ⟨hi0, hall⟩ | ⟨i0, hi0, hlt0, hpre, c0, hc0, hq0⟩
 ·
  refine Con.body (n := 42) Tryz.func238 Z Z _ (env_ok 2 Z) <| J_pick hv <| sr <| ag Z Z <| nx <| mv Z Z <| mv Z Z <| xo fc295 (A2 Z Z) Z (indexfunc295 hf hn hb hg .here (.there hc)) fun _ => ag Z Z <| nxx <| mv Z Z <| L_pur Z (p_eql Z Z) <| nq <| J_bool (t := 12) (c := true) Z (by simp [hi0]) <| C_true Z <| sr <| J_rowEq (ys := (xs.filter fun c => !q c).map enc) (by rw [List.filter_eq_self.2 (fun c hc => by simp [hall c hc])]) <| mv Z Z <| ag Z Z <| nq <| J_ret <| Q_then_ret ?_
  exact J_return (_) Tryz.results238 (.tmp Z .nil) Z SU
 ·
  refine Con.body (n := 42) Tryz.func238 Z Z _ (env_ok 2 Z) <| J_pick hv <| J_row .here fun hw a cap hv h1 h2 h3 => ?_
  obtain ⟨b, o, rfl⟩ := h3 (by intro h; have := congrArg List.length h; simp at this; subst this; simp at hlt0)
  subst hv
  have hm : cap ≤ 9223372036854775807 := h2
  have hml : (xs.map enc).length = xs.length := List.length_map _
  have hk0 : kept q xs (i0 + 1) = xs.take i0 := kept_first hpre hc0 hq0
  have hl0 : (xs.take i0).length = i0 := by simp; omega
  refine sr <| ag Z Z <| nx <| mv Z Z <| mv Z Z <| xo fc295 (A2 Z Z) Z (indexfunc295 hf hn hb hg .here (.there hc)) fun _ => J_slot (t := 10) (v := .int .i64 (i0 : Int)) Z (by rw [hi0]) <| ag Z Z <| nxx <| mv Z Z <| L_pur Z (p_eql Z Z) <| nq <| J_bool (t := 12) (c := false) Z (by simp) <| C_false Z <| J_skip <| Q_then <| J_seq <| sr <| mv Z Z <| L_pur Z (p_add64 Z Z (by omega)) <| ag Z Z <| nq <| J_block ?_
  refine J_rowEq (ys := (kept q xs (i0 + 1) ++ xs.drop (kept q xs (i0 + 1)).length).map enc) (by rw [hk0, hl0, List.take_append_drop]) <| J_slot (t := 5) (v := .int .i64 ((kept q xs (i0 + 1)).length : Int)) Z (by rw [hk0, hl0]) <| J_loop (α := Nat) (fun j => j ≤ xs.length) (fun j => row 246 3 (.slice (some ⟨b, o, none⟩) (xs.map enc).length cap) ((kept q xs j ++ xs.drop (kept q xs j).length).map enc) :: m) (fun j => [(6, .int .i64 (j : Int)), (5, .int .i64 ((kept q xs j).length : Int)), (0, .slice (some ⟨b, o, none⟩) (xs.map enc).length cap), (1, .func (.func g) #[] caps)]) (fun j => xs.length - j) (i0 + 1) (by omega) SU KE ?_
  intro j hj
  have hkl := kept_le q xs j
  refine J_seq <| sr <| mv Z Z <| mv Z Z <| L_pur Z (p_len Z Tryz.underlying114) <| L_pur Z (p_lss Z Z) <| nq <| C_dec Z (fun h19 => ?_) (fun h19 => ?_)
  have hlt : j < xs.length := by omega
  obtain ⟨c, hcc⟩ : ∃ c, xs[j]? = some c := ⟨_, List.getElem?_eq_getElem hlt⟩
  refine J_skip <| Q_then <| J_seq <| J_block <| sr <| mv Z Z <| mv Z Z <| L_pur Z (p_indexAddr Z Z Tryz.underlying114 ty246 (by omega) (by omega)) <| L_val Z (v_loadE Z ty246 HS (by simp only [Int.toNat_natCast, List.getElem?_map, kept_get, hcc]; rfl)) ?_
  refine L_op <| x_alloc ty246 Z fun b7 => L_op <| x_store Z Z ty246 Z SM SM RO PT <| nx <| mv Z Z <| L_val Z (v_loadA Z ty246 HS CT) <| L_op <| x_callc Z hf hn hb (.cons Z .nil) Z (hg _ c (.there (.there hc))) fun _ => L_pur Z (p_not Z) <| nq <| C_split Z (fun h29 => ?_) (fun h29 => ?_)
  have hqc : q c = false := by simpa using h29
  have hks := kept_set hcc hqc
  have hkl1 : (kept q xs (j + 1)).length = (kept q xs j).length + 1 := by rw [kept_succ hcc, hqc]; simp
  refine sr <| mv Z Z <| mv Z Z <| L_val Z (v_loadA Z ty246 HS CT) <| L_pur Z (p_indexAddr Z Z Tryz.underlying114 ty246 (by omega) (by omega)) <| L_op <| x_storeE (vs := enc c) Z Z ty246 Z (hlen c) (hone c) PC (OM) <| J_rowEq (ys := (kept q xs (j + 1) ++ xs.drop (kept q xs (j + 1)).length).map enc) (by rw [← hks, List.map_set]; simp) <| ny <| mv Z Z <| L_pur Z (p_add64 Z Z (by omega)) <| ag Z Z <| L_nil <| Q_blk_normal <| qr <| mv Z Z <| L_pur Z (p_add64 Z Z (by omega)) <| ag Z Z <| nq <| J_slot (t := 5) (v := .int .i64 ((kept q xs (j + 1)).length : Int)) Z (by rw [hkl1]; rfl) ?_
  exact J_again (j + 1) (by omega) (by omega) SU KE
  have hqc : q c = true := by simpa using h29
  have hks : kept q xs (j + 1) = kept q xs j := by rw [kept_succ hcc, hqc]; simp
  refine J_skip <| Q_blk_normal <| qr <| mv Z Z <| L_pur Z (p_add64 Z Z (by omega)) <| ag Z Z <| nq <| J_slot (t := 5) (v := .int .i64 ((kept q xs (j + 1)).length : Int)) Z (by rw [hks]) <| J_pick (A := row 246 3 (.slice (some ⟨b, o, none⟩) (xs.map enc).length cap) ((kept q xs j ++ xs.drop (kept q xs j).length).map enc)) PC <| J_rowEq (ys := (kept q xs (j + 1) ++ xs.drop (kept q xs (j + 1)).length).map enc) (by rw [hks]) ?_
  exact J_again (j + 1) (by omega) (by omega) SU KE
  have hjx : j = xs.length := by omega
  have hka : kept q xs j = xs.filter fun c => !q c := kept_all (by omega)
  refine J_exit <| Q_then_exit <| Q_then_exit <| Q_blk_this <| qx <| mv Z Z <| mv Z Z <| L_pur Z (p_slice Z Tryz.underlying114 ty246 Z Z (by omega) (by omega) (by omega)) <| L_op <| x_clear (len := (xs.map enc).length) Z Tryz.underlying114 ty246 Z Z PC (OM) <| nx <| mv Z Z <| mv Z Z <| L_pur Z (p_slice Z Tryz.underlying114 ty246 Z Z (by omega) (by omega) (by omega)) <| J_take (k := (kept q xs j).length) (OM) <| J_rowTo (v' := .slice (some ⟨b, o, none⟩) (kept q xs j).length cap) (ys := (xs.filter fun c => !q c).map enc) (by simp [hka]) Z <| J_slot (t := 41) (v := .slice (some ⟨b, o, none⟩) (kept q xs j).length cap) Z (by simp [Addr.add]) <| ag Z Z <| nq <| J_ret ?_
  exact J_return (_) Tryz.results238 (.tmp Z .nil) Z SU
theorem clo237 {c : Msg} (hc : Has (blk bc 36 (encI i)) l) :
    Con Tryz.prog 237 #[.agg (encM c).toArray, .pointer (some ⟨bc, 0, none⟩)] E l (fun _ : Unit => .bool (isM i c)) (fun _ => l) := by
  refine Con.body (n := 8) Tryz.func237 Z Z _ (env_ok 2 Z) <| sr <| L_op <| x_box Z Z Z fun b2 => ag Z Z <| nx <| fa Z Z fa374_0 <| L_val Z (v_loadA Z ty36 HS CT) <| L_val Z (v_loadA Z ty36 HS CT) <| L_pur Z (p_eqv Z Z (fun w => eg36 _ _ _ _ _ w) (fun w => eqv36 _ _ _ _ w)) <| ag Z Z <| nq <| J_ret ?_
  exact J_return (()) Tryz.results237 (.tmp Z .nil) Z SU
theorem clo239 {c : Rcv} (hc : Has (blk bc 36 (encI i)) l) :
    Con Tryz.prog 239 #[.agg (encR c).toArray, .pointer (some ⟨bc, 0, none⟩)] E l (fun _ : Unit => .bool (isR i c)) (fun _ => l) := by
  refine Con.body (n := 8) Tryz.func239 Z Z _ (env_ok 2 Z) <| sr <| L_op <| x_box Z Z Z fun b2 => ag Z Z <| nx <| fa Z Z fa246_0 <| L_val Z (v_loadA Z ty36 HS CT) <| L_val Z (v_loadA Z ty36 HS CT) <| L_pur Z (p_eqv Z Z (fun w => eg36 _ _ _ _ _ w) (fun w => eqv36 _ _ _ _ w)) <| ag Z Z <| nq <| J_ret ?_
  exact J_return (()) Tryz.results239 (.tmp Z .nil) Z SU
theorem epDropC {out : List Msg} {inn : List Rcv} (hp : Pick (epA b out inn) l m) (hbo : out.length ≤ 100000) (hbi : inn.length ≤ 100000) :
    Con Tryz.prog 169 #[.pointer (some ⟨b, 0, none⟩), .agg (encI i).toArray] E l (fun _ : Unit => .bool (decide ((mdrop out i).length + (rdrop inn i).length < out.length + inn.length))) (fun _ => epA b (mdrop out i) (rdrop inn i) :: m) := by
  refine Con.body (n := 48) Tryz.func169 Z Z _ (env_ok 2 Z) <| J_pick hp <| J_epO fun vo vi _ => J_row (.there .here) fun hw a cap hv h1 h2 h3 => ?_
  subst hv
  refine J_row (.there (.there .here)) fun hw' a' cap' hv h1' h2' h3' => ?_
  subst hv
  refine sr <| L_op <| x_box Z Z Z fun b3 => ag Z Z <| nq <| J_seq <| J_drawS mixed (by kernel_rfl) <| sm Z Z <| sp Z (p_nilCheck Z) <| sp Z (p_fieldAddr Z fa222_0) <| S_val Z (v_load Z ty220 HS (by exact rfl)) <| sp Z (p_len Z Tryz.underlying220) <| sm Z Z <| sp Z (p_nilCheck Z) <| sp Z (p_fieldAddr Z fa222_1) <| S_val Z (v_load Z ty114 HS (by exact rfl)) <| sp Z (p_len Z Tryz.underlying114) <| sp Z (p_add64 Z Z (by simp; omega)) <| sp Z (p_assign Z) <| sq <| sr <| mv Z Z <| mv Z Z <| nc Z Z <| fa Z Z fa222_0 <| L_val Z (v_load Z ty220 HS (by exact rfl)) ?_
  refine L_pur Z (p_makeFunc (.cons Z .nil)) <| xo fc236 (A2 Z Z) Z (deletefunc236 (xs := out) (enc := encM) (q := isM i) (C := blk b3 36 (encI i)) Tryz.func237 nm237 bd237 (fun l' c hc => clo237 hc) PC HS encM_one encM_len) <| JR fun a23 c23 hw23 hl23 hm23 hz23 => nc Z Z <| fa Z Z fa222_0 <| L_op <| x_store Z Z ty220 Z SM SM RO PT <| nx <| mv Z Z <| mv Z Z <| nc Z Z <| fa Z Z fa222_1 <| L_val Z (v_load Z ty114 HS (by exact rfl)) <| L_pur Z (p_makeFunc (.cons Z .nil)) <| xo fc238 (A2 Z Z) Z (deletefunc238 (xs := inn) (enc := encR) (q := isR i) (C := blk b3 36 (encI i)) Tryz.func239 nm239 bd239 (fun l' c hc => clo239 hc) PC HS encR_one encR_len) <| JR fun a32 c32 hw32 hl32 hm32 hz32 => nc Z Z <| fa Z Z fa222_1 <| L_op <| x_store Z Z ty114 Z SM SM RO PT ?_
  refine nq <| J_seq <| J_drawS mixed (by kernel_rfl) <| sm Z Z <| sp Z (p_nilCheck Z) <| sp Z (p_fieldAddr Z fa222_0) <| S_val Z (v_load Z ty220 HS (by exact rfl)) <| sp Z (p_len Z Tryz.underlying220) <| sm Z Z <| sp Z (p_nilCheck Z) <| sp Z (p_fieldAddr Z fa222_1) <| S_val Z (v_load Z ty114 HS (by exact rfl)) <| sp Z (p_len Z Tryz.underlying114) <| sp Z (p_add64 Z Z (by have := List.length_filter_le (fun c => !isM i c) out; have := List.length_filter_le (fun c => !isR i c) inn; simp; omega)) <| sm Z Z <| sp Z (p_lss Z Z) <| sp Z (p_assign Z) <| sq <| J_ret <| J_epS (b := b) (out := (mdrop out i)) (inn := (rdrop inn i)) _ _ PX trivial <| J_return (()) Tryz.results169 (.tmp Z .nil) ?_ ?_
  · simp only [one, List.length_map, mdrop, rdrop]; congr 1; rw [decide_eq_decide]; omega
  · exact SU
theorem indexfunc293 {α : Type} {enc : α → List Value} {xs : List α} {g : FuncId} (hf : Tryz.prog.funcs[g]? = some fn) (hn : (fn.name == "runtime.NumGoroutine") = false) (hb : fn.body.isNone = false) {q : α → Bool} (hg : ∀ (l' : List As) (c : α), Has C l' → Con Tryz.prog g (#[.agg (enc c).toArray] ++ caps) E l' (fun _ : Unit => .bool (q c)) (fun _ => l')) (hv : Has (row 308 3 v (xs.map enc)) l) (hc : Has C l) :
    Con Tryz.prog 293 #[v, .func (.func g) #[] caps] E l (fun _ : Unit => .int .i64 (idx q xs)) (fun _ => l) := by
  refine Con.body (n := 19) Tryz.func293 Z Z _ (env_ok 2 Z) <| J_row hv fun hw a cap hv h1 h2 h3 => ?_
  subst hv
  have hm : cap ≤ 9223372036854775807 := h2
  have hml : (xs.map enc).length = xs.length := List.length_map _
  refine sr <| ag Z Z <| nxx <| mv Z Z <| L_pur Z (p_len Z Tryz.underlying139) <| mv Z Z <| nq <| J_block <| J_loop (α := Nat) (fun i => i ≤ xs.length ∧ ∀ c ∈ xs.take i, q c = false) (fun _ => l) (fun i => [(8, .int .i64 (i : Int)), (7, .int .i64 (xs.map enc).length), (0, .slice a (xs.map enc).length cap), (1, .func (.func g) #[] caps)]) (fun i => xs.length - i) 0 ⟨by omega, by simp⟩ SU KE ?_
  intro i ⟨hi, hq⟩
  refine sr <| L_pur Z (p_lss Z Z) <| nq <| J_seq <| C_dec Z (fun h9 => ?_) (fun h9 => ?_)
  have hlt : i < xs.length := by omega
  obtain ⟨b, o, rfl⟩ := h3 (by intro h; rw [h] at hml; simp at hml; omega)
  obtain ⟨c, hcc⟩ : ∃ c, xs[i]? = some c := ⟨_, List.getElem?_eq_getElem hlt⟩
  refine J_skip <| Q_then <| J_seq <| J_block <| sr <| mv Z Z <| ag Z Z <| nx <| mv Z Z <| mv Z Z <| mv Z Z <| L_pur Z (p_indexAddr Z Z Tryz.underlying139 ty308 (by omega) (by omega)) <| L_val Z (v_loadE Z ty308 HS (by simp only [Int.toNat_natCast, List.getElem?_map, hcc]; rfl)) ?_
  refine L_op <| x_callc Z hf hn hb (.cons Z .nil) Z (hg _ c hc) fun _ => nq <| C_split Z (fun h16 => ?_) (fun h16 => ?_)
  have hidx := idx_here hq hcc h16
  refine sr <| mv Z Z <| ag Z Z <| nq <| J_ret <| Q_blk_ret <| Q_then_ret <| Q_then_ret <| Q_blk_ret <| Q_then_ret <| J_return (()) Tryz.results293 (.tmp Z .nil) ?_ ?_
  · simp [one, hidx]
  · exact SU
  refine J_skip <| Q_blk_normal <| qr <| L_pur Z (p_add64 Z Z (by omega)) <| mv Z Z <| nq ?_
  exact J_again (i + 1) (by omega) (⟨by omega, take_false_succ hq hcc h16⟩) SU KE
  have hix : i = xs.length := by omega
  rw [hix, List.take_length] at hq
  have hidx := idx_none hq
  refine J_exit <| Q_then_exit <| Q_then_exit <| Q_blk_this <| qx <| ag Z Z <| nq <| J_ret <| J_return (()) Tryz.results293 (.tmp Z .nil) ?_ ?_
  · simp [one, hidx]
  · exact SU
theorem deletefunc234 {α : Type} {enc : α → List Value} {xs : List α} {g : FuncId} (hf : Tryz.prog.funcs[g]? = some fn) (hn : (fn.name == "runtime.NumGoroutine") = false) (hb : fn.body.isNone = false) {q : α → Bool} (hg : ∀ (l' : List As) (c : α), Has C l' → Con Tryz.prog g (#[.agg (enc c).toArray] ++ caps) E l' (fun _ : Unit => .bool (q c)) (fun _ => l')) (hv : Pick (row 308 3 v (xs.map enc)) l m) (hc : Has C m) (hone : ∀ c, ones (enc c) = true) (hlen : ∀ c, (enc c).length = 3) :
  Con Tryz.prog 234 #[v, .func (.func g) #[] caps] E l (fun v' : Value => v') (fun v' => row 308 3 v' ((xs.filter fun c => !q c).map enc) :: m) := by
 rcases idx_cases q xs with ⟨hi0, hall⟩ | ⟨i0, hi0, hlt0, hpre, c0, hc0, hq0⟩
 ·
  refine Con.body (n := 42) Tryz.func234 Z Z _ (env_ok 2 Z) <| J_pick hv <| sr <| ag Z Z <| nx <| mv Z Z <| mv Z Z <| xo fc293 (A2 Z Z) Z (indexfunc293 hf hn hb hg .here (.there hc)) fun _ => ag Z Z <| nxx <| mv Z Z <| L_pur Z (p_eql Z Z) <| nq <| J_bool (t := 12) (c := true) Z (by simp [hi0]) <| C_true Z <| sr <| J_rowEq (ys := (xs.filter fun c => !q c).map enc) (by rw [List.filter_eq_self.2 (fun c hc => by simp [hall c hc])]) <| mv Z Z <| ag Z Z <| nq <| J_ret <| Q_then_ret ?_
  exact J_return (_) Tryz.results234 (.tmp Z .nil) Z SU
 ·
  refine Con.body (n := 42) Tryz.func234 Z Z _ (env_ok 2 Z) <| J_pick hv <| J_row .here fun hw a cap hv h1 h2 h3 => ?_
  obtain ⟨b, o, rfl⟩ := h3 (by intro h; have := congrArg List.length h; simp at this; subst this; simp at hlt0)
  subst hv
  have hm : cap ≤ 9223372036854775807 := h2
  have hml : (xs.map enc).length = xs.length := List.length_map _
  have hk0 : kept q xs (i0 + 1) = xs.take i0 := kept_first hpre hc0 hq0
  have hl0 : (xs.take i0).length = i0 := by simp; omega
  refine sr <| ag Z Z <| nx <| mv Z Z <| mv Z Z <| xo fc293 (A2 Z Z) Z (indexfunc293 hf hn hb hg .here (.there hc)) fun _ => J_slot (t := 10) (v := .int .i64 (i0 : Int)) Z (by rw [hi0]) <| ag Z Z <| nxx <| mv Z Z <| L_pur Z (p_eql Z Z) <| nq <| J_bool (t := 12) (c := false) Z (by simp) <| C_false Z <| J_skip <| Q_then <| J_seq <| sr <| mv Z Z <| L_pur Z (p_add64 Z Z (by omega)) <| ag Z Z <| nq <| J_block ?_
  refine J_rowEq (ys := (kept q xs (i0 + 1) ++ xs.drop (kept q xs (i0 + 1)).length).map enc) (by rw [hk0, hl0, List.take_append_drop]) <| J_slot (t := 5) (v := .int .i64 ((kept q xs (i0 + 1)).length : Int)) Z (by rw [hk0, hl0]) <| J_loop (α := Nat) (fun j => j ≤ xs.length) (fun j => row 308 3 (.slice (some ⟨b, o, none⟩) (xs.map enc).length cap) ((kept q xs j ++ xs.drop (kept q xs j).length).map enc) :: m) (fun j => [(6, .int .i64 (j : Int)), (5, .int .i64 ((kept q xs j).length : Int)), (0, .slice (some ⟨b, o, none⟩) (xs.map enc).length cap), (1, .func (.func g) #[] caps)]) (fun j => xs.length - j) (i0 + 1) (by omega) SU KE ?_
  intro j hj
  have hkl := kept_le q xs j
  refine J_seq <| sr <| mv Z Z <| mv Z Z <| L_pur Z (p_len Z Tryz.underlying139) <| L_pur Z (p_lss Z Z) <| nq <| C_dec Z (fun h19 => ?_) (fun h19 => ?_)
  have hlt : j < xs.length := by omega
  obtain ⟨c, hcc⟩ : ∃ c, xs[j]? = some c := ⟨_, List.getElem?_eq_getElem hlt⟩
  refine J_skip <| Q_then <| J_seq <| J_block <| sr <| mv Z Z <| mv Z Z <| L_pur Z (p_indexAddr Z Z Tryz.underlying139 ty308 (by omega) (by omega)) <| L_val Z (v_loadE Z ty308 HS (by simp only [Int.toNat_natCast, List.getElem?_map, kept_get, hcc]; rfl)) ?_
  refine L_op <| x_alloc ty308 Z fun b7 => L_op <| x_store Z Z ty308 Z SM SM RO PT <| nx <| mv Z Z <| L_val Z (v_loadA Z ty308 HS CT) <| L_op <| x_callc Z hf hn hb (.cons Z .nil) Z (hg _ c (.there (.there hc))) fun _ => L_pur Z (p_not Z) <| nq <| C_split Z (fun h29 => ?_) (fun h29 => ?_)
  have hqc : q c = false := by simpa using h29
  have hks := kept_set hcc hqc
  have hkl1 : (kept q xs (j + 1)).length = (kept q xs j).length + 1 := by rw [kept_succ hcc, hqc]; simp
  refine sr <| mv Z Z <| mv Z Z <| L_val Z (v_loadA Z ty308 HS CT) <| L_pur Z (p_indexAddr Z Z Tryz.underlying139 ty308 (by omega) (by omega)) <| L_op <| x_storeE (vs := enc c) Z Z ty308 Z (hlen c) (hone c) PC (OM) <| J_rowEq (ys := (kept q xs (j + 1) ++ xs.drop (kept q xs (j + 1)).length).map enc) (by rw [← hks, List.map_set]; simp) <| ny <| mv Z Z <| L_pur Z (p_add64 Z Z (by omega)) <| ag Z Z <| L_nil <| Q_blk_normal <| qr <| mv Z Z <| L_pur Z (p_add64 Z Z (by omega)) <| ag Z Z <| nq <| J_slot (t := 5) (v := .int .i64 ((kept q xs (j + 1)).length : Int)) Z (by rw [hkl1]; rfl) ?_
  exact J_again (j + 1) (by omega) (by omega) SU KE
  have hqc : q c = true := by simpa using h29
  have hks : kept q xs (j + 1) = kept q xs j := by rw [kept_succ hcc, hqc]; simp
  refine J_skip <| Q_blk_normal <| qr <| mv Z Z <| L_pur Z (p_add64 Z Z (by omega)) <| ag Z Z <| nq <| J_slot (t := 5) (v := .int .i64 ((kept q xs (j + 1)).length : Int)) Z (by rw [hks]) <| J_pick (A := row 308 3 (.slice (some ⟨b, o, none⟩) (xs.map enc).length cap) ((kept q xs j ++ xs.drop (kept q xs j).length).map enc)) PC <| J_rowEq (ys := (kept q xs (j + 1) ++ xs.drop (kept q xs (j + 1)).length).map enc) (by rw [hks]) ?_
  exact J_again (j + 1) (by omega) (by omega) SU KE
  have hjx : j = xs.length := by omega
  have hka : kept q xs j = xs.filter fun c => !q c := kept_all (by omega)
  refine J_exit <| Q_then_exit <| Q_then_exit <| Q_blk_this <| qx <| mv Z Z <| mv Z Z <| L_pur Z (p_slice Z Tryz.underlying139 ty308 Z Z (by omega) (by omega) (by omega)) <| L_op <| x_clear (len := (xs.map enc).length) Z Tryz.underlying139 ty308 Z Z PC (OM) <| nx <| mv Z Z <| mv Z Z <| L_pur Z (p_slice Z Tryz.underlying139 ty308 Z Z (by omega) (by omega) (by omega)) <| J_take (k := (kept q xs j).length) (OM) <| J_rowTo (v' := .slice (some ⟨b, o, none⟩) (kept q xs j).length cap) (ys := (xs.filter fun c => !q c).map enc) (by simp [hka]) Z <| J_slot (t := 41) (v := .slice (some ⟨b, o, none⟩) (kept q xs j).length cap) Z (by simp [Addr.add]) <| ag Z Z <| nq <| J_ret ?_
  exact J_return (_) Tryz.results234 (.tmp Z .nil) Z SU
theorem clo235 {c : Tm} (hc : Has (blk bc 36 (encI i)) l) :
    Con Tryz.prog 235 #[.agg (encT c).toArray, .pointer (some ⟨bc, 0, none⟩)] E l (fun _ : Unit => .bool (isTm i c)) (fun _ => l) := by
  refine Con.body (n := 8) Tryz.func235 Z Z _ (env_ok 2 Z) <| sr <| L_op <| x_box Z Z Z fun b2 => ag Z Z <| nx <| fa Z Z fa308_1 <| L_val Z (v_loadA Z ty36 HS CT) <| L_val Z (v_loadA Z ty36 HS CT) <| L_pur Z (p_eqv Z Z (fun w => eg36 _ _ _ _ _ w) (fun w => eqv36 _ _ _ _ w)) <| ag Z Z <| nq <| J_ret ?_
  exact J_return (()) Tryz.results235 (.tmp Z .nil) Z SU
theorem tmrDropC {xs : List Tm} (hp : Pick (tmrA b o xs) l m) (hb : xs.length ≤ 100000) :
    Con Tryz.prog 168 #[.pointer (some ⟨b, o, none⟩), .agg (encI i).toArray] E l (fun _ : Unit => .bool (decide ((tdrop xs i).length < xs.length))) (fun _ => tmrA b o (tdrop xs i) :: m) := by
  refine Con.body (n := 27) Tryz.func168 Z Z _ (env_ok 2 Z) <| J_pick hp <| J_tmrO fun v _ => J_row (.there .here) fun hw a cap hv h1 h2 h3 => ?_
  subst hv
  have hm : cap ≤ 9223372036854775807 := h2
  have hml : (xs.map encT).length = xs.length := List.length_map _
  refine sr <| L_op <| x_box Z Z Z fun b3 => ag Z Z <| nx <| mv Z Z <| nc Z Z <| fa Z Z fa141_0 <| L_val Z (v_loadL Z ty139 HS Z (by exact rfl)) <| L_pur Z (p_len Z Tryz.underlying139) <| ag Z Z <| nx <| mv Z Z <| mv Z Z <| nc Z Z <| fa Z Z fa141_0 <| L_val Z (v_loadL Z ty139 HS Z (by exact rfl)) <| L_pur Z (p_makeFunc (.cons Z .nil)) <| xo fc234 (A2 Z Z) Z (deletefunc234 (xs := xs) (enc := encT) (q := isTm i) (C := blk b3 36 (encI i)) Tryz.func235 nm235 bd235 (fun l' c hc => clo235 hc) PC HS encT_one encT_len) <| JR fun a17 c17 hw17 hl17 hm17 hz17 => nc Z Z <| fa Z Z fa141_0 <| L_op <| x_storeL Z Z ty139 Z SM SM Z RO Z PT <| nx <| mv Z Z <| nc Z Z <| fa Z Z fa141_0 <| L_val Z (v_loadL Z ty139 HS Z (by exact rfl)) <| L_pur Z (p_len Z Tryz.underlying139) <| mv Z Z <| L_pur Z (p_lss Z Z) <| ag Z Z <| nq <| J_ret <| J_tmrS (b := b) (o := o) (xs := tdrop xs i) _ PX trivial ?_
  refine J_return (()) Tryz.results168 (.tmp Z .nil) ?_ ?_
  · simp [one]
  · exact SU
def cDrop (c : ID × Bool) (i : ID) : ID × Bool := if c.2 = true ∧ c.1 = i then ((0, 0), false) else c
theorem rpDropC {c : ID × Bool} (hp : Pick (rpA b c) l m) :
    Con Tryz.prog 173 #[.pointer (some ⟨b, 0, none⟩), .agg (encI i).toArray] E l (fun _ : Unit => .bool (decide (c.2 = true ∧ c.1 = i))) (fun _ => rpA b (cDrop c i) :: m) := by
  refine Con.body (n := 21) Tryz.func173 Z Z _ (env_ok 2 Z) <| J_pick hp <| J_asTo (B := blk b 243 [.int .i64 c.1.1, .int .i64 c.1.2, .bool c.2]) (by rfl) <| sr <| L_op <| x_box Z Z Z fun b3 => ag Z Z <| nq <| J_seq <| J_seq <| J_drawS mixed (by kernel_rfl) <| sm Z Z <| sp Z (p_nilCheck Z) <| sp Z (p_fieldAddr Z fa243_1) <| S_val Z (v_load Z ty4 HS (by exact rfl)) <| sp Z (p_not Z) <| sm Z Z <| J_gsplit (t := 10) Z (fun h10 => ?_) (fun h10 => ?_)
  have hno : ¬ (c.2 = true ∧ c.1 = i) := fun e => by rw [e.1] at h10; simp at h10
  refine S_off Z Z Z Z Z <| S_off Z Z Z Z Z <| S_off Z Z Z Z Z <| S_off Z Z Z Z Z <| S_off Z Z Z Z Z <| S_off Z Z Z Z Z <| sp Z (p_pick_t Z Z) <| sq <| C_true Z <| sr <| ag Z Z <| nq <| J_ret <| Q_then_ret <| J_pick (A := blk b _ _) PC <| J_asTo (B := rpA b (cDrop c i)) (by rw [cDrop, if_neg hno]; rfl) <| J_return (()) Tryz.results173 (.tmp Z .nil) ?_ ?_
  · simp [one, hno]
  · exact SU
  refine S_on Z Z Z Z (Pur.vl (p_move Z)) <| S_on Z Z Z Z (Pur.vl (p_nilCheck Z)) <| S_on Z Z Z Z (Pur.vl (p_fieldAddr Z fa243_0)) <| S_on Z Z Z Z (v_loadA Z ty36 HS CT) <| S_on Z Z Z Z (v_loadA Z ty36 HS CT) <| S_on Z Z Z Z (Pur.vl (p_nev Z Z (fun w => eg36 _ _ _ _ _ w) (fun w => nev36 _ _ _ _ w))) <| sp Z (p_pick_f Z Z) <| sq <| C_split Z (fun h17 => ?_) (fun h17 => ?_)
  have hno : ¬ (c.2 = true ∧ c.1 = i) := fun e => by rw [← e.2] at h17; simp at h17
  refine sr <| ag Z Z <| nq <| J_ret <| Q_then_ret <| J_pick (A := blk b _ _) PC <| J_asTo (B := rpA b (cDrop c i)) (by rw [cDrop, if_neg hno]; rfl) <| J_return (()) Tryz.results173 (.tmp Z .nil) ?_ ?_
  · simp [one, hno]
  · exact SU
  have hyes : c.2 = true ∧ c.1 = i := ⟨by simpa using h10, by simp at h17; exact Prod.ext h17.1 h17.2⟩
  refine J_skip <| qx <| mv Z Z <| L_pur Z (bld243 .nil (by repeat constructor)) <| nc Z Z <| L_op <| x_store Z Z ty243 Z SM SM RO PT <| nx <| ag Z Z <| nq <| J_ret <| J_pick (A := blk b _ _) PC <| J_asTo (B := rpA b (cDrop c i)) (by rw [cDrop, if_pos hyes]; rfl) <| J_return (()) Tryz.results173 (.tmp Z .nil) ?_ ?_
  · simp [one, hyes]
  · exact SU
/-! ### plain: one object of the state is changed, all of them, those below a unit -/
section
variable {α : Type}
def updO (xs : List (Int × Nat × α)) (u : Int) (f : α → α) : List (Int × Nat × α) := xs.map fun x => if x.1 = u then (x.1, x.2.1, f x.2.2) else x
def mapTo (f : α → α) (k : Int) (xs : List (Int × Nat × α)) : List (Int × Nat × α) := xs.map fun x => if x.1 < k then (x.1, x.2.1, f x.2.2) else x
def allO (f : α → α) (xs : List (Int × Nat × α)) : List (Int × Nat × α) := xs.map fun x => (x.1, x.2.1, f x.2.2)
variable {xs : List (Int × Nat × α)} {u k : Int} {f : α → α}
theorem ptrs_updO : ptrs (updO xs u f) = ptrs xs := by
  unfold ptrs updO; rw [List.map_map]; refine List.map_congr_left fun x _ => ?_
  simp only [Function.comp]; split <;> rfl
theorem ptrs_mapTo : ptrs (mapTo f k xs) = ptrs xs := by
  unfold ptrs mapTo; rw [List.map_map]; refine List.map_congr_left fun x _ => ?_
  simp only [Function.comp]; split <;> rfl
theorem look_ptrs : ∀ {xs : List (Int × Nat × α)}, look (ptrs xs) u = (look xs u).map Prod.fst
  | [] => rfl
  | x :: xs => by
    show look ((x.1, x.2.1) :: ptrs xs) u = _
    rw [look_cons, look_cons, look_ptrs (xs := xs)]
    split <;> rfl
theorem look_got (h : look (ptrs xs) u = some b) : ∃ a, look xs u = some (b, a) := by
  rw [look_ptrs] at h
  obtain ⟨⟨b', a⟩, h1, rfl⟩ := Option.map_eq_some_iff.1 h
  exact ⟨a, h1⟩
theorem look_ix {v : Nat × α} (h : look xs u = some v) : ∃ i : Nat, xs[i]? = some (u, v) := List.getElem?_of_mem (mem_look h)
theorem updO_set {i : Nat} {a : α} (hK : Keyd (ptrs xs)) (hi : xs[i]? = some (u, b, a)) : updO xs u f = xs.set i (u, b, f a) := by
  have hl := (List.getElem?_eq_some_iff.1 hi).1
  refine List.ext_getElem? fun j => ?_
  unfold updO
  rw [List.getElem?_map, List.getElem?_set]
  by_cases hij : i = j
  · subst hij
    rw [hi, if_pos rfl, if_pos hl]; simp
  · rw [if_neg hij]
    cases hj : xs[j]? with
    | none => rfl
    | some x =>
      have : x.1 ≠ u := fun e => hij (by
        have hn : (xs.map Prod.fst).Nodup := by
          have e2 : (ptrs xs).map Prod.fst = xs.map Prod.fst := by unfold ptrs; rw [List.map_map]; rfl
          have hK' := hK
          unfold Keyd at hK'
          rw [e2] at hK'
          exact hK'
        exact nodup_idx hn (by rw [List.getElem?_map, hi]; rfl) (by rw [List.getElem?_map, hj]; exact congrArg some e))
      simp [this]
theorem mapTo_up : updO (mapTo f k xs) k f = mapTo f (k + 1) xs := by
  unfold updO mapTo
  rw [List.map_map]
  refine List.map_congr_left fun x _ => ?_
  simp only [Function.comp]
  by_cases h1 : x.1 < k
  · rw [if_pos h1, if_neg (by show ¬ x.1 = k; omega), if_pos (by omega)]
  · rw [if_neg h1]
    by_cases h2 : x.1 = k
    · rw [if_pos h2, if_pos (by omega)]
    · rw [if_neg h2, if_neg (by omega)]
theorem mapTo_no (h : look (ptrs xs) k = none) : mapTo f k xs = mapTo f (k + 1) xs := by
  unfold mapTo
  refine List.map_congr_left fun x hx => ?_
  have : x.1 ≠ k := fun e => look_none_iff.1 h (List.mem_map.2 ⟨(x.1, x.2.1), List.mem_map.2 ⟨x, hx, rfl⟩, e⟩)
  by_cases h1 : x.1 < k
  · rw [if_pos h1, if_pos (by omega)]
  · rw [if_neg h1, if_neg (by omega)]
theorem mapTo_one (h : ∀ x ∈ xs, 1 ≤ x.1 ∧ x.1 ≤ 64) : mapTo f 1 xs = xs := by
  unfold mapTo
  conv => rhs; rw [← List.map_id xs]
  refine List.map_congr_left fun x hx => ?_
  rw [if_neg (by have := h x hx; omega)]; rfl
theorem mapTo_all (h : ∀ x ∈ xs, 1 ≤ x.1 ∧ x.1 ≤ 64) : mapTo f 65 xs = allO f xs := by
  unfold mapTo allO
  refine List.map_congr_left fun x hx => ?_
  rw [if_pos (by have := h x hx; omega)]
theorem updO_mem {x : Int × Nat × α} (h : x ∈ updO xs u f) : ∃ y ∈ xs, x.1 = y.1 ∧ (x.2.2 = y.2.2 ∨ x.2.2 = f y.2.2) := by
  obtain ⟨y, hy, rfl⟩ := List.mem_map.1 h
  refine ⟨y, hy, ?_⟩
  split
  · exact ⟨rfl, .inr Z⟩
  · exact ⟨rfl, .inl Z⟩
theorem mapTo_mem {x : Int × Nat × α} (h : x ∈ mapTo f k xs) : ∃ y ∈ xs, x.1 = y.1 ∧ (x.2.2 = y.2.2 ∨ x.2.2 = f y.2.2) := by
  obtain ⟨y, hy, rfl⟩ := List.mem_map.1 h
  refine ⟨y, hy, ?_⟩
  split
  · exact ⟨rfl, .inr Z⟩
  · exact ⟨rfl, .inl Z⟩
end
def epD (i : ID) (a : List Msg × List Rcv) : List Msg × List Rcv := (mdrop a.1 i, rdrop a.2 i)
def ntD (i : ID) (a : Int × List ID) : Int × List ID := (a.1, ldrop a.2 i)
def rpD (i : ID) (a : ID × Bool) : ID × Bool := cDrop a i
def ntS (x : Int) (a : Int × List ID) : Int × List ID := (sigW a.1 a.2 x, sigL a.1 a.2 x)
structure Fits (s : KS) (N M : Nat) : Prop where
  n : N ≤ 90000
  mm : M ≤ 90000
  ids : Ids s.rt
  jn : s.jn.length + s.rt.length ≤ M
  tm : s.tm.length ≤ N
  ep : ∀ x ∈ s.ep, (1 ≤ x.1 ∧ x.1 ≤ 64) ∧ x.2.2.1.length ≤ N ∧ x.2.2.2.length ≤ N
  nt : ∀ x ∈ s.nt, (1 ≤ x.1 ∧ x.1 ≤ 64) ∧ x.2.2.2.length ≤ N
  rp : ∀ x ∈ s.rp, 1 ≤ x.1 ∧ x.1 ≤ 64
  rg : ∀ x ∈ s.rg, RgOk x.2.2 ∧ x.2.2.over.length + s.rt.length ≤ M
  mem : MemOk s.mem
def forTo (s : KS) (i : ID) (k : Int) : KS := { s with tm := tdrop s.tm i, ep := mapTo (epD i) k s.ep, nt := mapTo (ntD i) k s.nt, rp := mapTo (rpD i) k s.rp }
def kForget (s : KS) (i : ID) : KS := { s with tm := tdrop s.tm i, ep := allO (epD i) s.ep, nt := allO (ntD i) s.nt, rp := allO (rpD i) s.rp }
variable {s : KS} {N M : Nat}
theorem forTo_one (h : Fits s N M) (i : ID) : forTo s i 1 = { s with tm := tdrop s.tm i } := by
  unfold forTo
  rw [mapTo_one fun x hx => (h.ep x hx).1, mapTo_one fun x hx => (h.nt x hx).1, mapTo_one h.rp]
theorem forTo_all (h : Fits s N M) (i : ID) : forTo s i 65 = kForget s i := by
  unfold forTo kForget
  rw [mapTo_all fun x hx => (h.ep x hx).1, mapTo_all fun x hx => (h.nt x hx).1, mapTo_all h.rp]
theorem Fits.forTo (h : Fits s N M) (i : ID) (k : Int) : Fits (forTo s i k) N M where
  n := h.n
  mm := h.mm
  ids := h.ids
  jn := h.jn
  tm := Nat.le_trans (List.length_filter_le _ _) h.tm
  ep := fun x hx => by
    obtain ⟨y, hy, h1, h2⟩ := mapTo_mem hx
    obtain ⟨g1, g2, g3⟩ := h.ep y hy
    rw [h1]
    rcases h2 with h2 | h2 <;> rw [h2]
    · exact ⟨g1, g2, g3⟩
    · exact ⟨g1, Nat.le_trans (List.length_filter_le _ _) g2, Nat.le_trans (List.length_filter_le _ _) g3⟩
  nt := fun x hx => by
    obtain ⟨y, hy, h1, h2⟩ := mapTo_mem hx
    obtain ⟨g1, g2⟩ := h.nt y hy
    rw [h1]
    rcases h2 with h2 | h2 <;> rw [h2]
    · exact ⟨g1, g2⟩
    · exact ⟨g1, Nat.le_trans (ldrop_len _ _) g2⟩
  rp := fun x hx => by
    obtain ⟨y, hy, h1, h2⟩ := mapTo_mem hx
    rw [h1]; exact h.rp y hy
  rg := h.rg
  mem := h.mem
theorem Fits.forget (h : Fits s N M) (i : ID) : Fits (kForget s i) N M := by rw [← forTo_all h]; exact h.forTo i 65
theorem Fits.jnl (h : Fits s N M) (hm : M + 1 ≤ 90000) (d : Deed) : Fits { s with jn := s.jn ++ [d] } N (M + 1) :=
  ⟨h.n, hm, h.ids, by have := h.jn; simp; omega, h.tm, h.ep, h.nt, h.rp, fun x hx => by have := h.rg x hx; exact ⟨this.1, by have := this.2; show _ + s.rt.length ≤ _; omega⟩, h.mem⟩
theorem del_less {κ υ : Type} [DecidableEq κ] {ps : List (κ × υ)} {i : κ} {q : υ} (h : look ps i = some q) : (del ps i).length + 1 ≤ ps.length := by
  have := List.length_filter_lt_length_iff_exists (p := fun p : κ × υ => !decide (p.1 = i)) (l := ps) |>.2 ⟨(i, q), mem_look h, by simp⟩
  unfold del; omega
theorem del_le {κ υ : Type} [DecidableEq κ] {ps : List (κ × υ)} {i : κ} : (del ps i).length ≤ ps.length := List.length_filter_le _ _
theorem Fits.drop (h : Fits s N (M + 1)) {q : Rq} (hq : look s.rt i = some q) : Fits { s with rt := del s.rt i } N M := by
  have hl := del_less hq
  exact ⟨h.n, by have := h.mm; omega, h.ids.del i, by have := h.jn; show s.jn.length + (del s.rt i).length ≤ M; omega, h.tm, h.ep, h.nt, h.rp, fun x hx => ⟨(h.rg x hx).1, by have := (h.rg x hx).2; show _ + (del s.rt i).length ≤ M; omega⟩, h.mem⟩
theorem Fits.rgUp {s : KS} {N M : Nat} (h : Fits s N M) (hm : M + 1 ≤ 90000) (u : Int) (r0 : Rg) (h0 : RgOk r0) (c : Cqe) : Fits { s with rg := updO s.rg u (fun r => postR r s.mem c), mem := postM r0 s.mem c } N (M + 1) :=
  ⟨h.n, hm, h.ids, by have := h.jn; show s.jn.length + s.rt.length ≤ _; omega, h.tm, h.ep, h.nt, h.rp, fun x hx => by
    obtain ⟨y, hy, h1, h2⟩ := updO_mem (show x ∈ updO s.rg u (fun r => postR r s.mem c) from hx)
    obtain ⟨g1, g2⟩ := h.rg y hy
    rcases h2 with h2 | h2 <;> rw [h2]
    · exact ⟨g1, by show _ + s.rt.length ≤ _; omega⟩
    · refine ⟨postR_ok g1 c, ?_⟩
      have : (postR y.2.2 s.mem c).over.length ≤ y.2.2.over.length + 1 := by unfold postR; split <;> simp [Go.Pse.rgUp]
      show _ + s.rt.length ≤ _
      omega, postM_ok h0 h.mem c⟩
theorem Fits.sig (h : Fits s N M) (u x : Int) : Fits { s with nt := updO s.nt u (ntS x) } N M :=
  ⟨h.n, h.mm, h.ids, h.jn, h.tm, h.ep, fun z hz => by
    obtain ⟨y, hy, h1, h2⟩ := updO_mem (show z ∈ updO s.nt u (ntS x) from hz)
    obtain ⟨g1, g2⟩ := h.nt y hy
    rw [h1]
    rcases h2 with h2 | h2 <;> rw [h2]
    · exact ⟨g1, g2⟩
    · exact ⟨g1, Nat.le_trans (sigL_len _ _ _) g2⟩, h.rp, h.rg, h.mem⟩
theorem J_keyd {κ υ : Type} [DecidableEq κ] {ek : κ → Value} {ev : υ → Value} {n : Nat} {F : Env} {K : Act → World → Prop} {ps : List (κ × υ)} (hh : Has (mapV ek ev (.map (some b)) ps) l) (k : Keyd ps → Jk E l n F K) : Jk E l n F K :=
  J_mapV hh (fun h _ => by cases h) (fun _ _ hk => k hk)
variable {p : Nat}
theorem coRqGet (hp : Pick (coA p s) l m) :
    Con Tryz.prog 69 #[.pointer (some ⟨p, 10, none⟩), .agg (encI i).toArray] E l (fun _ : Unit => .tuple #[evQ ((look s.rt i).getD q00), .bool (look s.rt i).isSome]) (fun _ => coA p s :: m) := fun w H => by
  refine (?_ : Jk E l 0 [] fun _ w => Calls Tryz.prog 69 #[.pointer (some ⟨p, 10, none⟩), .agg (encI i).toArray] w fun e w' => ∃ x, e = .returned ((fun _ : Unit => .tuple #[evQ ((look s.rt i).getD q00), .bool (look s.rt i).isSome]) x) ∧ Sep E w' ((fun _ : Unit => coA p s :: m) x)) w _ H fr0
  refine J_pick hp <| J_coO fun bn be br bg bt bs bp bl bk _ => J_con (rtGetC (ps := s.rt) (i := i) PC) fun x => J_coS (p := p) (s := s) bn be br bg bt bs bp bl bk PX trivial ?_
  exact J_end SU
theorem coRqDrop (hp : Pick (coA p s) l m) :
    Con Tryz.prog 119 #[.pointer (some ⟨p, 10, none⟩), .agg (encI i).toArray] E l (fun _ : Unit => .bool (look s.rt i).isSome) (fun _ => coA p { s with rt := del s.rt i } :: m) := fun w H => by
  refine (?_ : Jk E l 0 [] fun _ w => Calls Tryz.prog 119 #[.pointer (some ⟨p, 10, none⟩), .agg (encI i).toArray] w fun e w' => ∃ x, e = .returned ((fun _ : Unit => .bool (look s.rt i).isSome) x) ∧ Sep E w' ((fun _ : Unit => coA p { s with rt := del s.rt i } :: m) x)) w _ H fr0
  refine J_pick hp <| J_coO fun bn be br bg bt bs bp bl bk _ => J_con (rtDropC (ps := s.rt) (i := i) PC) fun x => J_coS (p := p) (s := { s with rt := del s.rt i }) bn be br bg bt bs bp bl bk PX trivial ?_
  exact J_end SU
theorem coRqAfter (hp : Pick (coA p s) l m) (hI : Ids s.rt) (hb : s.rt.length ≤ 100000) :
    Con Tryz.prog 122 #[.pointer (some ⟨p, 10, none⟩), .agg (encI i).toArray] E l (fun _ : Unit => .tuple #[evQ ((afterQ s.rt i).getD q00), .bool (afterQ s.rt i).isSome]) (fun _ => coA p s :: m) := fun w H => by
  refine (?_ : Jk E l 0 [] fun _ w => Calls Tryz.prog 122 #[.pointer (some ⟨p, 10, none⟩), .agg (encI i).toArray] w fun e w' => ∃ x, e = .returned ((fun _ : Unit => .tuple #[evQ ((afterQ s.rt i).getD q00), .bool (afterQ s.rt i).isSome]) x) ∧ Sep E w' ((fun _ : Unit => coA p s :: m) x)) w _ H fr0
  refine J_pick hp <| J_coO fun bn be br bg bt bs bp bl bk _ => J_con (rtAfterC (ps := s.rt) (i := i) PC hI hb) fun x => J_coS (p := p) (s := s) bn be br bg bt bs bp bl bk PX trivial ?_
  exact J_end SU
theorem coRqOf (hp : Pick (coA p s) l m) (hI : Ids s.rt) (hb : s.rt.length ≤ 100000) :
    Con Tryz.prog 23 #[.pointer (some ⟨p, 10, none⟩), .int .i64 g] E l (fun x : Value => x) (fun x => row 122 13 x ((ofQ s.rt g).map encQ) :: coA p s :: m) := fun w H => by
  refine (?_ : Jk E l 0 [] fun _ w => Calls Tryz.prog 23 #[.pointer (some ⟨p, 10, none⟩), .int .i64 g] w fun e w' => ∃ x, e = .returned ((fun x : Value => x) x) ∧ Sep E w' ((fun x : Value => row 122 13 x ((ofQ s.rt g).map encQ) :: coA p s :: m) x)) w _ H fr0
  refine J_pick hp <| J_coO fun bn be br bg bt bs bp bl bk _ => J_con (rtOf (ps := s.rt) (g := g) PC hI hb) fun x => J_coS (p := p) (s := s) bn be br bg bt bs bp bl bk PX trivial ?_
  exact J_end SU
theorem coRqAdd (hp : Pick (coA p s) l m) {q : Rq} (hI : Ids s.rt) (hb : s.rt.length ≤ 100000) :
    Con Tryz.prog 64 #[.pointer (some ⟨p, 10, none⟩), .agg (encQ q).toArray] E l (fun _ : Unit => .bool (addOk s.rt q)) (fun _ => coA p { s with rt := addQ s.rt q } :: m) := fun w H => by
  refine (?_ : Jk E l 0 [] fun _ w => Calls Tryz.prog 64 #[.pointer (some ⟨p, 10, none⟩), .agg (encQ q).toArray] w fun e w' => ∃ x, e = .returned ((fun _ : Unit => .bool (addOk s.rt q)) x) ∧ Sep E w' ((fun _ : Unit => coA p { s with rt := addQ s.rt q } :: m) x)) w _ H fr0
  refine J_pick hp <| J_coO fun bn be br bg bt bs bp bl bk _ => J_con (rtAddC (ps := s.rt) (q := q) PC hI hb) fun x => J_coS (p := p) (s := { s with rt := addQ s.rt q }) bn be br bg bt bs bp bl bk PX trivial ?_
  exact J_end SU
theorem coJAdd (hp : Pick (coA p s) l m) (hb : s.jn.length ≤ 200000) :
    Con Tryz.prog 174 #[.pointer (some ⟨p, 12, none⟩), .agg (encD d).toArray] E l (fun _ : Unit => .tuple #[]) (fun _ => coA p { s with jn := s.jn ++ [d] } :: m) := fun w H => by
  refine (?_ : Jk E l 0 [] fun _ w => Calls Tryz.prog 174 #[.pointer (some ⟨p, 12, none⟩), .agg (encD d).toArray] w fun e w' => ∃ x, e = .returned ((fun _ : Unit => .tuple #[]) x) ∧ Sep E w' ((fun _ : Unit => coA p { s with jn := s.jn ++ [d] } :: m) x)) w _ H fr0
  refine J_pick hp <| J_coO fun bn be br bg bt bs bp bl bk _ => J_con (jnlAdd (xs := s.jn) (d := d) PC hb) fun x => J_coS (p := p) (s := { s with jn := s.jn ++ [d] }) bn be br bg bt bs bp bl bk PX trivial ?_
  exact J_end SU
theorem coJAll (hp : Pick (coA p s) l m) (hb : s.jn.length ≤ 200000) :
    Con Tryz.prog 21 #[.pointer (some ⟨p, 12, none⟩)] E l (fun x : Value => x) (fun x => row 45 7 x (s.jn.map encD) :: coA p s :: m) := fun w H => by
  refine (?_ : Jk E l 0 [] fun _ w => Calls Tryz.prog 21 #[.pointer (some ⟨p, 12, none⟩)] w fun e w' => ∃ x, e = .returned ((fun x : Value => x) x) ∧ Sep E w' ((fun x : Value => row 45 7 x (s.jn.map encD) :: coA p s :: m) x)) w _ H fr0
  refine J_pick hp <| J_coO fun bn be br bg bt bs bp bl bk _ => J_con (jnlAll (xs := s.jn) PC hb) fun x => J_coS (p := p) (s := s) bn be br bg bt bs bp bl bk PX trivial ?_
  exact J_end SU
theorem coTmDrop (hp : Pick (coA p s) l m) (hb : s.tm.length ≤ 100000) :
    Con Tryz.prog 168 #[.pointer (some ⟨p, 11, none⟩), .agg (encI i).toArray] E l (fun _ : Unit => .bool (decide ((tdrop s.tm i).length < s.tm.length))) (fun _ => coA p { s with tm := tdrop s.tm i } :: m) := fun w H => by
  refine (?_ : Jk E l 0 [] fun _ w => Calls Tryz.prog 168 #[.pointer (some ⟨p, 11, none⟩), .agg (encI i).toArray] w fun e w' => ∃ x, e = .returned ((fun _ : Unit => .bool (decide ((tdrop s.tm i).length < s.tm.length))) x) ∧ Sep E w' ((fun _ : Unit => coA p { s with tm := tdrop s.tm i } :: m) x)) w _ H fr0
  refine J_pick hp <| J_coO fun bn be br bg bt bs bp bl bk _ => J_con (tmrDropC (xs := s.tm) (i := i) PC hb) fun x => J_coS (p := p) (s := { s with tm := tdrop s.tm i }) bn be br bg bt bs bp bl bk PX trivial ?_
  exact J_end SU
theorem coEpDrop (hp : Pick (coA p s) l m) {out : List Msg} {inn : List Rcv} (hl : look s.ep u = some (b, out, inn)) (hbo : out.length ≤ 100000) (hbi : inn.length ≤ 100000) :
  Con Tryz.prog 169 #[.pointer (some ⟨b, 0, none⟩), .agg (encI i).toArray] E l (fun _ : Unit => .bool (decide ((mdrop out i).length + (rdrop inn i).length < out.length + inn.length))) (fun _ => coA p { s with ep := updO s.ep u (epD i) } :: m) := by
 refine J_con0 ?_
 obtain ⟨j, hj⟩ := look_ix hl
 have hjl := (List.getElem?_eq_some_iff.1 hj).1
 refine J_pick hp <| J_coO fun bn be br bg bt bs bp bl bk _ => J_keyd (ps := ptrs s.ep) HS fun hK => J_pick (A := each epF s.ep) PC <| J_eachOut hj ?_
 skip
 refine J_asTo (B := epA b out inn) (by rfl) <| J_con (epDropC (out := out) (inn := inn) (i := i) PC hbo hbi) fun x => J_pick (A := epA b (mdrop out i) (rdrop inn i)) PC <| J_asTo (B := epF (u, b, ((epD i)) (out, inn))) (by rfl) <| J_pick (A := each epF _) PC <| J_pick (A := epF (u, b, _)) PC <| J_eachIn (u, b, ((epD i)) (out, inn)) hjl ?_
 skip
 refine J_asTo (B := each epF (updO s.ep u (epD i))) (by rw [updO_set hK hj]) <| J_pick (A := mapV kZ evA (.map (some be)) (ptrs s.ep)) PC <| J_mapEq (qs := ptrs (updO s.ep u (epD i))) ptrs_updO.symm <| J_coS (p := p) (s := { s with ep := updO s.ep u (epD i) }) bn be br bg bt bs bp bl bk PX trivial ?_
 exact J_end SU
variable {w0 : Int}
theorem coNtDrop (hp : Pick (coA p s) l m) (hl : look s.nt u = some (b, w0, xs)) (hb : xs.length ≤ 100000) :
  Con Tryz.prog 171 #[.pointer (some ⟨b, 0, none⟩), .agg (encI i).toArray] E l (fun _ : Unit => .bool (decide (i ∈ xs))) (fun _ => coA p { s with nt := updO s.nt u (ntD i) } :: m) := by
 refine J_con0 ?_
 obtain ⟨j, hj⟩ := look_ix hl
 have hjl := (List.getElem?_eq_some_iff.1 hj).1
 refine J_pick hp <| J_coO fun bn be br bg bt bs bp bl bk _ => J_keyd (ps := ptrs s.nt) HS fun hK => J_pick (A := each ntF s.nt) PC <| J_eachOut hj ?_
 skip
 refine J_asTo (B := ntA b 0 w0 xs) (by rfl) <| J_con (ntDropC (w := w0) (xs := xs) (i := i) PC hb) fun x => J_pick (A := ntA b 0 w0 (ldrop xs i)) PC <| J_asTo (B := ntF (u, b, ((ntD i)) (w0, xs))) (by rfl) <| J_pick (A := each ntF _) PC <| J_pick (A := ntF (u, b, _)) PC <| J_eachIn (u, b, ((ntD i)) (w0, xs)) hjl ?_
 skip
 refine J_asTo (B := each ntF (updO s.nt u (ntD i))) (by rw [updO_set hK hj]) <| J_pick (A := mapV kZ evA (.map (some bn)) (ptrs s.nt)) PC <| J_mapEq (qs := ptrs (updO s.nt u (ntD i))) ptrs_updO.symm <| J_coS (p := p) (s := { s with nt := updO s.nt u (ntD i) }) bn be br bg bt bs bp bl bk PX trivial ?_
 exact J_end SU
theorem coNtSignal (hp : Pick (coA p s) l m) (hl : look s.nt u = some (b, w0, xs)) (hb : xs.length ≤ 100000) {z : Int} :
  Con Tryz.prog 178 #[.pointer (some ⟨b, 0, none⟩), .int .u32 z] E l (fun _ : Unit => .tuple #[.agg (encI (sigI w0 xs z)).toArray, .int .u32 (sigV w0 xs z), .bool (woke w0 xs z)]) (fun _ => coA p { s with nt := updO s.nt u (ntS z) } :: m) := by
 refine J_con0 ?_
 obtain ⟨j, hj⟩ := look_ix hl
 have hjl := (List.getElem?_eq_some_iff.1 hj).1
 refine J_pick hp <| J_coO fun bn be br bg bt bs bp bl bk _ => J_keyd (ps := ptrs s.nt) HS fun hK => J_pick (A := each ntF s.nt) PC <| J_eachOut hj ?_
 skip
 refine J_asTo (B := ntA b 0 w0 xs) (by rfl) <| J_con (ntSignal (w := w0) (xs := xs) (x := z) PC hb) fun x => J_pick (A := ntA b 0 (sigW w0 xs z) (sigL w0 xs z)) PC <| J_asTo (B := ntF (u, b, ((ntS z)) (w0, xs))) (by rfl) <| J_pick (A := each ntF _) PC <| J_pick (A := ntF (u, b, _)) PC <| J_eachIn (u, b, ((ntS z)) (w0, xs)) hjl ?_
 skip
 refine J_asTo (B := each ntF (updO s.nt u (ntS z))) (by rw [updO_set hK hj]) <| J_pick (A := mapV kZ evA (.map (some bn)) (ptrs s.nt)) PC <| J_mapEq (qs := ptrs (updO s.nt u (ntS z))) ptrs_updO.symm <| J_coS (p := p) (s := { s with nt := updO s.nt u (ntS z) }) bn be br bg bt bs bp bl bk PX trivial ?_
 exact J_end SU
theorem coRpDrop (hp : Pick (coA p s) l m) {c : ID × Bool} (hl : look s.rp u = some (b, c)) :
  Con Tryz.prog 173 #[.pointer (some ⟨b, 0, none⟩), .agg (encI i).toArray] E l (fun _ : Unit => .bool (decide (c.2 = true ∧ c.1 = i))) (fun _ => coA p { s with rp := updO s.rp u (rpD i) } :: m) := by
 refine J_con0 ?_
 obtain ⟨j, hj⟩ := look_ix hl
 have hjl := (List.getElem?_eq_some_iff.1 hj).1
 refine J_pick hp <| J_coO fun bn be br bg bt bs bp bl bk _ => J_keyd (ps := ptrs s.rp) HS fun hK => J_pick (A := each rpF s.rp) PC <| J_eachOut hj ?_
 skip
 refine J_asTo (B := rpA b c) (by rfl) <| J_con (rpDropC (c := c) (i := i) PC) fun x => J_pick (A := rpA b (cDrop c i)) PC <| J_asTo (B := rpF (u, b, ((rpD i)) (c))) (by rfl) <| J_pick (A := each rpF _) PC <| J_pick (A := rpF (u, b, _)) PC <| J_eachIn (u, b, ((rpD i)) (c)) hjl ?_
 skip
 refine J_asTo (B := each rpF (updO s.rp u (rpD i))) (by rw [updO_set hK hj]) <| J_pick (A := mapV kZ evA (.map (some br)) (ptrs s.rp)) PC <| J_mapEq (qs := ptrs (updO s.rp u (rpD i))) ptrs_updO.symm <| J_coS (p := p) (s := { s with rp := updO s.rp u (rpD i) }) bn be br bg bt bs bp bl bk PX trivial ?_
 exact J_end SU
theorem coPost (hp : Pick (coA p s) l m) (hl : look s.rg u = some (b, r)) (hb : r.over.length ≤ 100000) (hR : RgOk r) (hM : MemOk s.mem) :
  Con Tryz.prog 175 #[.pointer (some ⟨b, 0, none⟩), .agg (encX c).toArray] E l (fun _ : Unit => .bool (postOk r s.mem)) (fun _ => coA p { s with rg := updO s.rg u (fun r => postR r s.mem c), mem := postM r s.mem c } :: m) := by
 refine J_con0 ?_
 obtain ⟨j, hj⟩ := look_ix hl
 have hjl := (List.getElem?_eq_some_iff.1 hj).1
 refine J_pick hp <| J_coO fun bn be br bg bt bs bp bl bk _ => J_keyd (ps := ptrs s.rg) HS fun hK => J_pick (A := each (rgF s.mb) s.rg) PC <| J_eachOut hj ?_
 skip
 refine J_asTo (B := rgA b s.mb r) (by rfl) <| J_con (ringPost (r := r) (ms := s.mem) (c := c) PX hb hR hM) fun x => J_pick (A := rgA b s.mb (postR r s.mem c)) PC <| J_asTo (B := (rgF s.mb) (u, b, ((fun r => postR r s.mem c)) (r))) (by rfl) <| J_pick (A := each (rgF s.mb) _) PC <| J_pick (A := (rgF s.mb) (u, b, _)) PC <| J_eachIn (u, b, ((fun r => postR r s.mem c)) (r)) hjl ?_
 skip
 refine J_asTo (B := each (rgF s.mb) (updO s.rg u (fun r => postR r s.mem c))) (by rw [updO_set hK hj]) <| J_pick (A := mapV kZ evA (.map (some bg)) (ptrs s.rg)) PC <| J_mapEq (qs := ptrs (updO s.rg u (fun r => postR r s.mem c))) ptrs_updO.symm <| J_coS (p := p) (s := { s with rg := updO s.rg u (fun r => postR r s.mem c), mem := postM r s.mem c }) bn be br bg bt bs bp bl bk PX trivial ?_
 exact J_end SU
theorem coForget (hp : Pick (coA p s) l m) (hF : Fits s N M) :
  Con Tryz.prog 120 #[.pointer (some ⟨p, 0, none⟩), .agg (encI i).toArray] E l (fun _ : Unit => .tuple #[]) (fun _ => coA p (kForget s i) :: m) := by
 refine Con.body (n := 40) Tryz.func120 Z Z _ (env_ok 2 Z) <| J_pick hp <| sr <| L_op <| x_box Z Z Z fun b3 => nq <| J_seq <| J_drawL (some 3) mixed <| ip 0 Z Z Z Z (p_move Z) <| iv 2 Z Z Z Z (fun _ => v_loadA Z ty36 HS CT) <| i1 1 Z <| xc fc62 (A1 Z) Z (coTimers) fun _ => i1 3 Z <| xc fc168 (A2 Z Z) Z (coTmDrop (s := s) (i := i) PC (by have := hF.tm; have := hF.n; omega)) fun _ => J_pick (A := coA p _) PC <| J_asTo (B := coA p (forTo s i ((1 : Nat) : Int))) (by rw [show ((1 : Nat) : Int) = 1 from rfl, forTo_one hF]) <| i0 <| qx <| ag Z Z <| nq <| J_block <| J_loop (α := Nat) (fun k => 1 ≤ k ∧ k ≤ 65) (fun k => coA p (forTo s i (k : Int)) :: blk b3 36 (encI i) :: m) (fun k => [(4, .int .i64 (k : Int)), (0, .pointer (some ⟨p, 0, none⟩)), (3, .pointer (some ⟨b3, 0, none⟩))]) (fun k => 65 - k) 1 (by omega) SU KE ?_
 intro k hk
 refine J_seq <| sr <| mv Z Z <| L_pur Z (p_leq Z Z) <| nq <| C_dec Z (fun h13 => ?_) (fun h13 => ?_)
 have hF2 := hF.forTo i (k : Int)
 have hNN := hF.n
 refine J_skip <| Q_then <| J_seq <| J_block <| J_cut (α := Unit) (fun _ : Unit => coA p { forTo s i (k : Int) with ep := mapTo (epD i) ((k : Int) + 1) s.ep } :: blk b3 36 (encI i) :: m) (fun _ : Unit => [(4, .int .i64 (k : Int)), (0, .pointer (some ⟨p, 0, none⟩)), (3, .pointer (some ⟨b3, 0, none⟩))]) ?_ ?_
 refine sr <| mv Z Z <| mv Z Z <| xo fc60 (A2 Z Z) Z (coEp (s := (forTo s i (k : Int))) (u := (k : Int)) PC) fun _ => J_slot (t := 18) (v := .pointer ((look (ptrs (KS.ep (forTo s i (k : Int)))) (k : Int)).map fun b => ⟨b, 0, none⟩)) Z Z <| ag Z Z <| nx <| mv Z Z <| L_pur Z (p_neNilPtr Tryz.underlying112 Z) <| nq <| C_split Z (fun h20 => ?_) (fun h20 => ?_)
 obtain ⟨b, hb⟩ : ∃ b, look (ptrs (KS.ep (forTo s i (k : Int)))) (k : Int) = some b := by
  cases hq : look (ptrs (KS.ep (forTo s i (k : Int)))) (k : Int) with
  | none => rw [hq] at h20; simp at h20
  | some b => exact ⟨b, rfl⟩
 obtain ⟨⟨ob1, ob2⟩, hob⟩ := look_got hb
 have hb1 : ob1.length ≤ N := (hF2.ep _ (mem_look hob)).2.1
 have hb2 : ob2.length ≤ N := (hF2.ep _ (mem_look hob)).2.2
 refine J_region <| mv Z Z <| J_slot (t := 21) (v := .pointer (some ⟨b, 0, none⟩)) Z (by rw [hb]; rfl) <| L_val Z (v_loadA Z ty36 HS CT) <| xo fc169 (A2 Z Z) Z (coEpDrop (s := (forTo s i (k : Int))) (u := (k : Int)) PC hob (by omega) (by omega)) fun _ => nq <| J_pick (A := coA p _) PC <| J_asTo (B := coA p { forTo s i (k : Int) with ep := mapTo (epD i) ((k : Int) + 1) s.ep }) (by unfold forTo; simp only [mapTo_up]) ?_
 exact J_at () SU KE
 have hno : look (ptrs s.ep) (k : Int) = none := by
  rw [← ptrs_mapTo (f := epD i) (k := (k : Int))]
  cases hq : look (ptrs (mapTo (epD i) (k : Int) s.ep)) (k : Int) with
  | none => rfl
  | some b => rw [show look (ptrs (KS.ep (forTo s i (k : Int)))) (k : Int) = _ from hq] at h20; simp at h20
 refine J_skip <| Q_then <| J_pick (A := coA p _) PC <| J_asTo (B := coA p { forTo s i (k : Int) with ep := mapTo (epD i) ((k : Int) + 1) s.ep }) (by unfold forTo; simp only [mapTo_no (f := epD i) hno]) ?_
 exact J_at () SU KE
 intro _
 refine J_cut (α := Unit) (fun _ : Unit => coA p { forTo s i (k : Int) with ep := mapTo (epD i) ((k : Int) + 1) s.ep, nt := mapTo (ntD i) ((k : Int) + 1) s.nt } :: blk b3 36 (encI i) :: m) (fun _ : Unit => [(4, .int .i64 (k : Int)), (0, .pointer (some ⟨p, 0, none⟩)), (3, .pointer (some ⟨b3, 0, none⟩))]) ?_ ?_
 refine sr <| mv Z Z <| mv Z Z <| xo fc170 (A2 Z Z) Z (coNotif (s := { forTo s i (k : Int) with ep := mapTo (epD i) ((k : Int) + 1) s.ep }) (u := (k : Int)) PC) fun _ => J_slot (t := 26) (v := .pointer ((look (ptrs (KS.nt { forTo s i (k : Int) with ep := mapTo (epD i) ((k : Int) + 1) s.ep })) (k : Int)).map fun b => ⟨b, 0, none⟩)) Z Z <| ag Z Z <| nx <| mv Z Z <| L_pur Z (p_neNilPtr Tryz.underlying223 Z) <| nq <| C_split Z (fun h28 => ?_) (fun h28 => ?_)
 obtain ⟨b, hb⟩ : ∃ b, look (ptrs (KS.nt { forTo s i (k : Int) with ep := mapTo (epD i) ((k : Int) + 1) s.ep })) (k : Int) = some b := by
  cases hq : look (ptrs (KS.nt { forTo s i (k : Int) with ep := mapTo (epD i) ((k : Int) + 1) s.ep })) (k : Int) with
  | none => rw [hq] at h28; simp at h28
  | some b => exact ⟨b, rfl⟩
 obtain ⟨⟨ob1, ob2⟩, hob⟩ := look_got hb
 have hb2 : ob2.length ≤ N := (hF2.nt _ (mem_look hob)).2
 refine J_region <| mv Z Z <| J_slot (t := 29) (v := .pointer (some ⟨b, 0, none⟩)) Z (by rw [hb]; rfl) <| L_val Z (v_loadA Z ty36 HS CT) <| xo fc171 (A2 Z Z) Z (coNtDrop (s := { forTo s i (k : Int) with ep := mapTo (epD i) ((k : Int) + 1) s.ep }) (u := (k : Int)) PC hob (by omega)) fun _ => nq <| J_pick (A := coA p _) PC <| J_asTo (B := coA p { forTo s i (k : Int) with ep := mapTo (epD i) ((k : Int) + 1) s.ep, nt := mapTo (ntD i) ((k : Int) + 1) s.nt }) (by unfold forTo; simp only [mapTo_up]) ?_
 exact J_at () SU KE
 have hno : look (ptrs s.nt) (k : Int) = none := by
  rw [← ptrs_mapTo (f := ntD i) (k := (k : Int))]
  cases hq : look (ptrs (mapTo (ntD i) (k : Int) s.nt)) (k : Int) with
  | none => rfl
  | some b => rw [show look (ptrs (KS.nt { forTo s i (k : Int) with ep := mapTo (epD i) ((k : Int) + 1) s.ep })) (k : Int) = _ from hq] at h28; simp at h28
 refine J_skip <| Q_then <| J_pick (A := coA p _) PC <| J_asTo (B := coA p { forTo s i (k : Int) with ep := mapTo (epD i) ((k : Int) + 1) s.ep, nt := mapTo (ntD i) ((k : Int) + 1) s.nt }) (by unfold forTo; simp only [mapTo_no (f := ntD i) hno]) ?_
 exact J_at () SU KE
 intro _
 refine sr <| mv Z Z <| mv Z Z <| xo fc172 (A2 Z Z) Z (coReply (s := { forTo s i (k : Int) with ep := mapTo (epD i) ((k : Int) + 1) s.ep, nt := mapTo (ntD i) ((k : Int) + 1) s.nt }) (u := (k : Int)) PC) fun _ => J_slot (t := 34) (v := .pointer ((look (ptrs (KS.rp { forTo s i (k : Int) with ep := mapTo (epD i) ((k : Int) + 1) s.ep, nt := mapTo (ntD i) ((k : Int) + 1) s.nt })) (k : Int)).map fun b => ⟨b, 0, none⟩)) Z Z <| ag Z Z <| nx <| mv Z Z <| L_pur Z (p_neNilPtr Tryz.underlying241 Z) <| nq <| C_split Z (fun h36 => ?_) (fun h36 => ?_)
 obtain ⟨b, hb⟩ : ∃ b, look (ptrs (KS.rp { forTo s i (k : Int) with ep := mapTo (epD i) ((k : Int) + 1) s.ep, nt := mapTo (ntD i) ((k : Int) + 1) s.nt })) (k : Int) = some b := by
  cases hq : look (ptrs (KS.rp { forTo s i (k : Int) with ep := mapTo (epD i) ((k : Int) + 1) s.ep, nt := mapTo (ntD i) ((k : Int) + 1) s.nt })) (k : Int) with
  | none => rw [hq] at h36; simp at h36
  | some b => exact ⟨b, rfl⟩
 obtain ⟨ob, hob⟩ := look_got hb
 refine J_region <| mv Z Z <| J_slot (t := 37) (v := .pointer (some ⟨b, 0, none⟩)) Z (by rw [hb]; rfl) <| L_val Z (v_loadA Z ty36 HS CT) <| xo fc173 (A2 Z Z) Z (coRpDrop (s := { forTo s i (k : Int) with ep := mapTo (epD i) ((k : Int) + 1) s.ep, nt := mapTo (ntD i) ((k : Int) + 1) s.nt }) (u := (k : Int)) PC hob) fun _ => L_nil <| Q_blk_normal <| qr <| mv Z Z <| L_pur Z (p_add64 Z Z (by omega)) <| ag Z Z <| nq <| J_pick (A := coA p _) PC <| J_asTo (B := coA p (forTo s i ((k + 1 : Nat) : Int))) (by unfold forTo; simp only [mapTo_up]; push_cast; rfl) ?_
 exact J_again (k + 1) (by omega) (by omega) SU KE
 have hno : look (ptrs s.rp) (k : Int) = none := by
  rw [← ptrs_mapTo (f := rpD i) (k := (k : Int))]
  cases hq : look (ptrs (mapTo (rpD i) (k : Int) s.rp)) (k : Int) with
  | none => rfl
  | some b => rw [show look (ptrs (KS.rp { forTo s i (k : Int) with ep := mapTo (epD i) ((k : Int) + 1) s.ep, nt := mapTo (ntD i) ((k : Int) + 1) s.nt })) (k : Int) = _ from hq] at h36; simp at h36
 refine J_skip <| Q_blk_normal <| qr <| mv Z Z <| L_pur Z (p_add64 Z Z (by omega)) <| ag Z Z <| nq <| J_pick (A := coA p _) PC <| J_asTo (B := coA p (forTo s i ((k + 1 : Nat) : Int))) (by unfold forTo; simp only [mapTo_no (f := rpD i) hno]; push_cast; rfl) ?_
 exact J_again (k + 1) (by omega) (by omega) SU KE
 have hk65 : k = 65 := by omega
 subst hk65
 refine J_pick (A := coA p _) PC <| J_asTo (B := coA p (kForget s i)) (by rw [show ((65 : Nat) : Int) = 65 from rfl, forTo_all hF]) <| J_exit <| Q_then_exit <| Q_then_exit <| Q_blk_this <| J_endnormal ?_
 exact J_return (()) Tryz.results120 .nil Z SU
/-! ### plain: an end is told; a request ends -/
def kBell (s : KS) (g : Int) : Int × Int := (look s.be g).getD (0, 0)
def kPost (s : KS) (d : Deed) : KS := match look s.rg d.1.1 with
  | none => s
  | some (_, r) => { s with rg := updO s.rg d.1.1 (fun r => postR r s.mem (ofD d)), mem := postM r s.mem (ofD d) }
def kSaid (s : KS) (d : Deed) : KS := kPost { s with jn := s.jn ++ [d] } d
def kRung (s : KS) (g : Int) : KS := { s with nt := updO s.nt (kBell s g).1 (ntS (kBell s g).2) }
def kTell (D : KS → ID → Int → Int → KS) (s : KS) (d : Deed) : KS := match look (kSaid s d).nt (kBell (kSaid s d) d.1.1).1 with
  | none => kSaid s d
  | some (_, w, xs) => if woke w xs (kBell (kSaid s d) d.1.1).2 then D (kRung (kSaid s d) d.1.1) (sigI w xs (kBell (kSaid s d) d.1.1).2) 0 (sigV w xs (kBell (kSaid s d) d.1.1).2) else kRung (kSaid s d) d.1.1
def kDec : Nat → KS → ID → Int → Int → KS
  | 0, s, _, _, _ => s
  | n + 1, s, i, r, v => match look s.rt i with
    | none => s
    | some q => match afterQ (kTell (kDec n) (kForget { s with rt := del s.rt i } i) (i, q.e.tag, q.e.op, r, v, false)).rt i with
      | none => kTell (kDec n) (kForget { s with rt := del s.rt i } i) (i, q.e.tag, q.e.op, r, v, false)
      | some x => if x.soft = true ∧ r < 0 then kDec n (kTell (kDec n) (kForget { s with rt := del s.rt i } i) (i, q.e.tag, q.e.op, r, v, false)) x.id (-9) 0 else kTell (kDec n) (kForget { s with rt := del s.rt i } i) (i, q.e.tag, q.e.op, r, v, false)
theorem kDec_none {n : Nat} {r v : Int} (h : look s.rt i = none) : kDec n s i r v = s := by
  cases n with
  | zero => rfl
  | succ n => rw [kDec, h]
theorem kPost_rt : (kPost s d).rt = s.rt := by unfold kPost; split <;> rfl
theorem kSaid_rt : (kSaid s d).rt = s.rt := by unfold kSaid; rw [kPost_rt]
theorem Fits.said (h : Fits s N M) (hm : M + 1 ≤ 90000) (d : Deed) : Fits (kSaid s d) N (M + 1) := by
  unfold kSaid kPost
  split
  · exact h.jnl hm d
  · rename_i b r hl
    have hr := h.rg _ (mem_look hl)
    refine ⟨h.n, hm, h.ids, ?_, h.tm, h.ep, h.nt, h.rp, fun x hx => ?_, postM_ok hr.1 h.mem _⟩
    · have := h.jn
      show (s.jn ++ [d]).length + s.rt.length ≤ M + 1
      simp; omega
    · obtain ⟨y, hy, h1, h2⟩ := updO_mem (show x ∈ updO s.rg d.1.1 (fun r => postR r s.mem (ofD d)) from hx)
      obtain ⟨g1, g2⟩ := h.rg y hy
      rcases h2 with h2 | h2 <;> rw [h2]
      · exact ⟨g1, by show _ + s.rt.length ≤ _; omega⟩
      · refine ⟨postR_ok g1 _, ?_⟩
        have : (postR y.2.2 s.mem (ofD d)).over.length ≤ y.2.2.over.length + 1 := by unfold postR; split <;> simp [Go.Pse.rgUp]
        show _ + s.rt.length ≤ _
        omega
theorem Fits.tell {D : KS → ID → Int → Int → KS} (hD : ∀ s i r v, Fits s N (M + 1) → Fits (D s i r v) N (M + 1) ∧ (D s i r v).rt.length ≤ s.rt.length) (h : Fits s N M) (hm : M + 1 ≤ 90000) (d : Deed) : Fits (kTell D s d) N (M + 1) ∧ (kTell D s d).rt.length ≤ s.rt.length := by
  have h1 := h.said hm d
  unfold kTell
  split
  · exact ⟨h1, by rw [kSaid_rt]; exact Nat.le_refl _⟩
  · split
    · exact ⟨(hD _ _ _ _ (h1.sig _ _)).1, Nat.le_trans (hD _ _ _ _ (h1.sig _ _)).2 (by show (kSaid s d).rt.length ≤ _; rw [kSaid_rt]; exact Nat.le_refl _)⟩
    · exact ⟨h1.sig _ _, by show (kSaid s d).rt.length ≤ _; rw [kSaid_rt]; exact Nat.le_refl _⟩
theorem Fits.dec {N : Nat} : ∀ n {M : Nat} {s : KS} {i : ID} {r v : Int}, Fits s N M → Fits (kDec n s i r v) N M ∧ (kDec n s i r v).rt.length ≤ s.rt.length
  | 0, _, _, _, _, _, h => ⟨h, Nat.le_refl _⟩
  | n + 1, M, s, i, r, v, h => by
    rw [kDec]
    split
    · exact ⟨h, Nat.le_refl _⟩
    · rename_i q hq
      have hl := del_less hq
      obtain ⟨M, rfl⟩ : ∃ M', M = M' + 1 := ⟨M - 1, by have := h.jn; omega⟩
      have h1 := ((h.drop hq).forget i).tell (D := kDec n) (fun s i r v h => Fits.dec n h) h.mm (i, q.e.tag, q.e.op, r, v, false)
      have h2 : (kTell (kDec n) (kForget { s with rt := del s.rt i } i) (i, q.e.tag, q.e.op, r, v, false)).rt.length ≤ s.rt.length := Nat.le_trans h1.2 (by show (del s.rt i).length ≤ _; omega)
      split
      · exact ⟨h1.1, h2⟩
      · split
        · exact ⟨(Fits.dec n h1.1).1, Nat.le_trans (Fits.dec n h1.1).2 h2⟩
        · exact ⟨h1.1, h2⟩
def DecC (n N M : Nat) : Prop := ∀ (E : World) (l m : List As) (p : Nat) (s : KS) (i : ID) (r v : Int), Pick (coA p s) l m → s.rt.length ≤ n → Fits s N M →
  Con Tryz.prog 72 #[.pointer (some ⟨p, 0, none⟩), .agg (encI i).toArray, .int .i64 r, .int .u32 v] E l (fun _ : Unit => .bool (look s.rt i).isSome) (fun _ => coA p (kDec n s i r v) :: m)
theorem coTell (hp : Pick (coA p s) l m) {n N M : Nat} (hD : DecC n N (M + 1)) (hn : s.rt.length ≤ n) (hF : Fits s N M) (hm : M + 1 ≤ 90000) :
  Con Tryz.prog 121 #[.pointer (some ⟨p, 0, none⟩), .agg (encD d).toArray] E l (fun _ : Unit => .tuple #[]) (fun _ => coA p (kTell (kDec n) s d) :: m) := by
 refine Con.body (n := 51) Tryz.func121 Z Z _ (env_ok 2 Z) <| J_pick hp <| sr <| L_op <| x_box Z Z Z fun b3 => nq <| J_seq <| J_drawL (some 3) mixed <| ip 0 Z Z Z Z (p_move Z) <| iv 2 Z Z Z Z (fun _ => v_loadA Z ty45 HS CT) <| i1 1 Z <| xc fc17 (A1 Z) Z (coJournal) fun _ => i1 3 Z <| xc fc174 (A2 Z Z) Z (coJAdd (s := s) (d := d) PC (by have := hF.jn; omega)) fun _ => i0 <| Q_then <| J_cut (α := Unit) (fun _ : Unit => coA p (kSaid s d) :: blk b3 45 (encD d) :: m) (fun _ : Unit => [(0, .pointer (some ⟨p, 0, none⟩)), (3, .pointer (some ⟨b3, 0, none⟩))]) ?_ ?_
 refine sr <| mv Z Z <| fa Z Z fa45_0 <| fa Z Z fa36_0 <| L_val Z (v_load Z ty3 HS (by exact rfl)) <| xo fc43 (A2 Z Z) Z (coRing (s := { s with jn := s.jn ++ [d] }) (u := d.1.1) PC) fun _ => J_slot (t := 19) (v := .pointer ((look (ptrs s.rg) d.1.1).map fun b => ⟨b, 0, none⟩)) Z Z <| ag Z Z <| nx <| mv Z Z <| L_pur Z (p_neNilPtr Tryz.underlying80 Z) <| nq <| C_split Z (fun h21 => ?_) (fun h21 => ?_)
 obtain ⟨b, hb⟩ : ∃ b, look (ptrs s.rg) d.1.1 = some b := by
  cases hq : look (ptrs s.rg) d.1.1 with
  | none => rw [hq] at h21; simp at h21
  | some b => exact ⟨b, rfl⟩
 obtain ⟨r, hr⟩ := look_got hb
 obtain ⟨hro, hrl⟩ : RgOk r ∧ r.over.length + s.rt.length ≤ M := hF.rg _ (mem_look hr)
 refine J_region <| mv Z Z <| J_slot (t := 22) (v := .pointer (some ⟨b, 0, none⟩)) Z (by rw [hb]; rfl) <| L_val Z (v_loadA Z ty45 HS CT) <| xo fc176 (A1 Z) Z (compOfC (d := d)) fun _ => xo fc175 (A2 Z Z) Z (coPost (s := { s with jn := s.jn ++ [d] }) (u := d.1.1) (r := r) (c := ofD d) PC hr (by omega) hro hF.mem) fun _ => nq <| J_pick (A := coA p _) PC <| J_asTo (B := coA p (kSaid s d)) (by unfold kSaid kPost; rw [show look (KS.rg { s with jn := s.jn ++ [d] }) d.1.1 = _ from hr]) ?_
 exact J_at () SU KE
 have hrn : look s.rg d.1.1 = none := by
  cases hq : look s.rg d.1.1 with
  | none => rfl
  | some y => rw [look_ptrs, hq] at h21; simp at h21
 refine J_skip <| Q_then <| J_pick (A := coA p _) PC <| J_asTo (B := coA p (kSaid s d)) (by unfold kSaid kPost; rw [show look (KS.rg { s with jn := s.jn ++ [d] }) d.1.1 = _ from hrn]) ?_
 exact J_at () SU KE
 intro _
 have hF2 := hF.said hm d
 refine sr <| mv Z Z <| fa Z Z fa45_0 <| fa Z Z fa36_0 <| L_val Z (v_load Z ty3 HS (by exact rfl)) <| xo fc177 (A2 Z Z) Z (coBell (s := kSaid s d) (u := d.1.1) PC) fun _ => J_slot (t := 31) (v := .tuple #[.int .i64 (kBell (kSaid s d) d.1.1).1, .int .u32 (kBell (kSaid s d) d.1.1).2]) Z Z <| mv Z Z <| L_pur Z (p_extract Z Z) <| L_pur Z (p_extract Z Z) <| ag Z Z <| ag Z Z <| nx <| mv Z Z <| mv Z Z <| xo fc170 (A2 Z Z) Z (coNotif (s := kSaid s d) (u := (kBell (kSaid s d) d.1.1).1) PC) fun _ => J_slot (t := 36) (v := .pointer ((look (ptrs (kSaid s d).nt) (kBell (kSaid s d) d.1.1).1).map fun b => ⟨b, 0, none⟩)) Z Z <| ag Z Z <| nx <| mv Z Z <| L_pur Z (p_neNilPtr Tryz.underlying223 Z) <| nq <| C_split Z (fun h38 => ?_) (fun h38 => ?_)
 obtain ⟨b, hb⟩ : ∃ b, look (ptrs (kSaid s d).nt) (kBell (kSaid s d) d.1.1).1 = some b := by
  cases hq : look (ptrs (kSaid s d).nt) (kBell (kSaid s d) d.1.1).1 with
  | none => rw [hq] at h38; simp at h38
  | some b => exact ⟨b, rfl⟩
 obtain ⟨⟨w0, xs⟩, hob⟩ := look_got hb
 have hxl : xs.length ≤ N := (hF2.nt _ (mem_look hob)).2
 have hNN := hF.n
 refine sr <| mv Z Z <| J_slot (t := 40) (v := .pointer (some ⟨b, 0, none⟩)) Z (by rw [hb]; rfl) <| mv Z Z <| xo fc178 (A2 Z Z) Z (coNtSignal (s := kSaid s d) (u := (kBell (kSaid s d) d.1.1).1) (z := (kBell (kSaid s d) d.1.1).2) PC hob (by omega)) fun _ => J_pick (A := coA p _) PC <| J_asTo (B := coA p (kRung (kSaid s d) d.1.1)) (by rfl) <| mv Z Z <| L_pur Z (p_extract Z Z) <| L_pur Z (p_extract Z Z) <| L_pur Z (p_extract Z Z) <| L_op <| x_alloc ty36 Z fun b8 => L_op <| x_store Z Z ty36 Z SM SM RO PT <| ag Z Z <| ag Z Z <| nx <| mv Z Z <| nq <| C_split Z (fun h46 => ?_) (fun h46 => ?_)
 refine J_region <| mv Z Z <| L_val Z (v_loadA Z ty36 HS CT) <| mv Z Z <| xo fc72 (A4 Z Z Z Z) Z (hD _ _ _ p (kRung (kSaid s d) d.1.1) (sigI w0 xs (kBell (kSaid s d) d.1.1).2) 0 (sigV w0 xs (kBell (kSaid s d) d.1.1).2) PC (by show (kSaid s d).rt.length ≤ n; rw [kSaid_rt]; exact hn) (hF2.sig _ _)) fun _ => L_nil <| J_endnormal <| J_pick (A := coA p _) PC <| J_asTo (B := coA p (kTell (kDec n) s d)) (by unfold kTell; rw [hob]; simp only [h46, if_true]) ?_
 exact J_return (()) Tryz.results121 .nil Z SU
 refine J_skip <| J_endnormal <| J_pick (A := coA p _) PC <| J_asTo (B := coA p (kTell (kDec n) s d)) (by unfold kTell; rw [hob]; simp only [h46]; rfl) ?_
 exact J_return (()) Tryz.results121 .nil Z SU
 have hno : look (kSaid s d).nt (kBell (kSaid s d) d.1.1).1 = none := by
  cases hq : look (kSaid s d).nt (kBell (kSaid s d) d.1.1).1 with
  | none => rfl
  | some y => rw [look_ptrs, hq] at h38; simp at h38
 refine J_skip <| J_endnormal <| J_pick (A := coA p _) PC <| J_asTo (B := coA p (kTell (kDec n) s d)) (by unfold kTell; rw [hno]) ?_
 exact J_return (()) Tryz.results121 .nil Z SU
theorem coDecStep (hp : Pick (coA p s) l m) {n N M : Nat} (hD : ∀ k, n = k + 1 → DecC k N M) {r v : Int} (hn : s.rt.length ≤ n) (hF : Fits s N M) :
  Con Tryz.prog 72 #[.pointer (some ⟨p, 0, none⟩), .agg (encI i).toArray, .int .i64 r, .int .u32 v] E l (fun _ : Unit => .bool (look s.rt i).isSome) (fun _ => coA p (kDec n s i r v) :: m) := by
 rcases hq : look s.rt i with _ | q
 ·
  refine Con.body (n := 61) Tryz.func72 Z Z _ (env_ok 4 Z) <| J_pick hp <| sr <| L_op <| x_box Z Z Z fun b5 => ag Z Z <| nq <| J_seq <| J_drawL none mixed <| ip 0 Z Z Z Z (p_move Z) <| iv 2 Z Z Z Z (fun _ => v_loadA Z ty36 HS CT) <| I_ready (rs := [1, 7]) SI (by kernel_rfl) (by simp) <| (I_cons Z ?_ (I_cons Z ?_ I_nil))
  refine xc fc16 (A1 Z) Z (coReqs) fun _ => I_ready (rs := [3, 7]) SI (by kernel_rfl) (by simp) <| (I_cons Z ?_ (I_cons Z ?_ I_nil))
  refine xc fc69 (A2 Z Z) Z (coRqGet (s := s) (i := i) PC) fun _ => ip 4 Z Z Z Z (p_move Z) <| ip 5 Z Z Z Z (p_extract Z Z) <| ip 6 Z Z Z Z (p_extract Z Z) <| J_bool (t := 19) (c := false) Z (by rw [hq]; rfl) <| i1 7 Z <| x_alloc ty122 Z fun b9 => i1 8 Z <| x_store Z Z ty122 Z SM SM RO PT <| ip 9 Z Z Z Z (p_assign Z) <| i0 <| Q_then <| J_seq <| sr <| mv Z Z <| L_pur Z (p_not Z) <| nq <| J_bool (t := 21) (c := true) Z (rfl) <| C_true Z <| sr <| ag Z Z <| nq <| J_ret <| Q_then_ret <| J_pick (A := coA p _) PC <| J_asTo (B := coA p (kDec n s i r v)) (by rw [kDec_none hq]) ?_
  exact J_return (()) Tryz.results72 (.tmp Z .nil) Z SU
  refine x_alloc ty122 Z fun b9 => i1 3 Z <| xc fc69 (A2 Z Z) Z (coRqGet (s := s) (i := i) PC) fun _ => ip 4 Z Z Z Z (p_move Z) <| ip 5 Z Z Z Z (p_extract Z Z) <| ip 6 Z Z Z Z (p_extract Z Z) <| J_bool (t := 19) (c := false) Z (by rw [hq]; rfl) <| i1 8 Z <| x_store Z Z ty122 Z SM SM RO PT <| ip 9 Z Z Z Z (p_assign Z) <| i0 <| Q_then <| J_seq <| sr <| mv Z Z <| L_pur Z (p_not Z) <| nq <| J_bool (t := 21) (c := true) Z (rfl) <| C_true Z <| sr <| ag Z Z <| nq <| J_ret <| Q_then_ret <| J_pick (A := coA p _) PC <| J_asTo (B := coA p (kDec n s i r v)) (by rw [kDec_none hq]) ?_
  exact J_return (()) Tryz.results72 (.tmp Z .nil) Z SU
  refine x_alloc ty122 Z fun b9 => i1 1 Z <| xc fc16 (A1 Z) Z (coReqs) fun _ => i1 3 Z <| xc fc69 (A2 Z Z) Z (coRqGet (s := s) (i := i) PC) fun _ => ip 4 Z Z Z Z (p_move Z) <| ip 5 Z Z Z Z (p_extract Z Z) <| ip 6 Z Z Z Z (p_extract Z Z) <| J_bool (t := 19) (c := false) Z (by rw [hq]; rfl) <| i1 8 Z <| x_store Z Z ty122 Z SM SM RO PT <| ip 9 Z Z Z Z (p_assign Z) <| i0 <| Q_then <| J_seq <| sr <| mv Z Z <| L_pur Z (p_not Z) <| nq <| J_bool (t := 21) (c := true) Z (rfl) <| C_true Z <| sr <| ag Z Z <| nq <| J_ret <| Q_then_ret <| J_pick (A := coA p _) PC <| J_asTo (B := coA p (kDec n s i r v)) (by rw [kDec_none hq]) ?_
  exact J_return (()) Tryz.results72 (.tmp Z .nil) Z SU
 ·
  refine Con.body (n := 61) Tryz.func72 Z Z _ (env_ok 4 Z) ?_
  have hl := del_less hq
  obtain ⟨k, rfl⟩ : ∃ k, n = k + 1 := ⟨n - 1, by omega⟩
  obtain ⟨M, rfl⟩ : ∃ M', M = M' + 1 := ⟨M - 1, by have := hF.jn; omega⟩
  have hF1 := hF.drop hq
  have hn2 : (kForget { s with rt := del s.rt i } i).rt.length ≤ k := by show (del s.rt i).length ≤ k; omega
  have hF3 := (hF1.forget i).tell (D := kDec k) (fun s i r v h => Fits.dec k h) hF.mm (i, q.e.tag, q.e.op, r, v, false)
  refine J_pick hp <| sr <| L_op <| x_box Z Z Z fun b5 => ag Z Z <| nq <| J_seq <| J_drawL none mixed <| ip 0 Z Z Z Z (p_move Z) <| iv 2 Z Z Z Z (fun _ => v_loadA Z ty36 HS CT) <| I_ready (rs := [1, 7]) SI (by kernel_rfl) (by simp) <| (I_cons Z ?_ (I_cons Z ?_ I_nil))
  refine xc fc16 (A1 Z) Z (coReqs) fun _ => I_ready (rs := [3, 7]) SI (by kernel_rfl) (by simp) <| (I_cons Z ?_ (I_cons Z ?_ I_nil))
  refine xc fc69 (A2 Z Z) Z (coRqGet (s := s) (i := i) PC) fun _ => ip 4 Z Z Z Z (p_move Z) <| ip 5 Z Z Z Z (p_extract Z Z) <| ip 6 Z Z Z Z (p_extract Z Z) <| i1 7 Z <| x_alloc ty122 Z fun b9 => i1 8 Z <| x_store Z Z ty122 Z SM SM RO PT <| ip 9 Z Z Z Z (p_assign Z) <| i0 <| Q_then <| J_seq <| sr <| mv Z Z <| L_pur Z (p_not Z) <| nq <| J_bool (t := 21) (c := false) Z (by rw [hq]; rfl) <| C_false Z <| J_skip <| Q_then <| J_seq <| J_drawL (some 3) mixed <| ip 0 Z Z Z Z (p_move Z) <| iv 2 Z Z Z Z (fun _ => v_loadA Z ty36 HS CT) <| i1 1 Z <| xc fc16 (A1 Z) Z (coReqs) fun _ => i1 3 Z <| xc fc119 (A2 Z Z) Z (coRqDrop (s := s) (i := i) PC) fun _ => i0 <| qx <| mv Z Z <| L_val Z (v_loadA Z ty36 HS CT) <| xo fc120 (A2 Z Z) Z (coForget (s := { s with rt := del s.rt i }) (i := i) PC hF1) fun _ => nx <| mv Z Z <| L_val Z (v_loadA Z ty36 HS CT) ?_
  refine fa Z Z fa122_1 <| fa Z Z fa34_2 <| L_val Z (v_load Z ty22 HS (by exact rfl)) <| fa Z Z fa122_1 <| fa Z Z fa34_0 <| L_val Z (v_load Z ty3 HS (by exact rfl)) <| mv Z Z <| mv Z Z <| L_pur Z (bld45 (.cons Z (.cons Z (.cons Z (.cons Z (.cons Z .nil))))) (by repeat constructor)) <| J_slot (t := 39) (v := .agg (encD (i, q.e.tag, q.e.op, r, v, false)).toArray) Z (by rw [hq]; rfl) <| xo fc121 (A2 Z Z) Z (coTell (s := (kForget { s with rt := del s.rt i } i)) (d := (i, q.e.tag, q.e.op, r, v, false)) PC (hD k Z) hn2 (hF1.forget i) hF.mm) fun _ => nq <| J_seq <| J_seq <| J_drawL none mixed <| ip 0 Z Z Z Z (p_move Z) <| iv 2 Z Z Z Z (fun _ => v_loadA Z ty36 HS CT) <| I_ready (rs := [1, 7]) SI (by kernel_rfl) (by simp) <| (I_cons Z ?_ (I_cons Z ?_ I_nil))
  refine xc fc16 (A1 Z) Z (coReqs) fun _ => I_ready (rs := [3, 7]) SI (by kernel_rfl) (by simp) <| (I_cons Z ?_ (I_cons Z ?_ I_nil))
  refine xc fc122 (A2 Z Z) Z (coRqAfter (s := (kTell (kDec k) (kForget { s with rt := del s.rt i } i) (i, q.e.tag, q.e.op, r, v, false))) (i := i) PC hF3.1.ids (by have := hF3.1.jn; have := hF3.1.mm; omega)) fun _ => ip 4 Z Z Z Z (p_move Z) <| ip 5 Z Z Z Z (p_extract Z Z) <| ip 6 Z Z Z Z (p_extract Z Z) <| i1 7 Z <| x_alloc ty122 Z fun b11 => i1 8 Z <| x_store Z Z ty122 Z SM SM RO PT <| ip 9 Z Z Z Z (p_assign Z) <| i0 <| qx <| mv Z Z <| mv Z Z <| J_gsplit (t := 49) Z (fun h49 => ?_) (fun h49 => ?_)
  obtain ⟨x, haf⟩ : ∃ x, afterQ (kTell (kDec k) (kForget { s with rt := del s.rt i } i) (i, q.e.tag, q.e.op, r, v, false)).rt i = some x := by
   cases hz : afterQ (kTell (kDec k) (kForget { s with rt := del s.rt i } i) (i, q.e.tag, q.e.op, r, v, false)).rt i with
   | none => rw [hz] at h49; simp at h49
   | some x => exact ⟨x, rfl⟩
  refine J_pick (A := blk b11 _ _) PC <| J_asTo (B := blk b11 122 (encQ x)) (by rw [haf]; rfl) <| gp Z Z Z (p_fieldAddr Z fa122_3) Z <| L_op <| G_on Z Z Z <| J_val (v_load Z ty4 HS (by exact rfl)) Z Z Z <| L_pur Z (p_pick_t Z Z) <| mv Z Z <| J_gsplit (t := 53) Z (fun h53 => ?_) (fun h53 => ?_)
  refine gp Z Z Z (p_move Z) Z <| gp Z Z Z (p_lss Z Z) Z <| L_pur Z (p_pick_t Z Z) <| nq <| C_dec Z (fun h56 => ?_) (fun h56 => ?_)
  refine J_region <| mv Z Z <| fa Z Z fa122_0 <| L_val Z (v_loadA Z ty36 HS CT) <| xo fc72 (A4 Z Z Z Z) Z (hD k Z _ _ _ p (kTell (kDec k) (kForget { s with rt := del s.rt i } i) (i, q.e.tag, q.e.op, r, v, false)) x.id (-9) 0 PC (Nat.le_trans hF3.2 hn2) hF3.1) fun _ => nx <| ag Z Z <| nq <| J_ret <| J_pick (A := coA p _) PC <| J_asTo (B := coA p (kDec (k + 1) s i r v)) (by rw [kDec, hq]; simp only [haf]; rw [if_pos ⟨h53, h56⟩]) ?_
  exact J_return (()) Tryz.results72 (.tmp Z .nil) Z SU
  refine J_skip <| qx <| ag Z Z <| nq <| J_ret <| J_pick (A := coA p _) PC <| J_asTo (B := coA p (kDec (k + 1) s i r v)) (by rw [kDec, hq]; simp only [haf]; rw [if_neg (by intro hc; simp_all)]) ?_
  exact J_return (()) Tryz.results72 (.tmp Z .nil) Z SU
  refine gz Z Z Z Z Z <| gz Z Z Z Z Z <| L_pur Z (p_pick_f Z Z) <| nq <| C_false Z <| J_skip <| qx <| ag Z Z <| nq <| J_ret <| J_pick (A := coA p _) PC <| J_asTo (B := coA p (kDec (k + 1) s i r v)) (by rw [kDec, hq]; simp only [haf]; rw [if_neg (by intro hc; simp_all)]) ?_
  exact J_return (()) Tryz.results72 (.tmp Z .nil) Z SU
  have haf : afterQ (kTell (kDec k) (kForget { s with rt := del s.rt i } i) (i, q.e.tag, q.e.op, r, v, false)).rt i = none := by
   cases hz : afterQ (kTell (kDec k) (kForget { s with rt := del s.rt i } i) (i, q.e.tag, q.e.op, r, v, false)).rt i with
   | none => rfl
   | some x => rw [hz] at h49; simp at h49
  refine gz Z Z Z Z Z <| gz Z Z Z Z Z <| L_pur Z (p_pick_f Z Z) <| mv Z Z <| gz Z Z Z Z Z <| gz Z Z Z Z Z <| L_pur Z (p_pick_f Z Z) <| nq <| C_false Z <| J_skip <| qx <| ag Z Z <| nq <| J_ret <| J_pick (A := coA p _) PC <| J_asTo (B := coA p (kDec (k + 1) s i r v)) (by rw [kDec, hq]; simp only [haf]) ?_
  exact J_return (()) Tryz.results72 (.tmp Z .nil) Z SU
  refine x_alloc ty122 Z fun b11 => i1 3 Z <| xc fc122 (A2 Z Z) Z (coRqAfter (s := (kTell (kDec k) (kForget { s with rt := del s.rt i } i) (i, q.e.tag, q.e.op, r, v, false))) (i := i) PC hF3.1.ids (by have := hF3.1.jn; have := hF3.1.mm; omega)) fun _ => ip 4 Z Z Z Z (p_move Z) <| ip 5 Z Z Z Z (p_extract Z Z) <| ip 6 Z Z Z Z (p_extract Z Z) <| i1 8 Z <| x_store Z Z ty122 Z SM SM RO PT <| ip 9 Z Z Z Z (p_assign Z) <| i0 <| qx <| mv Z Z <| mv Z Z <| J_gsplit (t := 49) Z (fun h49 => ?_) (fun h49 => ?_)
  obtain ⟨x, haf⟩ : ∃ x, afterQ (kTell (kDec k) (kForget { s with rt := del s.rt i } i) (i, q.e.tag, q.e.op, r, v, false)).rt i = some x := by
   cases hz : afterQ (kTell (kDec k) (kForget { s with rt := del s.rt i } i) (i, q.e.tag, q.e.op, r, v, false)).rt i with
   | none => rw [hz] at h49; simp at h49
   | some x => exact ⟨x, rfl⟩
  refine J_pick (A := blk b11 _ _) PC <| J_asTo (B := blk b11 122 (encQ x)) (by rw [haf]; rfl) <| gp Z Z Z (p_fieldAddr Z fa122_3) Z <| L_op <| G_on Z Z Z <| J_val (v_load Z ty4 HS (by exact rfl)) Z Z Z <| L_pur Z (p_pick_t Z Z) <| mv Z Z <| J_gsplit (t := 53) Z (fun h53 => ?_) (fun h53 => ?_)
  refine gp Z Z Z (p_move Z) Z <| gp Z Z Z (p_lss Z Z) Z <| L_pur Z (p_pick_t Z Z) <| nq <| C_dec Z (fun h56 => ?_) (fun h56 => ?_)
  refine J_region <| mv Z Z <| fa Z Z fa122_0 <| L_val Z (v_loadA Z ty36 HS CT) <| xo fc72 (A4 Z Z Z Z) Z (hD k Z _ _ _ p (kTell (kDec k) (kForget { s with rt := del s.rt i } i) (i, q.e.tag, q.e.op, r, v, false)) x.id (-9) 0 PC (Nat.le_trans hF3.2 hn2) hF3.1) fun _ => nx <| ag Z Z <| nq <| J_ret <| J_pick (A := coA p _) PC <| J_asTo (B := coA p (kDec (k + 1) s i r v)) (by rw [kDec, hq]; simp only [haf]; rw [if_pos ⟨h53, h56⟩]) ?_
  exact J_return (()) Tryz.results72 (.tmp Z .nil) Z SU
  refine J_skip <| qx <| ag Z Z <| nq <| J_ret <| J_pick (A := coA p _) PC <| J_asTo (B := coA p (kDec (k + 1) s i r v)) (by rw [kDec, hq]; simp only [haf]; rw [if_neg (by intro hc; simp_all)]) ?_
  exact J_return (()) Tryz.results72 (.tmp Z .nil) Z SU
  refine gz Z Z Z Z Z <| gz Z Z Z Z Z <| L_pur Z (p_pick_f Z Z) <| nq <| C_false Z <| J_skip <| qx <| ag Z Z <| nq <| J_ret <| J_pick (A := coA p _) PC <| J_asTo (B := coA p (kDec (k + 1) s i r v)) (by rw [kDec, hq]; simp only [haf]; rw [if_neg (by intro hc; simp_all)]) ?_
  exact J_return (()) Tryz.results72 (.tmp Z .nil) Z SU
  have haf : afterQ (kTell (kDec k) (kForget { s with rt := del s.rt i } i) (i, q.e.tag, q.e.op, r, v, false)).rt i = none := by
   cases hz : afterQ (kTell (kDec k) (kForget { s with rt := del s.rt i } i) (i, q.e.tag, q.e.op, r, v, false)).rt i with
   | none => rfl
   | some x => rw [hz] at h49; simp at h49
  refine gz Z Z Z Z Z <| gz Z Z Z Z Z <| L_pur Z (p_pick_f Z Z) <| mv Z Z <| gz Z Z Z Z Z <| gz Z Z Z Z Z <| L_pur Z (p_pick_f Z Z) <| nq <| C_false Z <| J_skip <| qx <| ag Z Z <| nq <| J_ret <| J_pick (A := coA p _) PC <| J_asTo (B := coA p (kDec (k + 1) s i r v)) (by rw [kDec, hq]; simp only [haf]) ?_
  exact J_return (()) Tryz.results72 (.tmp Z .nil) Z SU
  refine x_alloc ty122 Z fun b11 => i1 1 Z <| xc fc16 (A1 Z) Z (coReqs) fun _ => i1 3 Z <| xc fc122 (A2 Z Z) Z (coRqAfter (s := (kTell (kDec k) (kForget { s with rt := del s.rt i } i) (i, q.e.tag, q.e.op, r, v, false))) (i := i) PC hF3.1.ids (by have := hF3.1.jn; have := hF3.1.mm; omega)) fun _ => ip 4 Z Z Z Z (p_move Z) <| ip 5 Z Z Z Z (p_extract Z Z) <| ip 6 Z Z Z Z (p_extract Z Z) <| i1 8 Z <| x_store Z Z ty122 Z SM SM RO PT <| ip 9 Z Z Z Z (p_assign Z) <| i0 <| qx <| mv Z Z <| mv Z Z <| J_gsplit (t := 49) Z (fun h49 => ?_) (fun h49 => ?_)
  obtain ⟨x, haf⟩ : ∃ x, afterQ (kTell (kDec k) (kForget { s with rt := del s.rt i } i) (i, q.e.tag, q.e.op, r, v, false)).rt i = some x := by
   cases hz : afterQ (kTell (kDec k) (kForget { s with rt := del s.rt i } i) (i, q.e.tag, q.e.op, r, v, false)).rt i with
   | none => rw [hz] at h49; simp at h49
   | some x => exact ⟨x, rfl⟩
  refine J_pick (A := blk b11 _ _) PC <| J_asTo (B := blk b11 122 (encQ x)) (by rw [haf]; rfl) <| gp Z Z Z (p_fieldAddr Z fa122_3) Z <| L_op <| G_on Z Z Z <| J_val (v_load Z ty4 HS (by exact rfl)) Z Z Z <| L_pur Z (p_pick_t Z Z) <| mv Z Z <| J_gsplit (t := 53) Z (fun h53 => ?_) (fun h53 => ?_)
  refine gp Z Z Z (p_move Z) Z <| gp Z Z Z (p_lss Z Z) Z <| L_pur Z (p_pick_t Z Z) <| nq <| C_dec Z (fun h56 => ?_) (fun h56 => ?_)
  refine J_region <| mv Z Z <| fa Z Z fa122_0 <| L_val Z (v_loadA Z ty36 HS CT) <| xo fc72 (A4 Z Z Z Z) Z (hD k Z _ _ _ p (kTell (kDec k) (kForget { s with rt := del s.rt i } i) (i, q.e.tag, q.e.op, r, v, false)) x.id (-9) 0 PC (Nat.le_trans hF3.2 hn2) hF3.1) fun _ => nx <| ag Z Z <| nq <| J_ret <| J_pick (A := coA p _) PC <| J_asTo (B := coA p (kDec (k + 1) s i r v)) (by rw [kDec, hq]; simp only [haf]; rw [if_pos ⟨h53, h56⟩]) ?_
  exact J_return (()) Tryz.results72 (.tmp Z .nil) Z SU
  refine J_skip <| qx <| ag Z Z <| nq <| J_ret <| J_pick (A := coA p _) PC <| J_asTo (B := coA p (kDec (k + 1) s i r v)) (by rw [kDec, hq]; simp only [haf]; rw [if_neg (by intro hc; simp_all)]) ?_
  exact J_return (()) Tryz.results72 (.tmp Z .nil) Z SU
  refine gz Z Z Z Z Z <| gz Z Z Z Z Z <| L_pur Z (p_pick_f Z Z) <| nq <| C_false Z <| J_skip <| qx <| ag Z Z <| nq <| J_ret <| J_pick (A := coA p _) PC <| J_asTo (B := coA p (kDec (k + 1) s i r v)) (by rw [kDec, hq]; simp only [haf]; rw [if_neg (by intro hc; simp_all)]) ?_
  exact J_return (()) Tryz.results72 (.tmp Z .nil) Z SU
  have haf : afterQ (kTell (kDec k) (kForget { s with rt := del s.rt i } i) (i, q.e.tag, q.e.op, r, v, false)).rt i = none := by
   cases hz : afterQ (kTell (kDec k) (kForget { s with rt := del s.rt i } i) (i, q.e.tag, q.e.op, r, v, false)).rt i with
   | none => rfl
   | some x => rw [hz] at h49; simp at h49
  refine gz Z Z Z Z Z <| gz Z Z Z Z Z <| L_pur Z (p_pick_f Z Z) <| mv Z Z <| gz Z Z Z Z Z <| gz Z Z Z Z Z <| L_pur Z (p_pick_f Z Z) <| nq <| C_false Z <| J_skip <| qx <| ag Z Z <| nq <| J_ret <| J_pick (A := coA p _) PC <| J_asTo (B := coA p (kDec (k + 1) s i r v)) (by rw [kDec, hq]; simp only [haf]) ?_
  exact J_return (()) Tryz.results72 (.tmp Z .nil) Z SU
  refine x_alloc ty122 Z fun b9 => i1 3 Z <| xc fc69 (A2 Z Z) Z (coRqGet (s := s) (i := i) PC) fun _ => ip 4 Z Z Z Z (p_move Z) <| ip 5 Z Z Z Z (p_extract Z Z) <| ip 6 Z Z Z Z (p_extract Z Z) <| i1 8 Z <| x_store Z Z ty122 Z SM SM RO PT <| ip 9 Z Z Z Z (p_assign Z) <| i0 <| Q_then <| J_seq <| sr <| mv Z Z <| L_pur Z (p_not Z) <| nq <| J_bool (t := 21) (c := false) Z (by rw [hq]; rfl) <| C_false Z <| J_skip <| Q_then <| J_seq <| J_drawL (some 3) mixed <| ip 0 Z Z Z Z (p_move Z) <| iv 2 Z Z Z Z (fun _ => v_loadA Z ty36 HS CT) <| i1 1 Z <| xc fc16 (A1 Z) Z (coReqs) fun _ => i1 3 Z <| xc fc119 (A2 Z Z) Z (coRqDrop (s := s) (i := i) PC) fun _ => i0 <| qx <| mv Z Z <| L_val Z (v_loadA Z ty36 HS CT) <| xo fc120 (A2 Z Z) Z (coForget (s := { s with rt := del s.rt i }) (i := i) PC hF1) fun _ => nx <| mv Z Z <| L_val Z (v_loadA Z ty36 HS CT) ?_
  refine fa Z Z fa122_1 <| fa Z Z fa34_2 <| L_val Z (v_load Z ty22 HS (by exact rfl)) <| fa Z Z fa122_1 <| fa Z Z fa34_0 <| L_val Z (v_load Z ty3 HS (by exact rfl)) <| mv Z Z <| mv Z Z <| L_pur Z (bld45 (.cons Z (.cons Z (.cons Z (.cons Z (.cons Z .nil))))) (by repeat constructor)) <| J_slot (t := 39) (v := .agg (encD (i, q.e.tag, q.e.op, r, v, false)).toArray) Z (by rw [hq]; rfl) <| xo fc121 (A2 Z Z) Z (coTell (s := (kForget { s with rt := del s.rt i } i)) (d := (i, q.e.tag, q.e.op, r, v, false)) PC (hD k Z) hn2 (hF1.forget i) hF.mm) fun _ => nq <| J_seq <| J_seq <| J_drawL none mixed <| ip 0 Z Z Z Z (p_move Z) <| iv 2 Z Z Z Z (fun _ => v_loadA Z ty36 HS CT) <| I_ready (rs := [1, 7]) SI (by kernel_rfl) (by simp) <| (I_cons Z ?_ (I_cons Z ?_ I_nil))
  refine xc fc16 (A1 Z) Z (coReqs) fun _ => I_ready (rs := [3, 7]) SI (by kernel_rfl) (by simp) <| (I_cons Z ?_ (I_cons Z ?_ I_nil))
  refine xc fc122 (A2 Z Z) Z (coRqAfter (s := (kTell (kDec k) (kForget { s with rt := del s.rt i } i) (i, q.e.tag, q.e.op, r, v, false))) (i := i) PC hF3.1.ids (by have := hF3.1.jn; have := hF3.1.mm; omega)) fun _ => ip 4 Z Z Z Z (p_move Z) <| ip 5 Z Z Z Z (p_extract Z Z) <| ip 6 Z Z Z Z (p_extract Z Z) <| i1 7 Z <| x_alloc ty122 Z fun b11 => i1 8 Z <| x_store Z Z ty122 Z SM SM RO PT <| ip 9 Z Z Z Z (p_assign Z) <| i0 <| qx <| mv Z Z <| mv Z Z <| J_gsplit (t := 49) Z (fun h49 => ?_) (fun h49 => ?_)
  obtain ⟨x, haf⟩ : ∃ x, afterQ (kTell (kDec k) (kForget { s with rt := del s.rt i } i) (i, q.e.tag, q.e.op, r, v, false)).rt i = some x := by
   cases hz : afterQ (kTell (kDec k) (kForget { s with rt := del s.rt i } i) (i, q.e.tag, q.e.op, r, v, false)).rt i with
   | none => rw [hz] at h49; simp at h49
   | some x => exact ⟨x, rfl⟩
  refine J_pick (A := blk b11 _ _) PC <| J_asTo (B := blk b11 122 (encQ x)) (by rw [haf]; rfl) <| gp Z Z Z (p_fieldAddr Z fa122_3) Z <| L_op <| G_on Z Z Z <| J_val (v_load Z ty4 HS (by exact rfl)) Z Z Z <| L_pur Z (p_pick_t Z Z) <| mv Z Z <| J_gsplit (t := 53) Z (fun h53 => ?_) (fun h53 => ?_)
  refine gp Z Z Z (p_move Z) Z <| gp Z Z Z (p_lss Z Z) Z <| L_pur Z (p_pick_t Z Z) <| nq <| C_dec Z (fun h56 => ?_) (fun h56 => ?_)
  refine J_region <| mv Z Z <| fa Z Z fa122_0 <| L_val Z (v_loadA Z ty36 HS CT) <| xo fc72 (A4 Z Z Z Z) Z (hD k Z _ _ _ p (kTell (kDec k) (kForget { s with rt := del s.rt i } i) (i, q.e.tag, q.e.op, r, v, false)) x.id (-9) 0 PC (Nat.le_trans hF3.2 hn2) hF3.1) fun _ => nx <| ag Z Z <| nq <| J_ret <| J_pick (A := coA p _) PC <| J_asTo (B := coA p (kDec (k + 1) s i r v)) (by rw [kDec, hq]; simp only [haf]; rw [if_pos ⟨h53, h56⟩]) ?_
  exact J_return (()) Tryz.results72 (.tmp Z .nil) Z SU
  refine J_skip <| qx <| ag Z Z <| nq <| J_ret <| J_pick (A := coA p _) PC <| J_asTo (B := coA p (kDec (k + 1) s i r v)) (by rw [kDec, hq]; simp only [haf]; rw [if_neg (by intro hc; simp_all)]) ?_
  exact J_return (()) Tryz.results72 (.tmp Z .nil) Z SU
  refine gz Z Z Z Z Z <| gz Z Z Z Z Z <| L_pur Z (p_pick_f Z Z) <| nq <| C_false Z <| J_skip <| qx <| ag Z Z <| nq <| J_ret <| J_pick (A := coA p _) PC <| J_asTo (B := coA p (kDec (k + 1) s i r v)) (by rw [kDec, hq]; simp only [haf]; rw [if_neg (by intro hc; simp_all)]) ?_
  exact J_return (()) Tryz.results72 (.tmp Z .nil) Z SU
  have haf : afterQ (kTell (kDec k) (kForget { s with rt := del s.rt i } i) (i, q.e.tag, q.e.op, r, v, false)).rt i = none := by
   cases hz : afterQ (kTell (kDec k) (kForget { s with rt := del s.rt i } i) (i, q.e.tag, q.e.op, r, v, false)).rt i with
   | none => rfl
   | some x => rw [hz] at h49; simp at h49
  refine gz Z Z Z Z Z <| gz Z Z Z Z Z <| L_pur Z (p_pick_f Z Z) <| mv Z Z <| gz Z Z Z Z Z <| gz Z Z Z Z Z <| L_pur Z (p_pick_f Z Z) <| nq <| C_false Z <| J_skip <| qx <| ag Z Z <| nq <| J_ret <| J_pick (A := coA p _) PC <| J_asTo (B := coA p (kDec (k + 1) s i r v)) (by rw [kDec, hq]; simp only [haf]) ?_
  exact J_return (()) Tryz.results72 (.tmp Z .nil) Z SU
  refine x_alloc ty122 Z fun b11 => i1 3 Z <| xc fc122 (A2 Z Z) Z (coRqAfter (s := (kTell (kDec k) (kForget { s with rt := del s.rt i } i) (i, q.e.tag, q.e.op, r, v, false))) (i := i) PC hF3.1.ids (by have := hF3.1.jn; have := hF3.1.mm; omega)) fun _ => ip 4 Z Z Z Z (p_move Z) <| ip 5 Z Z Z Z (p_extract Z Z) <| ip 6 Z Z Z Z (p_extract Z Z) <| i1 8 Z <| x_store Z Z ty122 Z SM SM RO PT <| ip 9 Z Z Z Z (p_assign Z) <| i0 <| qx <| mv Z Z <| mv Z Z <| J_gsplit (t := 49) Z (fun h49 => ?_) (fun h49 => ?_)
  obtain ⟨x, haf⟩ : ∃ x, afterQ (kTell (kDec k) (kForget { s with rt := del s.rt i } i) (i, q.e.tag, q.e.op, r, v, false)).rt i = some x := by
   cases hz : afterQ (kTell (kDec k) (kForget { s with rt := del s.rt i } i) (i, q.e.tag, q.e.op, r, v, false)).rt i with
   | none => rw [hz] at h49; simp at h49
   | some x => exact ⟨x, rfl⟩
  refine J_pick (A := blk b11 _ _) PC <| J_asTo (B := blk b11 122 (encQ x)) (by rw [haf]; rfl) <| gp Z Z Z (p_fieldAddr Z fa122_3) Z <| L_op <| G_on Z Z Z <| J_val (v_load Z ty4 HS (by exact rfl)) Z Z Z <| L_pur Z (p_pick_t Z Z) <| mv Z Z <| J_gsplit (t := 53) Z (fun h53 => ?_) (fun h53 => ?_)
  refine gp Z Z Z (p_move Z) Z <| gp Z Z Z (p_lss Z Z) Z <| L_pur Z (p_pick_t Z Z) <| nq <| C_dec Z (fun h56 => ?_) (fun h56 => ?_)
  refine J_region <| mv Z Z <| fa Z Z fa122_0 <| L_val Z (v_loadA Z ty36 HS CT) <| xo fc72 (A4 Z Z Z Z) Z (hD k Z _ _ _ p (kTell (kDec k) (kForget { s with rt := del s.rt i } i) (i, q.e.tag, q.e.op, r, v, false)) x.id (-9) 0 PC (Nat.le_trans hF3.2 hn2) hF3.1) fun _ => nx <| ag Z Z <| nq <| J_ret <| J_pick (A := coA p _) PC <| J_asTo (B := coA p (kDec (k + 1) s i r v)) (by rw [kDec, hq]; simp only [haf]; rw [if_pos ⟨h53, h56⟩]) ?_
  exact J_return (()) Tryz.results72 (.tmp Z .nil) Z SU
  refine J_skip <| qx <| ag Z Z <| nq <| J_ret <| J_pick (A := coA p _) PC <| J_asTo (B := coA p (kDec (k + 1) s i r v)) (by rw [kDec, hq]; simp only [haf]; rw [if_neg (by intro hc; simp_all)]) ?_
  exact J_return (()) Tryz.results72 (.tmp Z .nil) Z SU
  refine gz Z Z Z Z Z <| gz Z Z Z Z Z <| L_pur Z (p_pick_f Z Z) <| nq <| C_false Z <| J_skip <| qx <| ag Z Z <| nq <| J_ret <| J_pick (A := coA p _) PC <| J_asTo (B := coA p (kDec (k + 1) s i r v)) (by rw [kDec, hq]; simp only [haf]; rw [if_neg (by intro hc; simp_all)]) ?_
  exact J_return (()) Tryz.results72 (.tmp Z .nil) Z SU
  have haf : afterQ (kTell (kDec k) (kForget { s with rt := del s.rt i } i) (i, q.e.tag, q.e.op, r, v, false)).rt i = none := by
   cases hz : afterQ (kTell (kDec k) (kForget { s with rt := del s.rt i } i) (i, q.e.tag, q.e.op, r, v, false)).rt i with
   | none => rfl
   | some x => rw [hz] at h49; simp at h49
  refine gz Z Z Z Z Z <| gz Z Z Z Z Z <| L_pur Z (p_pick_f Z Z) <| mv Z Z <| gz Z Z Z Z Z <| gz Z Z Z Z Z <| L_pur Z (p_pick_f Z Z) <| nq <| C_false Z <| J_skip <| qx <| ag Z Z <| nq <| J_ret <| J_pick (A := coA p _) PC <| J_asTo (B := coA p (kDec (k + 1) s i r v)) (by rw [kDec, hq]; simp only [haf]) ?_
  exact J_return (()) Tryz.results72 (.tmp Z .nil) Z SU
  refine x_alloc ty122 Z fun b11 => i1 1 Z <| xc fc16 (A1 Z) Z (coReqs) fun _ => i1 3 Z <| xc fc122 (A2 Z Z) Z (coRqAfter (s := (kTell (kDec k) (kForget { s with rt := del s.rt i } i) (i, q.e.tag, q.e.op, r, v, false))) (i := i) PC hF3.1.ids (by have := hF3.1.jn; have := hF3.1.mm; omega)) fun _ => ip 4 Z Z Z Z (p_move Z) <| ip 5 Z Z Z Z (p_extract Z Z) <| ip 6 Z Z Z Z (p_extract Z Z) <| i1 8 Z <| x_store Z Z ty122 Z SM SM RO PT <| ip 9 Z Z Z Z (p_assign Z) <| i0 <| qx <| mv Z Z <| mv Z Z <| J_gsplit (t := 49) Z (fun h49 => ?_) (fun h49 => ?_)
  obtain ⟨x, haf⟩ : ∃ x, afterQ (kTell (kDec k) (kForget { s with rt := del s.rt i } i) (i, q.e.tag, q.e.op, r, v, false)).rt i = some x := by
   cases hz : afterQ (kTell (kDec k) (kForget { s with rt := del s.rt i } i) (i, q.e.tag, q.e.op, r, v, false)).rt i with
   | none => rw [hz] at h49; simp at h49
   | some x => exact ⟨x, rfl⟩
  refine J_pick (A := blk b11 _ _) PC <| J_asTo (B := blk b11 122 (encQ x)) (by rw [haf]; rfl) <| gp Z Z Z (p_fieldAddr Z fa122_3) Z <| L_op <| G_on Z Z Z <| J_val (v_load Z ty4 HS (by exact rfl)) Z Z Z <| L_pur Z (p_pick_t Z Z) <| mv Z Z <| J_gsplit (t := 53) Z (fun h53 => ?_) (fun h53 => ?_)
  refine gp Z Z Z (p_move Z) Z <| gp Z Z Z (p_lss Z Z) Z <| L_pur Z (p_pick_t Z Z) <| nq <| C_dec Z (fun h56 => ?_) (fun h56 => ?_)
  refine J_region <| mv Z Z <| fa Z Z fa122_0 <| L_val Z (v_loadA Z ty36 HS CT) <| xo fc72 (A4 Z Z Z Z) Z (hD k Z _ _ _ p (kTell (kDec k) (kForget { s with rt := del s.rt i } i) (i, q.e.tag, q.e.op, r, v, false)) x.id (-9) 0 PC (Nat.le_trans hF3.2 hn2) hF3.1) fun _ => nx <| ag Z Z <| nq <| J_ret <| J_pick (A := coA p _) PC <| J_asTo (B := coA p (kDec (k + 1) s i r v)) (by rw [kDec, hq]; simp only [haf]; rw [if_pos ⟨h53, h56⟩]) ?_
  exact J_return (()) Tryz.results72 (.tmp Z .nil) Z SU
  refine J_skip <| qx <| ag Z Z <| nq <| J_ret <| J_pick (A := coA p _) PC <| J_asTo (B := coA p (kDec (k + 1) s i r v)) (by rw [kDec, hq]; simp only [haf]; rw [if_neg (by intro hc; simp_all)]) ?_
  exact J_return (()) Tryz.results72 (.tmp Z .nil) Z SU
  refine gz Z Z Z Z Z <| gz Z Z Z Z Z <| L_pur Z (p_pick_f Z Z) <| nq <| C_false Z <| J_skip <| qx <| ag Z Z <| nq <| J_ret <| J_pick (A := coA p _) PC <| J_asTo (B := coA p (kDec (k + 1) s i r v)) (by rw [kDec, hq]; simp only [haf]; rw [if_neg (by intro hc; simp_all)]) ?_
  exact J_return (()) Tryz.results72 (.tmp Z .nil) Z SU
  have haf : afterQ (kTell (kDec k) (kForget { s with rt := del s.rt i } i) (i, q.e.tag, q.e.op, r, v, false)).rt i = none := by
   cases hz : afterQ (kTell (kDec k) (kForget { s with rt := del s.rt i } i) (i, q.e.tag, q.e.op, r, v, false)).rt i with
   | none => rfl
   | some x => rw [hz] at h49; simp at h49
  refine gz Z Z Z Z Z <| gz Z Z Z Z Z <| L_pur Z (p_pick_f Z Z) <| mv Z Z <| gz Z Z Z Z Z <| gz Z Z Z Z Z <| L_pur Z (p_pick_f Z Z) <| nq <| C_false Z <| J_skip <| qx <| ag Z Z <| nq <| J_ret <| J_pick (A := coA p _) PC <| J_asTo (B := coA p (kDec (k + 1) s i r v)) (by rw [kDec, hq]; simp only [haf]) ?_
  exact J_return (()) Tryz.results72 (.tmp Z .nil) Z SU
  refine x_alloc ty122 Z fun b9 => i1 1 Z <| xc fc16 (A1 Z) Z (coReqs) fun _ => i1 3 Z <| xc fc69 (A2 Z Z) Z (coRqGet (s := s) (i := i) PC) fun _ => ip 4 Z Z Z Z (p_move Z) <| ip 5 Z Z Z Z (p_extract Z Z) <| ip 6 Z Z Z Z (p_extract Z Z) <| i1 8 Z <| x_store Z Z ty122 Z SM SM RO PT <| ip 9 Z Z Z Z (p_assign Z) <| i0 <| Q_then <| J_seq <| sr <| mv Z Z <| L_pur Z (p_not Z) <| nq <| J_bool (t := 21) (c := false) Z (by rw [hq]; rfl) <| C_false Z <| J_skip <| Q_then <| J_seq <| J_drawL (some 3) mixed <| ip 0 Z Z Z Z (p_move Z) <| iv 2 Z Z Z Z (fun _ => v_loadA Z ty36 HS CT) <| i1 1 Z <| xc fc16 (A1 Z) Z (coReqs) fun _ => i1 3 Z <| xc fc119 (A2 Z Z) Z (coRqDrop (s := s) (i := i) PC) fun _ => i0 <| qx <| mv Z Z <| L_val Z (v_loadA Z ty36 HS CT) <| xo fc120 (A2 Z Z) Z (coForget (s := { s with rt := del s.rt i }) (i := i) PC hF1) fun _ => ?_
  refine nx <| mv Z Z <| L_val Z (v_loadA Z ty36 HS CT) <| fa Z Z fa122_1 <| fa Z Z fa34_2 <| L_val Z (v_load Z ty22 HS (by exact rfl)) <| fa Z Z fa122_1 <| fa Z Z fa34_0 <| L_val Z (v_load Z ty3 HS (by exact rfl)) <| mv Z Z <| mv Z Z <| L_pur Z (bld45 (.cons Z (.cons Z (.cons Z (.cons Z (.cons Z .nil))))) (by repeat constructor)) <| J_slot (t := 39) (v := .agg (encD (i, q.e.tag, q.e.op, r, v, false)).toArray) Z (by rw [hq]; rfl) <| xo fc121 (A2 Z Z) Z (coTell (s := (kForget { s with rt := del s.rt i } i)) (d := (i, q.e.tag, q.e.op, r, v, false)) PC (hD k Z) hn2 (hF1.forget i) hF.mm) fun _ => nq <| J_seq <| J_seq <| J_drawL none mixed <| ip 0 Z Z Z Z (p_move Z) <| iv 2 Z Z Z Z (fun _ => v_loadA Z ty36 HS CT) <| I_ready (rs := [1, 7]) SI (by kernel_rfl) (by simp) <| (I_cons Z ?_ (I_cons Z ?_ I_nil))
  refine xc fc16 (A1 Z) Z (coReqs) fun _ => I_ready (rs := [3, 7]) SI (by kernel_rfl) (by simp) <| (I_cons Z ?_ (I_cons Z ?_ I_nil))
  refine xc fc122 (A2 Z Z) Z (coRqAfter (s := (kTell (kDec k) (kForget { s with rt := del s.rt i } i) (i, q.e.tag, q.e.op, r, v, false))) (i := i) PC hF3.1.ids (by have := hF3.1.jn; have := hF3.1.mm; omega)) fun _ => ip 4 Z Z Z Z (p_move Z) <| ip 5 Z Z Z Z (p_extract Z Z) <| ip 6 Z Z Z Z (p_extract Z Z) <| i1 7 Z <| x_alloc ty122 Z fun b11 => i1 8 Z <| x_store Z Z ty122 Z SM SM RO PT <| ip 9 Z Z Z Z (p_assign Z) <| i0 <| qx <| mv Z Z <| mv Z Z <| J_gsplit (t := 49) Z (fun h49 => ?_) (fun h49 => ?_)
  obtain ⟨x, haf⟩ : ∃ x, afterQ (kTell (kDec k) (kForget { s with rt := del s.rt i } i) (i, q.e.tag, q.e.op, r, v, false)).rt i = some x := by
   cases hz : afterQ (kTell (kDec k) (kForget { s with rt := del s.rt i } i) (i, q.e.tag, q.e.op, r, v, false)).rt i with
   | none => rw [hz] at h49; simp at h49
   | some x => exact ⟨x, rfl⟩
  refine J_pick (A := blk b11 _ _) PC <| J_asTo (B := blk b11 122 (encQ x)) (by rw [haf]; rfl) <| gp Z Z Z (p_fieldAddr Z fa122_3) Z <| L_op <| G_on Z Z Z <| J_val (v_load Z ty4 HS (by exact rfl)) Z Z Z <| L_pur Z (p_pick_t Z Z) <| mv Z Z <| J_gsplit (t := 53) Z (fun h53 => ?_) (fun h53 => ?_)
  refine gp Z Z Z (p_move Z) Z <| gp Z Z Z (p_lss Z Z) Z <| L_pur Z (p_pick_t Z Z) <| nq <| C_dec Z (fun h56 => ?_) (fun h56 => ?_)
  refine J_region <| mv Z Z <| fa Z Z fa122_0 <| L_val Z (v_loadA Z ty36 HS CT) <| xo fc72 (A4 Z Z Z Z) Z (hD k Z _ _ _ p (kTell (kDec k) (kForget { s with rt := del s.rt i } i) (i, q.e.tag, q.e.op, r, v, false)) x.id (-9) 0 PC (Nat.le_trans hF3.2 hn2) hF3.1) fun _ => nx <| ag Z Z <| nq <| J_ret <| J_pick (A := coA p _) PC <| J_asTo (B := coA p (kDec (k + 1) s i r v)) (by rw [kDec, hq]; simp only [haf]; rw [if_pos ⟨h53, h56⟩]) ?_
  exact J_return (()) Tryz.results72 (.tmp Z .nil) Z SU
  refine J_skip <| qx <| ag Z Z <| nq <| J_ret <| J_pick (A := coA p _) PC <| J_asTo (B := coA p (kDec (k + 1) s i r v)) (by rw [kDec, hq]; simp only [haf]; rw [if_neg (by intro hc; simp_all)]) ?_
  exact J_return (()) Tryz.results72 (.tmp Z .nil) Z SU
  refine gz Z Z Z Z Z <| gz Z Z Z Z Z <| L_pur Z (p_pick_f Z Z) <| nq <| C_false Z <| J_skip <| qx <| ag Z Z <| nq <| J_ret <| J_pick (A := coA p _) PC <| J_asTo (B := coA p (kDec (k + 1) s i r v)) (by rw [kDec, hq]; simp only [haf]; rw [if_neg (by intro hc; simp_all)]) ?_
  exact J_return (()) Tryz.results72 (.tmp Z .nil) Z SU
  have haf : afterQ (kTell (kDec k) (kForget { s with rt := del s.rt i } i) (i, q.e.tag, q.e.op, r, v, false)).rt i = none := by
   cases hz : afterQ (kTell (kDec k) (kForget { s with rt := del s.rt i } i) (i, q.e.tag, q.e.op, r, v, false)).rt i with
   | none => rfl
   | some x => rw [hz] at h49; simp at h49
  refine gz Z Z Z Z Z <| gz Z Z Z Z Z <| L_pur Z (p_pick_f Z Z) <| mv Z Z <| gz Z Z Z Z Z <| gz Z Z Z Z Z <| L_pur Z (p_pick_f Z Z) <| nq <| C_false Z <| J_skip <| qx <| ag Z Z <| nq <| J_ret <| J_pick (A := coA p _) PC <| J_asTo (B := coA p (kDec (k + 1) s i r v)) (by rw [kDec, hq]; simp only [haf]) ?_
  exact J_return (()) Tryz.results72 (.tmp Z .nil) Z SU
  refine x_alloc ty122 Z fun b11 => i1 3 Z <| xc fc122 (A2 Z Z) Z (coRqAfter (s := (kTell (kDec k) (kForget { s with rt := del s.rt i } i) (i, q.e.tag, q.e.op, r, v, false))) (i := i) PC hF3.1.ids (by have := hF3.1.jn; have := hF3.1.mm; omega)) fun _ => ip 4 Z Z Z Z (p_move Z) <| ip 5 Z Z Z Z (p_extract Z Z) <| ip 6 Z Z Z Z (p_extract Z Z) <| i1 8 Z <| x_store Z Z ty122 Z SM SM RO PT <| ip 9 Z Z Z Z (p_assign Z) <| i0 <| qx <| mv Z Z <| mv Z Z <| J_gsplit (t := 49) Z (fun h49 => ?_) (fun h49 => ?_)
  obtain ⟨x, haf⟩ : ∃ x, afterQ (kTell (kDec k) (kForget { s with rt := del s.rt i } i) (i, q.e.tag, q.e.op, r, v, false)).rt i = some x := by
   cases hz : afterQ (kTell (kDec k) (kForget { s with rt := del s.rt i } i) (i, q.e.tag, q.e.op, r, v, false)).rt i with
   | none => rw [hz] at h49; simp at h49
   | some x => exact ⟨x, rfl⟩
  refine J_pick (A := blk b11 _ _) PC <| J_asTo (B := blk b11 122 (encQ x)) (by rw [haf]; rfl) <| gp Z Z Z (p_fieldAddr Z fa122_3) Z <| L_op <| G_on Z Z Z <| J_val (v_load Z ty4 HS (by exact rfl)) Z Z Z <| L_pur Z (p_pick_t Z Z) <| mv Z Z <| J_gsplit (t := 53) Z (fun h53 => ?_) (fun h53 => ?_)
  refine gp Z Z Z (p_move Z) Z <| gp Z Z Z (p_lss Z Z) Z <| L_pur Z (p_pick_t Z Z) <| nq <| C_dec Z (fun h56 => ?_) (fun h56 => ?_)
  refine J_region <| mv Z Z <| fa Z Z fa122_0 <| L_val Z (v_loadA Z ty36 HS CT) <| xo fc72 (A4 Z Z Z Z) Z (hD k Z _ _ _ p (kTell (kDec k) (kForget { s with rt := del s.rt i } i) (i, q.e.tag, q.e.op, r, v, false)) x.id (-9) 0 PC (Nat.le_trans hF3.2 hn2) hF3.1) fun _ => nx <| ag Z Z <| nq <| J_ret <| J_pick (A := coA p _) PC <| J_asTo (B := coA p (kDec (k + 1) s i r v)) (by rw [kDec, hq]; simp only [haf]; rw [if_pos ⟨h53, h56⟩]) ?_
  exact J_return (()) Tryz.results72 (.tmp Z .nil) Z SU
  refine J_skip <| qx <| ag Z Z <| nq <| J_ret <| J_pick (A := coA p _) PC <| J_asTo (B := coA p (kDec (k + 1) s i r v)) (by rw [kDec, hq]; simp only [haf]; rw [if_neg (by intro hc; simp_all)]) ?_
  exact J_return (()) Tryz.results72 (.tmp Z .nil) Z SU
  refine gz Z Z Z Z Z <| gz Z Z Z Z Z <| L_pur Z (p_pick_f Z Z) <| nq <| C_false Z <| J_skip <| qx <| ag Z Z <| nq <| J_ret <| J_pick (A := coA p _) PC <| J_asTo (B := coA p (kDec (k + 1) s i r v)) (by rw [kDec, hq]; simp only [haf]; rw [if_neg (by intro hc; simp_all)]) ?_
  exact J_return (()) Tryz.results72 (.tmp Z .nil) Z SU
  have haf : afterQ (kTell (kDec k) (kForget { s with rt := del s.rt i } i) (i, q.e.tag, q.e.op, r, v, false)).rt i = none := by
   cases hz : afterQ (kTell (kDec k) (kForget { s with rt := del s.rt i } i) (i, q.e.tag, q.e.op, r, v, false)).rt i with
   | none => rfl
   | some x => rw [hz] at h49; simp at h49
  refine gz Z Z Z Z Z <| gz Z Z Z Z Z <| L_pur Z (p_pick_f Z Z) <| mv Z Z <| gz Z Z Z Z Z <| gz Z Z Z Z Z <| L_pur Z (p_pick_f Z Z) <| nq <| C_false Z <| J_skip <| qx <| ag Z Z <| nq <| J_ret <| J_pick (A := coA p _) PC <| J_asTo (B := coA p (kDec (k + 1) s i r v)) (by rw [kDec, hq]; simp only [haf]) ?_
  exact J_return (()) Tryz.results72 (.tmp Z .nil) Z SU
  refine x_alloc ty122 Z fun b11 => i1 1 Z <| xc fc16 (A1 Z) Z (coReqs) fun _ => i1 3 Z <| xc fc122 (A2 Z Z) Z (coRqAfter (s := (kTell (kDec k) (kForget { s with rt := del s.rt i } i) (i, q.e.tag, q.e.op, r, v, false))) (i := i) PC hF3.1.ids (by have := hF3.1.jn; have := hF3.1.mm; omega)) fun _ => ip 4 Z Z Z Z (p_move Z) <| ip 5 Z Z Z Z (p_extract Z Z) <| ip 6 Z Z Z Z (p_extract Z Z) <| i1 8 Z <| x_store Z Z ty122 Z SM SM RO PT <| ip 9 Z Z Z Z (p_assign Z) <| i0 <| qx <| mv Z Z <| mv Z Z <| J_gsplit (t := 49) Z (fun h49 => ?_) (fun h49 => ?_)
  obtain ⟨x, haf⟩ : ∃ x, afterQ (kTell (kDec k) (kForget { s with rt := del s.rt i } i) (i, q.e.tag, q.e.op, r, v, false)).rt i = some x := by
   cases hz : afterQ (kTell (kDec k) (kForget { s with rt := del s.rt i } i) (i, q.e.tag, q.e.op, r, v, false)).rt i with
   | none => rw [hz] at h49; simp at h49
   | some x => exact ⟨x, rfl⟩
  refine J_pick (A := blk b11 _ _) PC <| J_asTo (B := blk b11 122 (encQ x)) (by rw [haf]; rfl) <| gp Z Z Z (p_fieldAddr Z fa122_3) Z <| L_op <| G_on Z Z Z <| J_val (v_load Z ty4 HS (by exact rfl)) Z Z Z <| L_pur Z (p_pick_t Z Z) <| mv Z Z <| J_gsplit (t := 53) Z (fun h53 => ?_) (fun h53 => ?_)
  refine gp Z Z Z (p_move Z) Z <| gp Z Z Z (p_lss Z Z) Z <| L_pur Z (p_pick_t Z Z) <| nq <| C_dec Z (fun h56 => ?_) (fun h56 => ?_)
  refine J_region <| mv Z Z <| fa Z Z fa122_0 <| L_val Z (v_loadA Z ty36 HS CT) <| xo fc72 (A4 Z Z Z Z) Z (hD k Z _ _ _ p (kTell (kDec k) (kForget { s with rt := del s.rt i } i) (i, q.e.tag, q.e.op, r, v, false)) x.id (-9) 0 PC (Nat.le_trans hF3.2 hn2) hF3.1) fun _ => nx <| ag Z Z <| nq <| J_ret <| J_pick (A := coA p _) PC <| J_asTo (B := coA p (kDec (k + 1) s i r v)) (by rw [kDec, hq]; simp only [haf]; rw [if_pos ⟨h53, h56⟩]) ?_
  exact J_return (()) Tryz.results72 (.tmp Z .nil) Z SU
  refine J_skip <| qx <| ag Z Z <| nq <| J_ret <| J_pick (A := coA p _) PC <| J_asTo (B := coA p (kDec (k + 1) s i r v)) (by rw [kDec, hq]; simp only [haf]; rw [if_neg (by intro hc; simp_all)]) ?_
  exact J_return (()) Tryz.results72 (.tmp Z .nil) Z SU
  refine gz Z Z Z Z Z <| gz Z Z Z Z Z <| L_pur Z (p_pick_f Z Z) <| nq <| C_false Z <| J_skip <| qx <| ag Z Z <| nq <| J_ret <| J_pick (A := coA p _) PC <| J_asTo (B := coA p (kDec (k + 1) s i r v)) (by rw [kDec, hq]; simp only [haf]; rw [if_neg (by intro hc; simp_all)]) ?_
  exact J_return (()) Tryz.results72 (.tmp Z .nil) Z SU
  have haf : afterQ (kTell (kDec k) (kForget { s with rt := del s.rt i } i) (i, q.e.tag, q.e.op, r, v, false)).rt i = none := by
   cases hz : afterQ (kTell (kDec k) (kForget { s with rt := del s.rt i } i) (i, q.e.tag, q.e.op, r, v, false)).rt i with
   | none => rfl
   | some x => rw [hz] at h49; simp at h49
  refine gz Z Z Z Z Z <| gz Z Z Z Z Z <| L_pur Z (p_pick_f Z Z) <| mv Z Z <| gz Z Z Z Z Z <| gz Z Z Z Z Z <| L_pur Z (p_pick_f Z Z) <| nq <| C_false Z <| J_skip <| qx <| ag Z Z <| nq <| J_ret <| J_pick (A := coA p _) PC <| J_asTo (B := coA p (kDec (k + 1) s i r v)) (by rw [kDec, hq]; simp only [haf]) ?_
  exact J_return (()) Tryz.results72 (.tmp Z .nil) Z SU
theorem decC : ∀ n N M, DecC n N M
  | 0, N, M => fun E l m p s i r v hp hn hF => coDecStep hp (fun k h => by cases h) hn hF
  | n + 1, N, M => fun E l m p s i r v hp hn hF => coDecStep hp (fun k h => by cases h; exact decC n N M) hn hF
theorem coDecide (hp : Pick (coA p s) l m) {r v : Int} (hF : Fits s N M) : Con Tryz.prog 72 #[.pointer (some ⟨p, 0, none⟩), .agg (encI i).toArray, .int .i64 r, .int .u32 v] E l (fun _ : Unit => .bool (look s.rt i).isSome) (fun _ => coA p (kDec s.rt.length s i r v) :: m) := decC s.rt.length N M E l m p s i r v hp (Nat.le_refl _) hF
/-! ### plain: a ring that has room -/
def Rdy (s : KS) (g c t : Int) : Prop := ∃ b r, look s.rg g = some (b, r) ∧ r.over = [] ∧ r.tail = t ∧ r.cb = 4 ∧ r.cq = c ∧ getN (rowAt s.mem c) 0 4 = 0
theorem getN_far (h : 4 ≤ a) (hl : a ≤ bs.length) : getN (putB bs a ys) 0 4 = getN bs 0 4 := by
  have e : ∀ k, k < 4 → byteAt (putB bs a ys) (0 + k) = byteAt bs (0 + k) := fun k hk => by
    unfold byteAt putB
    rw [List.append_assoc, List.getElem?_append_left (by simp; omega), List.getElem?_take_of_lt (by omega)]
  simp only [getN, e 0 (by omega), e 1 (by omega), e 2 (by omega), e 3 (by omega)]
theorem getN_row (hr : RgOk r) (hM : MemOk ms) (c : Cqe) : getN (rgRow r ms c) 0 4 = getN (rowAt ms r.cq) 0 4 := by
  obtain ⟨h1, h2, h3⟩ := hM.at hr.cq
  have h4 := place_in hr
  unfold rgRow
  rw [getN_far (by omega) (by rw [putB_len (by rw [bytesX_len]; omega), h2]; omega), getN_far (by omega) (by rw [h2]; omega)]
theorem rowAt_set {c : Int} {x : List Int} (hu : 1 ≤ u ∧ u ≤ 64) (hc : 1 ≤ c) (hl : ms.length = 64) : rowAt (ms.set (u - 1).toNat x) c = if c = u then x else rowAt ms c := by
  unfold rowAt
  by_cases h : c = u
  · subst h; rw [if_pos rfl, List.getElem?_set_self (by omega)]; rfl
  · rw [if_neg h, List.getElem?_set_ne (by omega)]
variable {t : Int}
theorem rdy_ok (h1 : r.over = []) (h2 : r.tail = t) (h3 : r.cb = 4) (h4 : getN (rowAt ms r.cq) 0 4 = 0) (ht : 0 ≤ t ∧ t < 16) : postOk r ms = true := by
  unfold postOk rgWrOk rgFar
  rw [h1, h2, h3, h4, Int.sub_zero, wrap32u_of (by omega)]
  simp only [List.isEmpty_nil, Bool.true_and, decide_eq_true_eq]
  show t < 2 ^ 4
  omega
theorem look_updO {α : Type} {u g : Int} {f : α → α} : ∀ {xs : List (Int × Nat × α)}, look (updO xs u f) g = (look xs g).map fun x => if g = u then (x.1, f x.2) else x
  | [] => rfl
  | x :: xs => by
    unfold updO
    rw [List.map_cons, look_cons, look_cons, show List.map _ xs = updO xs u f from rfl, look_updO]
    by_cases hx : x.1 = u
    · rw [if_pos hx]
      by_cases hg : x.1 = g
      · simp [hg, hg ▸ hx]
      · simp [hg]
    · rw [if_neg hx]
      by_cases hg : x.1 = g
      · have : ¬ g = u := fun e => hx (hg.trans e)
        simp [hg, this]
      · simp [hg]
theorem kPost_some (h : look s.rg d.1.1 = some (b, r)) : kPost s d = { s with rg := updO s.rg d.1.1 (fun r => postR r s.mem (ofD d)), mem := postM r s.mem (ofD d) } := by
  unfold kPost; rw [h]
theorem kPost_rg (h : look s.rg d.1.1 = some (b, r)) : (kPost s d).rg = updO s.rg d.1.1 (fun r => postR r s.mem (ofD d)) := by rw [kPost_some h]
theorem Rdy.post (hF : Fits s N M) {c : Int} (h : Rdy s g c t) (ht : 0 ≤ t ∧ t < 16) (hd : d.1.1 = g) : Rdy (kPost s d) g c (t + 1) := by
  subst hd
  obtain ⟨b, r, h1, h2, h3, h4, h5, h6⟩ := h
  have hro := (hF.rg _ (mem_look h1)).1
  have hr : RgOk r := hro
  have hok := rdy_ok (ms := s.mem) h2 h3 h4 (by rw [h5]; exact h6) ht
  refine ⟨b, rgUp r, ?_, h2, ?_, h4, h5, ?_⟩
  · rw [kPost_rg h1, look_updO, h1]
    simp [postR, hok]
  · show IntKind.u32.wrap (r.tail + 1) = _
    rw [h3, wrap32u_of (by omega)]
  · rw [kPost_some h1]
    show getN (rowAt (postM r s.mem (ofD d)) c) 0 4 = 0
    unfold postM
    rw [hok, if_pos rfl, ← h5, rowAt_set hr.cq hr.cq.1 hF.mem.len, if_pos rfl, getN_row hr hF.mem, h5, h6]
theorem Rdy.other (hF : Fits s N M) {c g2 c2 t2 : Int} (h : Rdy s g c t) (h2 : Rdy s g2 c2 t2) (hg : g ≠ g2) (hc : c ≠ c2) (hd : d.1.1 = g2) : Rdy (kPost s d) g c t := by
  subst hd
  obtain ⟨b, r, h1, e2, e3, e4, e5, e6⟩ := h
  obtain ⟨b2, r2, k1, _, _, _, k5, _⟩ := h2
  have hr : RgOk r := (hF.rg _ (mem_look h1)).1
  have hr2 : RgOk r2 := (hF.rg _ (mem_look k1)).1
  refine ⟨b, r, ?_, e2, e3, e4, e5, ?_⟩
  · rw [kPost_rg k1, look_updO, h1]
    simp [hg]
  · rw [kPost_some k1]
    show getN (rowAt (postM r2 s.mem (ofD d)) c) 0 4 = 0
    unfold postM
    split
    · rw [rowAt_set hr2.cq (by have := hr.cq; omega) hF.mem.len, if_neg (by rw [k5]; exact hc)]; exact e6
    · exact e6
def kNext (D : KS → ID → Int → Int → KS) (s : KS) (i : ID) (r : Int) : KS := match afterQ s.rt i with
  | none => s
  | some x => if x.soft = true ∧ r < 0 then D s x.id (-9) 0 else s
theorem kDec_some {n : Nat} {r v : Int} {q : Rq} (hq : look s.rt i = some q) : kDec (n + 1) s i r v = kNext (kDec n) (kTell (kDec n) (kForget { s with rt := del s.rt i } i) (i, q.e.tag, q.e.op, r, v, false)) i r := by
  rw [kDec, hq]
  simp only []
  generalize kTell (kDec n) (kForget { s with rt := del s.rt i } i) (i, q.e.tag, q.e.op, r, v, false) = t
  unfold kNext
  cases afterQ t.rt i <;> rfl
/-! ### plain: a row of requests, each on the one ahead -/
section
variable {soft : List Bool} {a j n : Nat}
end
end Go.Pse
namespace Go.Pse
open Go.RowKit Go.ChangeShapes Go.WideShapes Go.Deep
inductive Leaf where
  | int (k : IntKind)
  | bool
def Leaf.ok : Leaf → Value → Prop
  | .int k, v => ∃ n, v = .int k n ∧ k.min ≤ n ∧ n ≤ k.max
  | .bool, v => ∃ b, v = .bool b
def Shape : List Leaf → List Value → Prop
  | [], [] => True
  | k :: ks, v :: vs => k.ok v ∧ Shape ks vs
  | _, _ => False
def leafFs (P : Program) (lv : TypeId → Option (List Leaf)) : List Field → Nat → Option (List Leaf)
  | [], _ => some []
  | f :: fs, o => match lv f.type with
    | some ks => if f.offset = o ∧ P.cellsOf f.type = ks.length then (match leafFs P lv fs (o + ks.length) with
      | some r => some (ks ++ r)
      | none => none) else none
    | none => none
def leaves (P : Program) : Nat → TypeId → Option (List Leaf)
  | 0, _ => none
  | n + 1, t => match P.underlying t with
    | some (.int k) => some [.int k]
    | some .bool => some [.bool]
    | some (.struct fs) => leafFs P (leaves P n) fs.toList 0
    | _ => none
theorem Shape.nil_inv {vs : List Value} (h : Shape [] vs) : vs = [] := by
  cases vs with
  | nil => rfl
  | cons v vs => exact h.elim
theorem Shape.cons_inv {k : Leaf} {ks : List Leaf} {vs : List Value} (h : Shape (k :: ks) vs) : ∃ v vs', vs = v :: vs' ∧ k.ok v ∧ Shape ks vs' := by
  cases vs with
  | nil => exact h.elim
  | cons v vs => exact ⟨v, vs, rfl, h.1, h.2⟩
theorem Shape.length : ∀ {ks : List Leaf} {vs : List Value}, Shape ks vs → vs.length = ks.length
  | [], vs, h => by rw [h.nil_inv]; rfl
  | _ :: _, _, h => by obtain ⟨v, vs', rfl, _, h'⟩ := h.cons_inv; simp [h'.length]
theorem Shape.append : ∀ {ks ks' : List Leaf} {vs vs' : List Value}, Shape ks vs → Shape ks' vs' → Shape (ks ++ ks') (vs ++ vs')
  | [], _, vs, _, h, h' => by rw [h.nil_inv]; exact h'
  | _ :: _, _, _, _, h, h' => by obtain ⟨v, ws, rfl, hv, h2⟩ := h.cons_inv; exact ⟨hv, h2.append h'⟩
theorem Shape.ones : ∀ {ks : List Leaf} {vs : List Value}, Shape ks vs → ones vs = true
  | [], vs, h => by rw [h.nil_inv]; rfl
  | k :: _, _, h => by
    obtain ⟨v, ws, rfl, hv, h2⟩ := h.cons_inv
    have h3 : v.oneCell' = true := by
      cases k with
      | int k => obtain ⟨n, rfl, _⟩ := hv; rfl
      | bool => obtain ⟨b, rfl⟩ := hv; rfl
    have h4 := h2.ones
    unfold Pse.ones at h4 ⊢
    simp [h3, h4]
section
variable {H : Type} {enc : TypeId × Value → H} {P : Program} {W : World} {base b0 : Nat} {spare : Nat → Bool} {held : Bool}
end
end Go.Pse
namespace Go.Pse
open Go.RowKit Go.Proofs
theorem zrow_ok : MemOk (List.replicate 64 zrow) := ⟨List.length_replicate, fun r hr => by
  rw [List.eq_of_mem_replicate hr]
  exact ⟨List.length_replicate, fun x hx => by rw [List.eq_of_mem_replicate hx]; omega⟩⟩
structure One (K : KS) (cs cc : Int) (g : NewG) : Prop where
  rt : K.rt = []
  jn : K.jn = []
  nt : K.nt = []
  rg : K.rg = [(4, (g.bs 0).1, rgNew 5 6 cs cc)]
  mem : K.mem = List.replicate 64 zrow
  fit : Fits K 20 40
theorem one_is (g : NewG) : One (kNew 1 1 0 0 false g) 0 0 g ∧ One (kNew 1 1 3 4 false g) 3 4 g := by
  have hrg : ∀ cs cc : Int, 0 ≤ cc ∧ cc ≤ 4 → RgOk (rgNew 5 6 cs cc) := fun cs cc _ => rgNew_is ⟨by omega, by omega⟩ ⟨by omega, by omega⟩
  constructor
  · exact ⟨rfl, rfl, rfl, rfl, rfl, ⟨by omega, by omega, Ids.nil, by show 0 ≤ 40; omega, by show 0 ≤ 20; omega, fun x hx => (by cases hx), fun x hx => (by cases hx), fun x hx => by
      obtain rfl := List.mem_singleton.1 (show x ∈ [(7, (g.bs 0).2, (0, 0), false)] from hx)
      exact ⟨by show (1 : Int) ≤ 7; omega, by show (7 : Int) ≤ 64; omega⟩, fun x hx => by
      obtain rfl := List.mem_singleton.1 (show x ∈ [(4, (g.bs 0).1, rgNew 5 6 0 0)] from hx)
      exact ⟨hrg 0 0 (by omega), by show 0 ≤ 40; omega⟩, zrow_ok⟩⟩
  · exact ⟨rfl, rfl, rfl, rfl, rfl, ⟨by omega, by omega, Ids.nil, by show 0 ≤ 40; omega, by show 0 ≤ 20; omega, fun x hx => (by cases hx), fun x hx => (by cases hx), fun x hx => by
      obtain rfl := List.mem_singleton.1 (show x ∈ [(7, (g.bs 0).2, (0, 0), false)] from hx)
      exact ⟨by show (1 : Int) ≤ 7; omega, by show (7 : Int) ≤ 64; omega⟩, fun x hx => by
      obtain rfl := List.mem_singleton.1 (show x ∈ [(4, (g.bs 0).1, rgNew 5 6 3 4)] from hx)
      exact ⟨hrg 3 4 (by omega), by show 0 ≤ 40; omega⟩, zrow_ok⟩⟩
variable {ps : List (ID × Rq)}
theorem One.fits {K : KS} {cs cc : Int} {g : NewG} (h : One K cs cc g) (hI : Ids ps) (hl : ps.length ≤ 12) : Fits { K with rt := ps } 20 60 :=
  ⟨h.fit.n, by omega, hI, by show K.jn.length + ps.length ≤ 60; rw [h.jn]; simp; omega, h.fit.tm, h.fit.ep, h.fit.nt, h.fit.rp, fun x hx => by
    have := h.fit.rg x hx
    exact ⟨this.1, by have := this.2; rw [h.rt] at this; simp at this; show _ + ps.length ≤ 60; omega⟩, h.fit.mem⟩
theorem ofQ_nil (g : Int) : ofQ [] g = [] := List.length_eq_zero_iff.1 (Nat.le_zero.1 (ofQ_len [] g))
def ntW (i : ID) (a : Int × List ID) : Int × List ID := (0, waitL a.1 a.2 i)
variable {E : World} {l m : List As} {p b : Nat} {s : KS} {u w0 : Int} {xs : List ID} {i : ID}
theorem coNtWait (hp : Pick (coA p s) l m) (hl : look s.nt u = some (b, w0, xs)) (hb : xs.length ≤ 100000) :
  Con Tryz.prog 229 #[.pointer (some ⟨b, 0, none⟩), .agg (encI i).toArray] E l (fun _ : Unit => .tuple #[.int .u32 w0, .bool (!decide (w0 = 0))]) (fun _ => coA p { s with nt := updO s.nt u (ntW i) } :: m) := by
 refine J_con0 ?_
 obtain ⟨j, hj⟩ := look_ix hl
 have hjl := (List.getElem?_eq_some_iff.1 hj).1
 refine J_pick hp <| J_coO fun bn be br bg bt bs bp bl bk _ => J_keyd (ps := ptrs s.nt) HS fun hK => J_pick (A := each ntF s.nt) PC <| J_eachOut hj ?_
 skip
 refine J_asTo (B := ntA b 0 w0 xs) (by rfl) <| J_con (ntWait (w := w0) (xs := xs) (i := i) PC hb) fun x => J_pick (A := ntA b 0 0 (waitL w0 xs i)) PC <| J_asTo (B := ntF (u, b, ((ntW i)) (w0, xs))) (by rfl) <| J_pick (A := each ntF _) PC <| J_pick (A := ntF (u, b, _)) PC <| J_eachIn (u, b, ((ntW i)) (w0, xs)) hjl ?_
 skip
 refine J_asTo (B := each ntF (updO s.nt u (ntW i))) (by rw [updO_set hK hj]) <| J_pick (A := mapV kZ evA (.map (some bn)) (ptrs s.nt)) PC <| J_mapEq (qs := ptrs (updO s.nt u (ntW i))) ptrs_updO.symm <| J_coS (p := p) (s := { s with nt := updO s.nt u (ntW i) }) bn be br bg bt bs bp bl bk PX trivial ?_
 exact J_end SU
/-! ### plain: two threads that share; the first ring's requests -/
structure Duo (K : KS) (g : NewG) : Prop where
  rt : K.rt = []
  jn : K.jn = []
  tm : K.tm = []
  nt : K.nt = [(22, g.bn, 0, [])]
  ep : K.ep = [(21, g.be, [], [])]
  rp : K.rp = [(7, (g.bs 0).2, (0, 0), false), (17, (g.bs 1).2, (0, 0), false)]
  rg : K.rg = [(4, (g.bs 0).1, rgNew 5 6 3 4), (14, (g.bs 1).1, rgNew 15 16 3 4)]
  be4 : look K.be 4 = some (22, 1)
  be14 : look K.be 14 = some (22, 2)
  mem : K.mem = List.replicate 64 zrow
  fit : Fits K 20 40
theorem rgNew_ok {a : Int} (h : 1 ≤ a ∧ a ≤ 63) : RgOk (rgNew a (a + 1) 3 4) := rgNew_is ⟨by omega, by omega⟩ ⟨by omega, by omega⟩
theorem Duo.fits {K : KS} {g : NewG} (h : Duo K g) (hI : Ids ps) (hl : ps.length ≤ 13) : Fits { K with rt := ps } 20 60 :=
  ⟨h.fit.n, by omega, hI, by show K.jn.length + ps.length ≤ 60; rw [h.jn]; simp; omega, h.fit.tm, h.fit.ep, h.fit.nt, h.fit.rp, fun x hx => by
    have := h.fit.rg x hx
    exact ⟨this.1, by have := this.2; rw [h.rt] at this; simp at this; show _ + ps.length ≤ 60; omega⟩, h.fit.mem⟩
/-! ### plain: deadlines -/
def cmpI (a b : Int) : Int := if a < b then -1 else if b < a then 1 else 0
def orI (zs : List Int) : Int := (zs.find? fun z => !decide (z = 0)).getD 0
def ordT (a b : Tm) : Int := orI [cmpI a.1 b.1, cmpI a.2.1 b.2.1, cmpI a.2.2 b.2.2]
def ltI (a b : ID) : Bool := decide (a.1 < b.1) || decide (a.1 = b.1) && decide (a.2 < b.2)
def ltT (a b : Tm) : Bool := decide (a.1 < b.1) || decide (a.1 = b.1) && ltI a.2 b.2
theorem ltT_iff {a b : Tm} : ltT a b = true ↔ a.1 < b.1 ∨ (a.1 = b.1 ∧ (a.2.1 < b.2.1 ∨ (a.2.1 = b.2.1 ∧ a.2.2 < b.2.2))) := by
  unfold ltT ltI; simp
theorem ltT_trans {a b c : Tm} (h1 : ltT a b = true) (h2 : ltT b c = true) : ltT a c = true := by
  rw [ltT_iff] at *; omega
theorem ltT_total {a b : Tm} (h : ltT a b = false) (hne : a.2 ≠ b.2) : ltT b a = true := by
  have h' : ¬ ltT a b = true := by simp [h]
  rw [ltT_iff] at *
  have : ¬ (a.2.1 = b.2.1 ∧ a.2.2 = b.2.2) := fun e => hne (Prod.ext e.1 e.2)
  omega
abbrev hdrop (xs : List Tm) (i : ID) : List Tm := xs.filter fun c => !isTm i c
def place (xs : List Tm) (x : Tm) : Nat := (xs.takeWhile fun c => ltT c x).length
def putT (xs : List Tm) (x : Tm) : List Tm := xs.take (place xs x) ++ x :: xs.drop (place xs x)
def hpush (xs : List Tm) (x : Tm) : List Tm := putT (hdrop xs x.2) x
def Srt (xs : List Tm) : Prop := xs.Pairwise fun a b => ltT a b = true
theorem place_le (xs : List Tm) (x : Tm) : place xs x ≤ xs.length := by
  unfold place
  induction xs with
  | nil => simp
  | cons c xs ih => rw [List.takeWhile_cons]; split <;> simp <;> omega
theorem place_iff {x : Tm} : ∀ {xs : List Tm}, Srt xs → ∀ {j : Nat} {c : Tm}, xs[j]? = some c → (ltT c x = true ↔ j < place xs x)
  | [], _, _, _, h => by simp at h
  | a :: xs, hs, j, c, h => by
    have hs' := List.pairwise_cons.1 hs
    unfold place
    rw [List.takeWhile_cons]
    by_cases ha : ltT a x = true
    · rw [if_pos ha]
      cases j with
      | zero => simp at h; subst h; simp [ha]
      | succ j =>
        have := place_iff (x := x) hs'.2 (j := j) (c := c) (by simpa using h)
        unfold place at this
        rw [this]
        simp
    · rw [if_neg ha]
      cases j with
      | zero => simp at h; subst h; simp [ha]
      | succ j =>
        have hc : c ∈ xs := List.mem_of_getElem? (by simpa using h : xs[j]? = some c)
        have h1 := hs'.1 c hc
        constructor
        · intro h2; exact absurd (ltT_trans h1 h2) ha
        · intro h2; simp at h2
theorem Srt.drop {xs : List Tm} (h : Srt xs) (i : ID) : Srt (hdrop xs i) := List.Pairwise.sublist List.filter_sublist h
theorem Srt.tail {xs : List Tm} (h : Srt xs) (j : Nat) : Srt (xs.drop j) := List.Pairwise.sublist (List.drop_sublist j xs) h
theorem hdrop_ne {xs : List Tm} {c : Tm} (h : c ∈ hdrop xs i) : c.2 ≠ i := by
  unfold hdrop at h
  rw [List.mem_filter, isTm_eq] at h
  simpa using h.2
theorem Srt.put {xs : List Tm} {x : Tm} (h : Srt xs) (hne : ∀ c ∈ xs, c.2 ≠ x.2) : Srt (putT xs x) := by
  have hi := fun {j : Nat} {c : Tm} => place_iff (x := x) h (j := j) (c := c)
  unfold putT Srt
  have hle := place_le xs x
  have hta : ∀ a ∈ xs.take (place xs x), ltT a x = true := fun a ha => by
    obtain ⟨j, hj⟩ := List.mem_iff_getElem?.1 ha
    rw [List.getElem?_take] at hj
    split at hj
    · exact (hi hj).2 (by assumption)
    · cases hj
  have hdr : ∀ b ∈ xs.drop (place xs x), ltT x b = true := fun b hb => by
    obtain ⟨j, hj⟩ := List.mem_iff_getElem?.1 hb
    rw [List.getElem?_drop] at hj
    have hn : ¬ ltT b x = true := fun e => by have := (hi hj).1 e; omega
    exact ltT_total (by simpa using hn) (hne b (List.mem_of_getElem? hj))
  rw [List.pairwise_append]
  refine ⟨List.Pairwise.sublist (List.take_sublist _ _) h, ?_, ?_⟩
  · rw [List.pairwise_cons]
    exact ⟨hdr, List.Pairwise.sublist (List.drop_sublist _ _) h⟩
  · intro a ha b hb
    rcases List.mem_cons.1 hb with rfl | hb
    · exact hta a ha
    · exact ltT_trans (hta a ha) (hdr b hb)
theorem Srt.push {xs : List Tm} (h : Srt xs) (x : Tm) : Srt (hpush xs x) := (h.drop x.2).put fun _ hc => hdrop_ne hc
theorem hdrop_len (xs : List Tm) (i : ID) : (hdrop xs i).length ≤ xs.length := List.length_filter_le _ _
def due (xs : List Tm) (now : Int) : List Tm := xs.takeWhile fun c => decide (c.1 ≤ now)
theorem isnan307 (a : Int) :
    Con Tryz.prog 307 #[.int .u64 a] E l (fun _ : Unit => .bool false) (fun _ => l) := by
  refine Con.body (n := 6) Tryz.func307 Z Z _ (env_ok 1 Z) <| sr <| ag Z Z <| nx <| mv Z Z <| mv Z Z <| L_pur Z (p_neq Z Z) <| ag Z Z <| nq <| J_ret <| J_return (()) Tryz.results307 (.tmp Z .nil) ?_ ?_
  · simp [one]
  · exact SU
theorem isnan125 (a : Int) :
    Con Tryz.prog 125 #[.int .i64 a] E l (fun _ : Unit => .bool false) (fun _ => l) := by
  refine Con.body (n := 6) Tryz.func125 Z Z _ (env_ok 1 Z) <| sr <| ag Z Z <| nx <| mv Z Z <| mv Z Z <| L_pur Z (p_neq Z Z) <| ag Z Z <| nq <| J_ret <| J_return (()) Tryz.results125 (.tmp Z .nil) ?_ ?_
  · simp [one]
  · exact SU
theorem compare266 (a b : Int) :
    Con Tryz.prog 266 #[.int .u64 a, .int .u64 b] E l (fun _ : Unit => .int .i64 (cmpI a b)) (fun _ => l) := by
  refine Con.body (n := 20) Tryz.func266 Z Z _ (env_ok 2 Z) <| sr <| ag Z Z <| nx <| mv Z Z <| xo fc307 (A1 Z) Z (isnan307 _) fun _ => ag Z Z <| nx <| mv Z Z <| xo fc307 (A1 Z) Z (isnan307 _) fun _ => ag Z Z <| nxx <| mv Z Z <| nq <| J_bool (t := 11) (c := false) Z (rfl) <| C_false Z <| J_skip <| Q_then <| J_seq <| sr <| mv Z Z <| nq <| J_bool (t := 13) (c := false) Z (rfl) <| C_false Z <| J_skip <| Q_then <| J_seq <| sr <| mv Z Z <| mv Z Z <| L_pur Z (p_lss Z Z) <| nq <| C_dec Z (fun h16 => ?_) (fun h16 => ?_)
  refine sr <| ag Z Z <| nq <| J_ret <| Q_then_ret <| J_return (()) Tryz.results266 (.tmp Z .nil) ?_ ?_
  · simp [one, cmpI, h16]
  · exact SU
  refine J_skip <| Q_then <| J_seq <| sr <| mv Z Z <| mv Z Z <| L_pur Z (p_gtr Z Z) <| nq <| C_dec Z (fun h19 => ?_) (fun h19 => ?_)
  refine sr <| ag Z Z <| nq <| J_ret <| Q_then_ret <| J_return (()) Tryz.results266 (.tmp Z .nil) ?_ ?_
  · simp [one, cmpI, h16, h19]
  · exact SU
  refine J_skip <| qx <| ag Z Z <| nq <| J_ret <| J_return (()) Tryz.results266 (.tmp Z .nil) ?_ ?_
  · simp [one, cmpI, h16, h19]
  · exact SU
theorem compare76 (a b : Int) :
    Con Tryz.prog 76 #[.int .i64 a, .int .i64 b] E l (fun _ : Unit => .int .i64 (cmpI a b)) (fun _ => l) := by
  refine Con.body (n := 20) Tryz.func76 Z Z _ (env_ok 2 Z) <| sr <| ag Z Z <| nx <| mv Z Z <| xo fc125 (A1 Z) Z (isnan125 _) fun _ => ag Z Z <| nx <| mv Z Z <| xo fc125 (A1 Z) Z (isnan125 _) fun _ => ag Z Z <| nxx <| mv Z Z <| nq <| J_bool (t := 11) (c := false) Z (rfl) <| C_false Z <| J_skip <| Q_then <| J_seq <| sr <| mv Z Z <| nq <| J_bool (t := 13) (c := false) Z (rfl) <| C_false Z <| J_skip <| Q_then <| J_seq <| sr <| mv Z Z <| mv Z Z <| L_pur Z (p_lss Z Z) <| nq <| C_dec Z (fun h16 => ?_) (fun h16 => ?_)
  refine sr <| ag Z Z <| nq <| J_ret <| Q_then_ret <| J_return (()) Tryz.results76 (.tmp Z .nil) ?_ ?_
  · simp [one, cmpI, h16]
  · exact SU
  refine J_skip <| Q_then <| J_seq <| sr <| mv Z Z <| mv Z Z <| L_pur Z (p_gtr Z Z) <| nq <| C_dec Z (fun h19 => ?_) (fun h19 => ?_)
  refine sr <| ag Z Z <| nq <| J_ret <| Q_then_ret <| J_return (()) Tryz.results76 (.tmp Z .nil) ?_ ?_
  · simp [one, cmpI, h16, h19]
  · exact SU
  refine J_skip <| qx <| ag Z Z <| nq <| J_ret <| J_return (()) Tryz.results76 (.tmp Z .nil) ?_ ?_
  · simp [one, cmpI, h16, h19]
  · exact SU
variable {v : Value}
theorem orInts {zs : List Int} (hr : ∀ w, Sep E w l → Reads w 1 v (zs.map encZ)) (hb : zs.length ≤ 1000) :
    Con Tryz.prog 83 #[v] E l (fun _ : Unit => .int .i64 (orI zs)) (fun _ => l) := by
  refine Con.body (n := 18) Tryz.func83 Z Z _ (env_ok 1 Z) <| J_readsB hr fun hw a cap hv h1 h2 h3 => ?_
  subst hv
  have hm : cap ≤ 9223372036854775807 := h2
  have hml : (zs.map encZ).length = zs.length := List.length_map _
  refine sr <| ag Z Z <| nx <| ag Z Z <| nxx <| mv Z Z <| L_pur Z (p_len Z Tryz.underlying55) <| mv Z Z <| nq <| J_block <| J_loop (α := Nat) (fun k => k ≤ zs.length ∧ ∀ c ∈ zs.take k, (!decide (c = 0)) = false) (fun _ => l) (fun k => [(8, .int .i64 (k : Int)), (7, .int .i64 (zs.map encZ).length), (6, .slice a (zs.map encZ).length cap), (3, .int .i64 0)]) (fun k => zs.length - k) 0 ⟨by omega, by simp⟩ SU KE ?_
  intro k ⟨hk, hq⟩
  refine sr <| L_pur Z (p_lss Z Z) <| nq <| J_seq <| C_dec Z (fun h9 => ?_) (fun h9 => ?_)
  have hlt : k < zs.length := by omega
  obtain ⟨bx, ox, rfl⟩ := h3 (by intro h; rw [h] at hml; simp at hml; omega)
  obtain ⟨c, hcc⟩ : ∃ c, zs[k]? = some c := ⟨_, List.getElem?_eq_getElem hlt⟩
  refine J_skip <| Q_then <| J_seq <| J_block <| sr <| L_pur Z (p_indexAddr Z Z Tryz.underlying55 ty3 (by omega) (by omega)) <| L_val Z (by first | exact v_loadE1 Z ty3 HS (by first | (simp only [Int.toNat_natCast, List.getElem?_map, hcc]; rfl) | (simp only [Int.toNat_natCast, List.getElem?_map, hcd]; rfl) | simp | rfl) | exact v_loadR1 Z ty3 (fun w H => hr w (Sub.sep SU H)) (by first | (simp only [Int.toNat_natCast, List.getElem?_map, hcc]; rfl) | (simp only [Int.toNat_natCast, List.getElem?_map, hcd]; rfl) | simp | rfl)) ?_
  refine ag Z Z <| nx <| mv Z Z <| mv Z Z <| L_pur Z (p_neq Z Z) <| nq <| C_dec Z (fun h14 => ?_) (fun h14 => ?_)
  have hor : orI zs = c := by
    unfold orI
    have e : zs = zs.take k ++ c :: zs.drop (k + 1) := by
      conv => lhs; rw [← List.take_append_drop k zs, List.drop_eq_getElem_cons hlt, (List.getElem?_eq_some_iff.1 hcc).2]
    rw [e, List.find?_append, List.find?_eq_none.2 (fun x hx => by simpa using hq x hx), List.find?_cons]
    simp [h14]
  refine sr <| mv Z Z <| ag Z Z <| nq <| J_ret <| Q_blk_ret <| Q_then_ret <| Q_then_ret <| Q_blk_ret <| Q_then_ret <| J_return (()) Tryz.results83 (.tmp Z .nil) ?_ ?_
  · simp [one, hor]
  · exact SU
  refine J_skip <| Q_blk_normal <| qr <| L_pur Z (p_add64 Z Z (by omega)) <| mv Z Z <| nq ?_
  exact J_again (k + 1) (by omega) (⟨by omega, fun c hc => by rw [List.take_add_one, hcc] at hc; rcases List.mem_append.1 hc with h | h; exact hq c h; simp at h; subst h; simpa using h14⟩) SU KE
  have hke : k = zs.length := by omega
  rw [hke, List.take_length] at hq
  have hor : orI zs = 0 := by
    unfold orI
    rw [List.find?_eq_none.2 (fun x hx => by simpa using hq x hx)]; rfl
  refine J_exit <| Q_then_exit <| Q_then_exit <| Q_blk_this <| qx <| mv Z Z <| ag Z Z <| nq <| J_ret <| J_return (()) Tryz.results83 (.tmp Z .nil) ?_ ?_
  · simp [one, hor]
  · exact SU
theorem order (a b : Tm) :
  Con Tryz.prog 201 #[.agg (encT a).toArray, .agg (encT b).toArray] E l (fun _ : Unit => .int .i64 (ordT a b)) (fun _ => l) := by
 refine Con.body (n := 26) Tryz.func201 Z Z _ (env_ok 2 Z) <| sr <| L_op <| x_box Z Z Z fun b2 => L_op <| x_box Z Z Z fun b3 => ag Z Z <| nq <| J_seq <| J_drawI none [blk b2 308 (encT a), blk b3 308 (encT b)] mixed <| ip 0 Z Z Z Z (p_fieldAddr Z fa308_0) <| iv 1 Z Z Z Z (fun _ => v_load Z ty102 HS (by exact rfl)) <| ip 2 Z Z Z Z (p_fieldAddr Z fa308_0) <| iv 3 Z Z Z Z (fun _ => v_load Z ty102 HS (by exact rfl)) <| ip 5 Z Z Z Z (p_fieldAddr Z fa308_1) <| ip 6 Z Z Z Z (p_fieldAddr Z fa36_0) <| iv 7 Z Z Z Z (fun _ => v_load Z ty3 HS (by exact rfl)) <| ip 8 Z Z Z Z (p_fieldAddr Z fa308_1) <| ip 9 Z Z Z Z (p_fieldAddr Z fa36_0) <| iv 10 Z Z Z Z (fun _ => v_load Z ty3 HS (by exact rfl)) <| ip 12 Z Z Z Z (p_fieldAddr Z fa308_1) <| ip 13 Z Z Z Z (p_fieldAddr Z fa36_1) <| iv 14 Z Z Z Z (fun _ => v_load Z ty3 HS (by exact rfl)) ?_
 refine ip 15 Z Z Z Z (p_fieldAddr Z fa308_1) <| ip 16 Z Z Z Z (p_fieldAddr Z fa36_1) <| iv 17 Z Z Z Z (fun _ => v_load Z ty3 HS (by exact rfl)) <| i1 4 Z <| xc fc266 (A2 Z Z) Z (compare266 _ _) fun _ => i1 11 Z <| xc fc76 (A2 Z Z) Z (compare76 _ _) fun _ => i1 18 Z <| xc fc76 (A2 Z Z) Z (compare76 _ _) fun _ => i1 19 Z <| x_lit (vals := [_, _, _]) Tryz.underlying55 ty3 Z (.cons Z (.cons Z (.cons Z .nil))) (.one Z (.one Z (.one Z .nil))) (Wf.cons Z Z (Wf.cons Z Z (Wf.cons Z Z Wf.nil))) Z (by decide) Z Z fun v24 => J_rowEq (ys := [cmpI a.1 b.1, cmpI a.2.1 b.2.1, cmpI a.2.2 b.2.2].map encZ) (rfl) <| J_row .here fun hw24 a24 c24 hv24 hl24 hm24 hz24 => ?_
 subst hv24
 refine i1 20 Z <| xc fc83 (A1 Z) Z (orInts (zs := [cmpI a.1 b.1, cmpI a.2.1 b.2.1, cmpI a.2.2 b.2.2]) (fun w H => sep_reads (xs := [cmpI a.1 b.1, cmpI a.2.1 b.2.1, cmpI a.2.2 b.2.2].map encZ) HS H) (by simp)) fun _ => ip 21 Z Z Z Z (p_assign Z) <| i0 <| Q_then <| J_ret ?_
 exact J_return (()) Tryz.results201 (.tmp Z .nil) Z SU
/-! ### plain: a ring is torn down -/
def deedG (q : Rq) : Deed := (q.id, q.e.tag, q.e.op, 0, 0, true)
def kTear1 (s : KS) (q : Rq) : KS := { kForget { s with rt := del s.rt q.id } q.id with jn := s.jn ++ [deedG q] }
def kTearL (s : KS) (l : List Rq) : KS := l.foldl kTear1 s
def kCleared (s : KS) (g : Int) : KS := { s with rg := updO s.rg g (fun r => { r with over := [] }) }
def kTear (s : KS) (g : Int) : KS := if (look s.rg g).isSome then kGone (kCleared (kTearL s (ofQ s.rt g)) g) 9 g else s
theorem kTearL_rg : ∀ {l : List Rq} {s : KS}, (kTearL s l).rg = s.rg ∧ (kTearL s l).mb = s.mb ∧ (kTearL s l).ep = (kTearL s l).ep
  | [], s => ⟨rfl, rfl, rfl⟩
  | q :: l, s => by
    have h := kTearL_rg (l := l) (s := kTear1 s q)
    exact ⟨h.1, h.2.1, rfl⟩
variable {N M : Nat}
theorem Fits.delAny (h : Fits s N M) (i : ID) : Fits { s with rt := del s.rt i } N M := by
  have hl := del_le (ps := s.rt) (i := i)
  exact ⟨h.n, h.mm, h.ids.del i, by have := h.jn; show s.jn.length + (del s.rt i).length ≤ M; omega, h.tm, h.ep, h.nt, h.rp, fun x hx => ⟨(h.rg x hx).1, by have := (h.rg x hx).2; show _ + (del s.rt i).length ≤ M; omega⟩, h.mem⟩
theorem Fits.tear1 (h : Fits s N M) (hm : M + 1 ≤ 90000) (q : Rq) : Fits (kTear1 s q) N (M + 1) := by
  have h1 := h.delAny q.id
  exact (h1.forget q.id).jnl hm (deedG q)
theorem Fits.tearL {N : Nat} : ∀ {l : List Rq} {s : KS} {M : Nat}, Fits s N M → M + l.length ≤ 90000 → Fits (kTearL s l) N (M + l.length)
  | [], s, M, h, _ => h
  | q :: l, s, M, h, hm => by
    have := Fits.tearL (l := l) (h.tear1 (by simp at hm; omega) q) (by simp at hm; omega)
    rw [List.length_cons, show M + (l.length + 1) = M + 1 + l.length by omega]
    exact this
def kEnds (s : KS) (l : List ID) : KS := l.foldl (fun s i => kDec s.rt.length s i (-9) 0) s
theorem Fits.ends {N M : Nat} : ∀ {l : List ID} {s : KS}, Fits s N M → Fits (kEnds s l) N M
  | [], _, h => h
  | i :: l, s, h => Fits.ends (l := l) (Fits.dec _ (i := i) (r := -9) (v := 0) h).1
section
variable {P : Program} {ops : Array Oper} {Q : Exit → Act → World → Prop} {E : World} {l L : List As} {n : Nat} {F : Env}
theorem I_takeOnP {i : Nat} {o : Oper} {d : Nat} {g : Option Nat} {fuel : Nat} {listed : Array Bool} (ho : ops[i]? = some o) (hd : o.dst = some d) (hdn : Nat.blt d n = true) {j t : Nat} {c : Bool} {og : Oper} (hg : o.guard = some (j, c)) (hj : ops[j]? = some og) (ht : og.dst = some t) (hb : get F t = some (.bool c))
    (hok : takeOkP g ops listed i = true)
    (hQ : ∀ c a v w, Q (.panic c) (a.put (some d) v) w → Q (.panic c) a w) (hv : Pur P o F n v)
    (k : Jk E l n ((d, v) :: F) (wpI P .any ops Q (Inv L) g fuel (listed.setIfInBounds i true))) : Jk E l n F (wpI P .any ops Q (Inv L) g (fuel + 1) listed) := fun w a H hF => by
  simp only [takeOkP, Bool.and_eq_true] at hok
  obtain ⟨⟨⟨h1, h2⟩, h3⟩, h4⟩ := hok
  have h0 : yielded ops a.tmps j = some c := by simp [yielded, hj, ht, hF.get t _ hb]
  exact wpI_firstP ho (Region.noSelect_spec h1) (by rw [hd]; exact fun c a w => hQ c a v w) (fun e => by subst e; simp at h4) fuel listed a w (Region.free_spec ho h2) (by simpa using h3) (Or.inl ⟨by simp [Region.wanted, hg, h0], fun w _ => hv a hF w⟩) (by rw [hd]; exact k w _ H (hF.put hdn))
end
/-! ### plain: what is decided, one thing at a time; all but rings, memory, the journal stays -/
def atJ (jn : List Deed) (i : ID) : Option Deed := jn.find? fun d => decide (d.1 = i)
variable {d : Deed}
theorem atJ_snoc {jn : List Deed} (h : d.1 = i) (h0 : ∀ e ∈ jn, e.1 ≠ i) : atJ (jn ++ [d]) i = some d := by
  unfold atJ
  rw [List.find?_append, List.find?_eq_none.2 (fun e he => by simpa using h0 e he)]
  simp [h]
theorem atJ_none {jn : List Deed} (h0 : ∀ e ∈ jn, e.1 ≠ i) : atJ jn i = none := List.find?_eq_none.2 fun e he => by simpa using h0 e he
def askR (jn : List Deed) (i : ID) : Int × Int × Bool := match atJ jn i with
  | none => (0, 0, false)
  | some d => (d.2.2.2.1, d.2.2.2.2.1, true)
def rqN (i : ID) (e : Sqe) : Rq := ⟨i, e, 0, false, false⟩
def rtS (ps : List (ID × Rq)) (i : ID) : List (ID × Rq) := match look ps i with
  | none => ps
  | some q => ins ps i { q with started := true }
/-! ### How all begins: what hangs on the number of threads, of units, on what is shared, and on nothing else -/
abbrev Core := Int × Bool × List (Place × SV) × List (Place × M1) × List (Int × Th) × List (Int × Int)
def kCore (s : KS) : Core := (s.cu, s.sh, s.sl, s.mp, s.th, s.q)
def kStep (k : Core) (b t h : Int) : Core := (k.1, k.2.1, tput b k.2.2.1 0 (tcap8 b k.1 ++ if k.2.1 then tcap2 t h else []), tmap b k.2.2.2.1 2, ins k.2.2.2.2.1 (b + 1) (thOf b), qAdd k.2.2.2.2.2 (b + 1) 4)
def cTh (k : Core) (u h : Int) : Nat → Core
  | 0 => k
  | i + 1 => kStep (cTh k u h i) (bOf u i) (i : Int) h
variable {t : Int}
theorem kThread_core {b h : Int} {r c : Nat} : kCore (kThread s b t h r c) = kStep (kCore s) b t h := by
  simp only [kCore, kStep, kThread, tcaps]
  congr 1
theorem kTh_core {s : KS} {h : Int} {bs : Nat → Nat × Nat} : ∀ i, kCore (kTh s h bs i) = cTh (kCore s) s.cu h i
  | 0 => rfl
  | i + 1 => by
    rw [kTh, kThread_core, kTh_core i, cTh]
def coreN (ct cu : Nat) (sh : Bool) : Core := cTh ((cu : Int), sh, [], [], [], []) (cu : Int) (hOf (ct : Int) (cu : Int)) ct
theorem cut_id {n lo hi : Int} (h : lo ≤ n ∧ n ≤ hi) : cutI n lo hi = n := by unfold cutI; split <;> split <;> omega
section
variable {ct cu : Nat} {cs cc : Int} {sh : Bool} {g : NewG} (h1 : 1 ≤ ct ∧ ct ≤ 3) (h2 : 1 ≤ cu ∧ cu ≤ 12)
include h1 h2 in
theorem kNew_is : kNew (ct : Int) (cu : Int) cs cc sh g = kTh (kBase (ct : Int) (cu : Int) (cutI cs 0 3) (cutI cc 0 4) sh g.mb g.be g.bn) (hOf (ct : Int) (cu : Int)) g.bs ct := by
  unfold kNew
  rw [cut_id (show (1 : Int) ≤ (ct : Int) ∧ (ct : Int) ≤ 3 by omega), cut_id (show (1 : Int) ≤ (cu : Int) ∧ (cu : Int) ≤ 12 by omega), Int.toNat_natCast]
include h1 h2 in
theorem kNew_core : kCore (kNew (ct : Int) (cu : Int) cs cc sh g) = coreN ct cu sh := by
  rw [kNew_is h1 h2, kTh_core]
  cases sh <;> rfl
include h1 h2 in
include h1 h2 in
end
/-! ### plain: one thread alone, two that share: how they begin -/
structure Al1 (K : KS) (g : NewG) : Prop where
 rt : K.rt = []
 jn : K.jn = []
 tm : K.tm = []
 nt : K.nt = []
 ep : K.ep = []
 rp : K.rp = [(7, (g.bs 0).2, (0, 0), false)]
 rg : K.rg = [(4, (g.bs 0).1, rgNew 5 6 3 4)]
 be : look K.be 4 = none
 mem : K.mem = List.replicate 64 zrow
 tk : K.tk = [(4, 0)]
 th : K.th = [(2, thOf 1)]
 q : K.q = [(2, 4)]
 pr : K.pr = []
 mr : K.mr = []
 sp : K.sp = [(3, true)]
 mp : K.mp = [((3, 0), (5, 3)), ((3, 1), (6, 3))]
 sl : K.sl = (coreN 1 6 false).2.2.1
 fit : Fits K 40 60
theorem al1_sl (g : NewG) : (kNew 1 6 3 4 false g).sl = (coreN 1 6 false).2.2.1 := by
  have hc : kCore (kNew ((1 : Nat) : Int) ((6 : Nat) : Int) 3 4 false g) = coreN 1 6 false := kNew_core (by omega) (by omega)
  rw [show ((1 : Nat) : Int) = 1 from rfl, show ((6 : Nat) : Int) = 6 from rfl] at hc
  unfold kCore at hc
  rw [← hc]
theorem al1_fit (g : NewG) : Fits (kNew 1 6 3 4 false g) 40 60 := by
  refine ⟨by omega, by omega, Ids.nil, by show 0 ≤ 60; omega, by show 0 ≤ 40; omega, fun x hx => (by cases hx), fun x hx => (by cases hx), fun x hx => ?_, fun x hx => ?_, zrow_ok⟩
  · obtain rfl := List.mem_singleton.1 (show x ∈ [(7, (g.bs 0).2, (0, 0), false)] from hx)
    exact ⟨by show (1 : Int) ≤ 7; omega, by show (7 : Int) ≤ 64; omega⟩
  · obtain rfl := List.mem_singleton.1 (show x ∈ [(4, (g.bs 0).1, rgNew 5 6 3 4)] from hx)
    exact ⟨rgNew_ok (a := 5) (by omega), by show 0 ≤ 60; omega⟩
theorem al1_is (g : NewG) : Al1 (kNew 1 6 3 4 false g) g := ⟨rfl, rfl, rfl, rfl, rfl, rfl, rfl, rfl, rfl, rfl, rfl, rfl, rfl, rfl, rfl, rfl, al1_sl g, al1_fit g⟩
section
variable {K : KS} {g : NewG} {L : List (Place × SV)} {q pr : List (Int × Int)} {c w : Int} {jn : List Deed} {RG : List (Int × Nat × Rg)} {MS : List (List Int)} {e : Sqe}
end
end Go.Pse
