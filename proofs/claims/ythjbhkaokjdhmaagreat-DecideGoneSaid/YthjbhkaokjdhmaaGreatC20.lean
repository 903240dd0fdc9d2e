/-
  The requests: contracts.
-/
import Derived.Test.YthjbhkaokjdhmaaGreatC17
import Derived.Test.YthjbhkaokjdhmaaGreatSrt
namespace Go.Pse
open Go.RowKit Go.Proofs

/-! ### plain: requests -/
def cmpQ (a b : Rq) : Int := cmpZ a.id.2 b.id.2
theorem cmpQ_lt (a b : Rq) : Go.Proofs.ltOf cmpQ a b = decide (a.id.2 < b.id.2) := by
  have : (cmpQ a b < 0) ↔ a.id.2 < b.id.2 := by
    unfold cmpQ cmpZ
    (repeat' split) <;> omega
  unfold Go.Proofs.ltOf
  rw [Bool.eq_iff_iff]
  simp [this]
theorem cmpQ_swo : Go.Sort.SWO (Go.Proofs.ltOf cmpQ) where
  irrefl x := by rw [cmpQ_lt]; simp
  trans x y z h1 h2 := by rw [cmpQ_lt] at *; simp at *; omega
  ntrans x y z h1 h2 := by rw [cmpQ_lt] at *; simp at *; omega
instance : Inhabited Rq := ⟨⟨(0, 0), ⟨0, 0, 0, 0, 0, 0, 0, 0⟩, 0, false, false⟩⟩
def q00 : Rq := ⟨(0, 0), ⟨0, 0, 0, 0, 0, 0, 0, 0⟩, 0, false, false⟩
/-- Each request lies under its own number. -/
def Ids (ps : List (ID × Rq)) : Prop := ∀ e ∈ ps, e.2.id = e.1
def ofRing (ps : List (ID × Rq)) (g : Int) : List Rq := (ps.filter fun e => decide (e.1.1 = g)).map Prod.snd
/-- A ring's requests, by numbers. -/
def ofQ (ps : List (ID × Rq)) (g : Int) : List Rq := sortF cmpQ (ofRing ps g)
theorem ofQ_len (ps : List (ID × Rq)) (g : Int) : (ofQ ps g).length ≤ ps.length := by
  unfold ofQ ofRing; rw [sortF_len, List.length_map]; exact List.length_filter_le _ _
theorem ofRing_mem {ps : List (ID × Rq)} {g : Int} {x : Rq} : x ∈ ofRing ps g ↔ ∃ k, (k, x) ∈ ps ∧ k.1 = g := by
  unfold ofRing
  rw [List.mem_map]
  constructor
  · rintro ⟨e, he, rfl⟩
    have := List.mem_filter.1 he
    exact ⟨e.1, this.1, by simpa using this.2⟩
  · rintro ⟨k, h1, h2⟩
    exact ⟨(k, x), List.mem_filter.2 ⟨h1, by simpa using h2⟩, rfl⟩
theorem ofQ_mem {ps : List (ID × Rq)} {g : Int} {x : Rq} : x ∈ ofQ ps g ↔ ∃ k, (k, x) ∈ ps ∧ k.1 = g := by unfold ofQ; rw [sortF_mem, ofRing_mem]
theorem ofQ_parts {ps : List (ID × Rq)} {g : Int} (hK : Keyd ps) (hI : Ids ps) {xs : List Rq} (hx : xs.Perm (ofRing ps g)) : ∀ x ∈ xs, ∀ y ∈ xs, Go.Proofs.ltOf cmpQ x y = false → Go.Proofs.ltOf cmpQ y x = false → x = y := fun x h1 y h2 h3 h4 => by
  obtain ⟨k1, a1, b1⟩ := ofRing_mem.1 (hx.mem_iff.1 h1)
  obtain ⟨k2, a2, b2⟩ := ofRing_mem.1 (hx.mem_iff.1 h2)
  rw [cmpQ_lt] at h3 h4
  have e1 : x.id = k1 := hI _ a1
  have e2 : y.id = k2 := hI _ a2
  have : k1 = k2 := Prod.ext (b1.trans b2.symm) (by rw [← e1, ← e2]; simp at h3 h4; omega)
  subst this
  have g1 := look_mem hK a1
  rw [look_mem hK a2] at g1
  exact (Option.some.inj g1).symm
/-- What has come of a ring, when the keys 'done' have come. -/
def comeQ (ps : List (ID × Rq)) (g : Int) (done : List ID) : List Rq := (done.filter fun k => decide (k.1 = g)).filterMap (look ps)
theorem comeQ_on {ps : List (ID × Rq)} {g : Int} {done : List ID} {k : ID} {u : Rq} (hK : Keyd ps) (hm : (k, u) ∈ ps) (h : k.1 = g) : comeQ ps g (done ++ [k]) = comeQ ps g done ++ [u] := by
  unfold comeQ
  rw [List.filter_append, List.filterMap_append]
  congr 1
  simp [h, look_mem hK hm]
theorem comeQ_off {ps : List (ID × Rq)} {g : Int} {done : List ID} {k : ID} (h : ¬ k.1 = g) : comeQ ps g (done ++ [k]) = comeQ ps g done := by
  unfold comeQ
  rw [List.filter_append, List.filterMap_append]
  simp [h]
theorem comeQ_len (ps : List (ID × Rq)) (g : Int) (done : List ID) : (comeQ ps g done).length ≤ done.length := Nat.le_trans (List.length_filterMap_le _ _) (List.length_filter_le _ _)
theorem filterMap_look {ps : List (ID × Rq)} (hK : Keyd ps) (g : Int) : ∀ qs : List (ID × Rq), (∀ e ∈ qs, e ∈ ps) → ((qs.map Prod.fst).filter fun k => decide (k.1 = g)).filterMap (look ps) = (qs.filter fun e => decide (e.1.1 = g)).map Prod.snd
  | [], _ => rfl
  | e :: qs, h => by
    have h1 := look_mem hK (h e (List.mem_cons_self))
    have h2 := filterMap_look hK g qs fun e he => h e (List.mem_cons_of_mem _ he)
    rw [List.map_cons, List.filter_cons, List.filter_cons]
    by_cases hg : e.1.1 = g
    · rw [if_pos (by simpa using hg), if_pos (by simpa using hg), List.filterMap_cons_some h1, List.map_cons, h2]
    · rw [if_neg (by simpa using hg), if_neg (by simpa using hg), h2]
theorem comeQ_perm {ps : List (ID × Rq)} {g : Int} {done : List ID} (hK : Keyd ps) (h : done.Perm (ps.map Prod.fst)) : (comeQ ps g done).Perm (ofRing ps g) := by
  unfold comeQ ofRing
  rw [← filterMap_look hK g ps fun _ h => h]
  exact (h.filter _).filterMap _
def addOk (ps : List (ID × Rq)) (q : Rq) : Bool := !(look ps q.id).isSome && decide ((ofQ ps q.id.1).length < 16)
def addQ (ps : List (ID × Rq)) (q : Rq) : List (ID × Rq) := if addOk ps q then ins ps q.id q else ps
/-- The one that hangs on a request. -/
def afterQ (ps : List (ID × Rq)) (i : ID) : Option Rq := (ofQ ps i.1).find? fun r => decide (r.prev = i.2)
theorem Ids.ins {ps : List (ID × Rq)} (h : Ids ps) (q : Rq) : Ids (ins ps q.id q) := fun e he => by
  unfold Go.Pse.ins at he
  split at he
  · obtain ⟨x, hx, rfl⟩ := List.mem_map.1 he
    split
    · rfl
    · exact h x hx
  · rcases List.mem_append.1 he with h1 | h1
    · exact h e h1
    · rw [List.mem_singleton.1 h1]
theorem Ids.add {ps : List (ID × Rq)} (h : Ids ps) (q : Rq) : Ids (addQ ps q) := by unfold addQ; split <;> first | exact h.ins q | exact h
theorem Ids.del {ps : List (ID × Rq)} (h : Ids ps) (i : ID) : Ids (del ps i) := fun e he => h e (List.mem_filter.1 he).1
theorem Ids.nil : Ids [] := fun _ h => by cases h
set_option maxRecDepth 100000 in
set_option maxHeartbeats 4000000 in
theorem rtHas {E : World} {l m : List As}  {b o : Nat} {ps : List (ID × Rq)} (hp : Pick (rtA b o ps) l m) {i : ID} :
    Con Tryz.prog 36 #[.pointer (some ⟨b, o, none⟩), .agg (encI i).toArray] E l (fun _ : Unit => .bool (look ps i).isSome) (fun _ => rtA b o ps :: m) := by
  refine Con.body (vs := [.pointer (some ⟨b, o, none⟩), .agg (encI i).toArray]) (n := 17) Tryz.func36 rfl rfl [(0, .pointer (some ⟨b, o, none⟩)), (1, .agg (encI i).toArray)] (env_ok 2 rfl) <| J_pick hp <| J_rtO fun ob _ => sr <| L_op <| x_box rfl rfl rfl fun b3 => ag rfl rfl <| nq ?_
  refine J_seq <| J_drawL none mixed <| ip 0 rfl rfl rfl rfl (p_move rfl) <| ip 1 rfl rfl rfl rfl (p_nilCheck rfl) <| ip 2 rfl rfl rfl rfl (p_fieldAddr rfl fa110_0) <| iv 3 rfl rfl rfl rfl (fun _ => v_loadL rfl ty108 HS rfl (by exact rfl)) ?_
  refine iv 4 rfl rfl rfl rfl (fun _ => v_loadA rfl ty36 HS CT) ?_
  refine iv 5 rfl rfl rfl rfl (fun _ => v_lookOk (ek := kI) (ev := evQ) (a := i) rfl rfl ky36 Tryz.underlying108 zv41 HS) ?_
  refine J_slot (t := 13) (v := .tuple #[evQ ((look ps i).getD q00), .bool (look ps i).isSome]) rfl (by cases look ps i <;> rfl) <| ip 6 rfl rfl rfl rfl (p_move rfl) <| ip 7 rfl rfl rfl rfl (p_extract rfl rfl) <| ip 8 rfl rfl rfl rfl (p_extract rfl rfl) <| i1 9 rfl <| x_alloc ty41 rfl fun b5 => i1 10 rfl <| x_store rfl rfl ty41 rfl SM SM RO PT ?_
  refine ip 11 rfl rfl rfl rfl (p_assign rfl) <| i0 <| qx <| mv rfl rfl <| ag rfl rfl <| nq <| J_ret <| J_rtS (b := b) (o := o) (ps := ps) _ PX trivial ?_
  exact J_return (()) Tryz.results36 (.tmp rfl .nil) rfl SU

set_option maxRecDepth 100000 in
set_option maxHeartbeats 4000000 in
theorem rtGetC {E : World} {l m : List As}  {b o : Nat} {ps : List (ID × Rq)} (hp : Pick (rtA b o ps) l m) {i : ID} :
    Con Tryz.prog 37 #[.pointer (some ⟨b, o, none⟩), .agg (encI i).toArray] E l (fun _ : Unit => .tuple #[evQ ((look ps i).getD q00), .bool (look ps i).isSome]) (fun _ => rtA b o ps :: m) := by
  refine Con.body (vs := [.pointer (some ⟨b, o, none⟩), .agg (encI i).toArray]) (n := 19) Tryz.func37 rfl rfl [(0, .pointer (some ⟨b, o, none⟩)), (1, .agg (encI i).toArray)] (env_ok 2 rfl) <| J_pick hp <| J_rtO fun ob _ => sr <| L_op <| x_box rfl rfl rfl fun b3 => L_op <| x_alloc ty41 rfl fun b4 => ?_
  refine ag rfl rfl <| nq <| J_seq <| J_drawL none mixed <| ip 0 rfl rfl rfl rfl (p_move rfl) <| ip 1 rfl rfl rfl rfl (p_nilCheck rfl) <| ip 2 rfl rfl rfl rfl (p_fieldAddr rfl fa110_0) <| iv 3 rfl rfl rfl rfl (fun _ => v_loadL rfl ty108 HS rfl (by exact rfl)) ?_
  refine iv 4 rfl rfl rfl rfl (fun _ => v_loadA rfl ty36 HS CT) ?_
  refine iv 5 rfl rfl rfl rfl (fun _ => v_lookOk (ek := kI) (ev := evQ) (a := i) rfl rfl ky36 Tryz.underlying108 zv41 HS) ?_
  refine J_slot (t := 14) (v := .tuple #[evQ ((look ps i).getD q00), .bool (look ps i).isSome]) rfl (by cases look ps i <;> rfl) <| ip 6 rfl rfl rfl rfl (p_move rfl) <| ip 7 rfl rfl rfl rfl (p_extract rfl rfl) <| ip 8 rfl rfl rfl rfl (p_extract rfl rfl) <| i1 9 rfl <| x_alloc ty41 rfl fun b6 => i1 10 rfl <| x_store rfl rfl ty41 rfl SM SM RO PT ?_
  refine ip 11 rfl rfl rfl rfl (p_assign rfl) <| i0 <| qx <| L_val rfl (v_loadA rfl ty41 HS CT) ?_
  refine mv rfl rfl <| L_op <| x_store rfl rfl ty41 rfl SM SM RO PT ?_
  refine ag rfl rfl <| nq <| J_ret <| J_rtS (b := b) (o := o) (ps := ps) _ PX trivial ?_
  refine J_return (()) Tryz.results37 (.cellA rfl ty41 HS CT (.tmp rfl .nil)) ?_ ?_
  · rfl
  · exact SU

set_option maxRecDepth 100000 in
set_option maxHeartbeats 4000000 in
theorem rtDropC {E : World} {l m : List As}  {b o : Nat} {ps : List (ID × Rq)} (hp : Pick (rtA b o ps) l m) {i : ID} :
    Con Tryz.prog 38 #[.pointer (some ⟨b, o, none⟩), .agg (encI i).toArray] E l (fun _ : Unit => .bool (look ps i).isSome) (fun _ => rtA b o (del ps i) :: m) := by
  refine Con.body (vs := [.pointer (some ⟨b, o, none⟩), .agg (encI i).toArray]) (n := 15) Tryz.func38 rfl rfl [(0, .pointer (some ⟨b, o, none⟩)), (1, .agg (encI i).toArray)] (env_ok 2 rfl) <| J_pick hp <| sr <| L_op <| x_box rfl rfl rfl fun b3 => ag rfl rfl <| nx <| mv rfl rfl ?_
  refine L_val rfl (v_loadA rfl ty36 HS CT) ?_
  refine L_op <| x_call Tryz.func36 nm36 bd36 (.cons rfl (.cons rfl .nil)) rfl (rtHas (ps := ps) (i := i) PC) fun _ => ?_
  refine ag rfl rfl <| nq <| J_seq <| J_pick (A := rtA b o ps) PC ?_
  refine J_rtO fun ob _ => J_drawT 5 mixed (by kernel_rfl) <| sm rfl rfl <| sp rfl (p_nilCheck rfl) <| sp rfl (p_fieldAddr rfl fa110_0) <| S_val rfl (v_loadL rfl ty108 HS rfl (by exact rfl)) ?_
  refine S_val rfl (v_loadA rfl ty36 HS CT) ?_
  refine S_nil <| L_op <| x_delete (ek := kI) (ev := evQ) (a := i) rfl rfl ky36 Tryz.underlying108 PC ?_
  refine nx <| mv rfl rfl <| ag rfl rfl <| nq <| J_ret <| J_rtS (b := b) (o := o) (ps := del ps i) _ PX trivial ?_
  exact J_return (()) Tryz.results38 (.tmp rfl .nil) rfl SU

set_option maxRecDepth 100000 in
set_option maxHeartbeats 4000000 in
theorem cmpReq {E : World} {l : List As} {a b : Rq} :
    Con Tryz.prog 44 #[.agg (encQ a).toArray, .agg (encQ b).toArray] E l (fun _ : Unit => .int .i64 (cmpQ a b)) (fun _ => l) := by
  refine Con.body (vs := [.agg (encQ a).toArray, .agg (encQ b).toArray]) (n := 12) Tryz.func44 rfl rfl [(0, .agg (encQ a).toArray), (1, .agg (encQ b).toArray)] (env_ok 2 rfl) <| sr <| L_op <| x_box rfl rfl rfl fun b2 => L_op <| x_box rfl rfl rfl fun b3 => ag rfl rfl <| nx ?_
  refine fa rfl rfl fa41_0 <| fa rfl rfl fa36_1 <| L_val rfl (v_load rfl ty3 HS (by exact rfl)) ?_
  refine fa rfl rfl fa41_0 <| fa rfl rfl fa36_1 <| L_val rfl (v_load rfl ty3 HS (by exact rfl)) ?_
  refine L_op <| x_call Tryz.func45 nm45 bd45 (.cons rfl (.cons rfl .nil)) rfl (cmpZC (x := a.id.2) (y := b.id.2)) fun _ => ag rfl rfl <| nq <| J_ret ?_
  refine J_return (()) Tryz.results44 (.tmp rfl .nil) ?_ ?_
  · rfl
  · exact SU

theorem reqSort {E : World} {l m : List As} {v : Value} {xs : List Rq} (hp : Pick (row 41 13 v (xs.map encQ)) l m) (hT : ∀ x ∈ xs, ∀ y ∈ xs, Go.Proofs.ltOf cmpQ x y = false → Go.Proofs.ltOf cmpQ y x = false → x = y) (hb : xs.length ≤ 1000000) :
    Con Tryz.prog 43 #[v, .func (.func 44) #[] #[]] E l (fun _ : Unit => .tuple #[]) (fun _ => row 41 13 v ((sortF cmpQ xs).map encQ) :: m) :=
  con_sortO Tryz.sortRq (fun w => ty41.isAgg w) (fun w => ty41.sizeOf w) (fun _ => rfl) (fun x v hv => by simp [encQ] at hv; rcases hv with rfl | rfl | rfl | rfl | rfl | rfl | rfl | rfl | rfl | rfl | rfl | rfl | rfl <;> rfl) cmpQ_swo hT (enters_of Tryz.func44 nm44 rfl) (fun x y W => cmpReq) hb hp
set_option maxRecDepth 100000 in
set_option maxHeartbeats 4000000 in
theorem rtOf {E : World} {l m : List As} {b o : Nat} {ps : List (ID × Rq)} (hp : Pick (rtA b o ps) l m) {g : Int} (hI : Ids ps) (hb : ps.length ≤ 100000) :
  Con Tryz.prog 16 #[.pointer (some ⟨b, o, none⟩), .int .i64 g] E l (fun v : Value => v) (fun v => row 41 13 v ((ofQ ps g).map encQ) :: rtA b o ps :: m) := by
 refine Con.body (vs := [.pointer (some ⟨b, o, none⟩), .int .i64 g]) (n := 29) Tryz.func16 rfl rfl [(0, .pointer (some ⟨b, o, none⟩)), (1, .int .i64 g)] (env_ok 2 rfl) <| J_pick hp <| J_rtO fun ob _ => sr <| ag rfl rfl <| nx <| ag rfl rfl <| J_nil (el := 41) (sz := 13) ?_
 refine nxx <| mv rfl rfl <| nc rfl rfl <| fa rfl rfl fa110_0 <| L_val rfl (v_loadL rfl ty108 HS rfl (by exact rfl)) ?_
 refine L_op <| x_range (ek := kI) (ev := evQ) rfl Tryz.underlying108 PC rfl fun r12 => ?_
 refine nq <| J_block <| J_rangeKeyd (ek := kI) (ev := evQ) (ps := ps) HS fun hK => ?_
 refine J_loop2 (fun done v => Come ps done) (fun done v => rangeA kI evQ (.map ob) r12 ps done :: row 41 13 v ((comeQ ps g done).map encQ) :: fld b o [.map ob] :: m) (fun done v => [(12, .pointer (some ⟨r12, 0, none⟩)), (5, v), (0, .pointer (some ⟨b, o, none⟩)), (1, .int .i64 g)]) (fun done v => ps.length - done.length) [] _ Come.nil SU KE ?_
 intro done v hC
 refine sr ?_
 refine L_op (x_next (ek := kI) (ev := evQ) rfl PC rfl (fun k13 u13 hm13 hn13 => ?_) (fun hd13 => ?_))
 ·
  have hlt := hC.lt hK hm13 hn13
  have hcl := comeQ_len ps g done
  refine L_pur rfl (p_extract rfl rfl) <| nq <| J_seq <| C_true rfl <| J_skip <| Q_then <| J_block <| sr ?_
  refine L_val rfl (v_entry (ek := kI) (ev := evQ) rfl HS (by simp) hm13) ?_
  refine L_pur rfl (p_extract rfl rfl) <| L_pur rfl (p_extract rfl rfl) <| L_op <| x_alloc ty36 rfl fun b6 => L_op <| x_alloc ty41 rfl fun b7 => L_op <| x_store rfl rfl ty36 rfl SM SM RO PT ?_
  refine L_op <| x_store rfl rfl ty41 rfl SM SM RO PT ?_
  refine nx <| fa rfl rfl fa36_0 <| L_val rfl (v_load rfl ty3 HS (by exact rfl)) ?_
  refine mv rfl rfl <| L_pur rfl (p_eql rfl rfl) <| nq ?_
  refine C_dec rfl (fun h21 => ?_) (fun h21 => ?_)
  ·
   refine J_region <| mv rfl rfl <| L_val rfl (v_loadA rfl ty41 HS CT) ?_
   refine L_op <| x_lit (vals := [_]) Tryz.underlying46 ty41 rfl (.cons rfl .nil) (.agg .nil) (Wf.cons rfl rfl Wf.nil) rfl (by decide) rfl rfl <| JR fun a24 c24 hw24 hl24 hm24 hz24 => L_op <| x_app rfl rfl Tryz.underlying46 ty41 rfl rfl PC (fun w H => sep_reads HS H) (by simp; omega) (by simp; omega) rfl <| JE ((comeQ ps g (done ++ [k13])).map encQ) (by rw [comeQ_on hK hm13 h21]; simp) fun a25 c25 hw25 hl25 hm25 hz25 => ag rfl rfl <| J_nil (el := 41) (sz := 13) ?_
   refine L_nil <| Q_blk_normal <| Q_then ?_
   
   exact J_again2 (done ++ [k13]) _ (by have := hC.lt hK hm13 hn13; simp; omega) (hC.step hm13 hn13) SU KE
  ·
   refine J_skip <| Q_blk_normal <| Q_then <| J_pick (A := row 41 13 _ _) PC ?_
   refine J_rowEq (ys := (comeQ ps g (done ++ [k13])).map encQ) (by rw [comeQ_off h21]) ?_
   exact J_again2 (done ++ [k13]) _ (by have := hC.lt hK hm13 hn13; simp; omega) (hC.step hm13 hn13) SU KE
 ·
  have hperm := comeQ_perm (g := g) hK (hC.perm hK hd13)
  have hlen : (comeQ ps g done).length ≤ 1000000 := by
   rw [hperm.length_eq]
   have h1 := ofQ_len ps g
   unfold ofQ at h1
   rw [sortF_len] at h1
   omega
  refine L_pur rfl (p_extract rfl rfl) <| nq <| J_seq <| C_false rfl <| J_exit <| Q_then_exit <| Q_then_exit <| Q_blk_this ?_
  refine qx <| mv rfl rfl <| L_op <| x_call Tryz.func43 nm43 bd43 (.cons rfl (.cons rfl .nil)) rfl (reqSort (xs := comeQ ps g done) PC (ofQ_parts hK hI hperm) hlen) fun _ => ?_
  refine nx <| mv rfl rfl <| ag rfl rfl <| nq <| J_ret <| J_pick (A := row 41 13 v _) PC ?_
  refine J_rowEq (ys := (ofQ ps g).map encQ) (by rw [sortF_permOn cmpQ_swo (ofQ_parts hK hI hperm) hperm]; rfl) <| J_pick (A := rangeA kI evQ _ _ _ _) PC ?_
  refine J_rangeEnd <| J_rtS (b := b) (o := o) (ps := ps) _ PX trivial ?_
  exact J_return (v) Tryz.results16 (.tmp rfl .nil) rfl SU

set_option maxRecDepth 100000 in
set_option maxHeartbeats 4000000 in
theorem rtAddC {E : World} {l m : List As}  {b o : Nat} {ps : List (ID × Rq)} (hp : Pick (rtA b o ps) l m) {q : Rq} (hI : Ids ps) (hb : ps.length ≤ 100000) :
    Con Tryz.prog 12 #[.pointer (some ⟨b, o, none⟩), .agg (encQ q).toArray] E l (fun _ : Unit => .bool (addOk ps q)) (fun _ => rtA b o (addQ ps q) :: m) := by
  refine Con.body (vs := [.pointer (some ⟨b, o, none⟩), .agg (encQ q).toArray]) (n := 34) Tryz.func12 rfl rfl [(0, .pointer (some ⟨b, o, none⟩)), (1, .agg (encQ q).toArray)] (env_ok 2 rfl) <| J_pick hp <| sr <| L_op <| x_box rfl rfl rfl fun b3 => ag rfl rfl <| nxx <| mv rfl rfl ?_
  refine fa rfl rfl fa41_0 <| L_val rfl (v_loadA rfl ty36 HS CT) ?_
  refine L_op <| x_call Tryz.func36 nm36 bd36 (.cons rfl (.cons rfl .nil)) rfl (rtHas (ps := ps) (i := q.id) PC) fun _ => ?_
  refine mv rfl rfl ?_
  refine J_gsplit (t := 9) rfl (fun h9 => ?_) (fun h9 => ?_)
  ·
    refine L_op <| G_off rfl rfl rfl rfl rfl rfl <| L_op <| G_off rfl rfl rfl rfl rfl rfl <| L_op <| G_off rfl rfl rfl rfl rfl rfl <| L_op <| G_off rfl rfl rfl rfl rfl rfl ?_
    refine L_op <| G_off rfl rfl rfl rfl rfl rfl <| L_op <| G_off rfl rfl rfl rfl rfl rfl <| L_op <| G_off rfl rfl rfl rfl rfl rfl <| L_pur rfl (p_pick_t rfl rfl) <| nq ?_
    refine C_true rfl <| sr <| ag rfl rfl <| nq <| J_ret <| Q_then_ret <| J_pick (A := rtA b o _) PC ?_
    refine J_asTo (B := rtA b o (addQ ps q)) (by simp_all [addQ, addOk]) ?_
    refine J_return (()) Tryz.results12 (.tmp rfl .nil) ?_ ?_
    · first | (simp_all [one, addOk]; done) | (simp_all [one, addOk] <;> omega)
    · exact SU
  ·
    refine L_op <| G_on rfl rfl rfl <| J_pur (p_move rfl) rfl rfl rfl <| L_op <| G_on rfl rfl rfl <| J_pur (p_fieldAddr rfl fa41_0) rfl rfl rfl <| L_op <| G_on rfl rfl rfl ?_
    refine J_pur (p_fieldAddr rfl fa36_0) rfl rfl rfl <| L_op <| G_on rfl rfl rfl <| J_val (v_load rfl ty3 HS (by exact rfl)) rfl rfl rfl ?_
    refine L_op <| G_on rfl rfl rfl <| x_call Tryz.func16 nm16 bd16 (.cons rfl (.cons rfl .nil)) rfl (rtOf (ps := ps) (g := q.id.1) PC hI hb) <| JR fun a14 c14 hw14 hl14 hm14 hz14 => L_op <| G_on rfl rfl rfl <| J_pur (p_len rfl Tryz.underlying46) rfl rfl rfl <| J_slot (t := 15) (v := .int .i64 ((ofQ ps q.id.1).length : Int)) rfl (by simp) ?_
    refine L_op <| G_on rfl rfl rfl <| J_pur (p_geq rfl rfl) rfl rfl rfl ?_
    have hol := ofQ_len ps q.id.1
    refine L_pur rfl (p_pick_f rfl rfl) <| nq ?_
    refine C_dec rfl (fun h17 => ?_) (fun h17 => ?_)
    ·
      refine sr <| ag rfl rfl <| nq <| J_ret <| Q_then_ret <| J_pick (A := rtA b o _) PC ?_
      refine J_asTo (B := rtA b o (addQ ps q)) (by rw [show addQ ps q = ps from if_neg (by unfold addOk; simp; intro _; omega)]) ?_
      refine J_return (()) Tryz.results12 (.tmp rfl .nil) ?_ ?_
      · first | (simp_all [one, addOk]; done) | (simp_all [one, addOk] <;> omega)
      · exact SU
    ·
      refine J_skip <| Q_then <| J_seq <| J_seq <| J_pick (A := rtA b o ps) PC ?_
      refine J_rtO fun ob _ => J_region <| mv rfl rfl <| nc rfl rfl <| fa rfl rfl fa110_0 <| L_val rfl (v_loadL rfl ty108 HS rfl (by exact rfl)) ?_
      refine L_pur rfl (p_eqNilMap Tryz.underlying108 rfl) <| nq ?_
      refine C_split rfl (fun h22 => ?_) (fun h22 => ?_)
      ·
        obtain rfl : ob = none := by simpa using h22
        refine J_mapNone (ps := ps) HS fun hps => ?_
        subst hps
        refine J_region <| mv rfl rfl <| L_op <| x_makeMap (ek := kI) (ev := evQ) rfl fun b24 => nc rfl rfl <| fa rfl rfl fa110_0 <| L_op <| x_storeL rfl rfl ty108 rfl SM SM rfl RO rfl PT ?_
        refine nq <| J_seq <| J_drawT 7 mixed (by kernel_rfl) <| sm rfl rfl <| sp rfl (p_nilCheck rfl) <| sp rfl (p_fieldAddr rfl fa110_0) <| S_val rfl (v_loadL rfl ty108 HS rfl (by exact rfl)) ?_
        refine sp rfl (p_fieldAddr rfl fa41_0) <| S_val rfl (v_loadA rfl ty36 HS CT) ?_
        refine S_val rfl (v_loadA rfl ty41 HS CT) ?_
        refine S_nil <| L_op <| x_mapUpdate (ek := kI) (ev := evQ) (a := q.id) (c := q) rfl rfl rfl ky36 Tryz.underlying108 PC ?_
        refine nx <| ag rfl rfl <| nq <| J_ret <| J_rtS (b := b) (o := o) (ps := ins [] q.id q) _ PX trivial ?_
        refine J_pick (A := rtA b o _) PC ?_
        refine J_asTo (B := rtA b o (addQ [] q)) (by rw [show addQ [] q = ins [] q.id q from if_pos (by unfold addOk; simp at h9 h17 ⊢; exact ⟨h9, by omega⟩)]) ?_
        refine J_return (()) Tryz.results12 (.tmp rfl .nil) ?_ ?_
        · first | (simp_all [one, addOk]; done) | (simp_all [one, addOk] <;> omega)
        · exact SU
      ·
        obtain ⟨bm, rfl⟩ : ∃ bm, ob = some bm := by cases ob with | none => simp at h22 | some x => exact ⟨x, rfl⟩
        refine J_skip <| Q_then <| J_seq <| J_drawT 7 mixed (by kernel_rfl) <| sm rfl rfl <| sp rfl (p_nilCheck rfl) <| sp rfl (p_fieldAddr rfl fa110_0) <| S_val rfl (v_loadL rfl ty108 HS rfl (by exact rfl)) ?_
        refine sp rfl (p_fieldAddr rfl fa41_0) <| S_val rfl (v_loadA rfl ty36 HS CT) ?_
        refine S_val rfl (v_loadA rfl ty41 HS CT) ?_
        refine S_nil <| L_op <| x_mapUpdate (ek := kI) (ev := evQ) (a := q.id) (c := q) rfl rfl rfl ky36 Tryz.underlying108 PC ?_
        refine nx <| ag rfl rfl <| nq <| J_ret <| J_rtS (b := b) (o := o) (ps := ins ps q.id q) _ PX trivial ?_
        refine J_pick (A := rtA b o _) PC ?_
        refine J_asTo (B := rtA b o (addQ ps q)) (by rw [show addQ ps q = ins ps q.id q from if_pos (by unfold addOk; simp at h9 h17 ⊢; exact ⟨h9, by omega⟩)]) ?_
        refine J_return (()) Tryz.results12 (.tmp rfl .nil) ?_ ?_
        · first | (simp_all [one, addOk]; done) | (simp_all [one, addOk] <;> omega)
        · exact SU

theorem find_here {α : Type} {p : α → Bool} {xs : List α} {k : Nat} {c : α} (h0 : ∀ c ∈ xs.take k, p c = false) (h : xs[k]? = some c) (hc : p c = true) : xs.find? p = some c := by
  have hl := (List.getElem?_eq_some_iff.1 h).1
  have e : xs = xs.take k ++ c :: xs.drop (k + 1) := by
    rw [← (List.getElem?_eq_some_iff.1 h).2, ← List.drop_eq_getElem_cons hl, List.take_append_drop]
  rw [e, List.find?_append, List.find?_eq_none.2 (fun x hx => by simp [h0 x hx]), List.find?_cons, hc]; rfl
theorem find_gone {α : Type} {p : α → Bool} {xs : List α} (h0 : ∀ c ∈ xs, p c = false) : xs.find? p = none := List.find?_eq_none.2 fun x hx => by simp [h0 x hx]
set_option maxRecDepth 100000 in
set_option maxHeartbeats 4000000 in
theorem rtAfterC {E : World} {l m : List As}  {b o : Nat} {ps : List (ID × Rq)} (hp : Pick (rtA b o ps) l m) {i : ID} (hI : Ids ps) (hb : ps.length ≤ 100000) :
    Con Tryz.prog 41 #[.pointer (some ⟨b, o, none⟩), .agg (encI i).toArray] E l (fun _ : Unit => .tuple #[evQ ((afterQ ps i).getD q00), .bool (afterQ ps i).isSome]) (fun _ => rtA b o ps :: m) := by
  refine Con.body (vs := [.pointer (some ⟨b, o, none⟩), .agg (encI i).toArray]) (n := 25) Tryz.func41 rfl rfl [(0, .pointer (some ⟨b, o, none⟩)), (1, .agg (encI i).toArray)] (env_ok 2 rfl) <| J_pick hp <| sr <| L_op <| x_box rfl rfl rfl fun b3 => L_op <| x_alloc ty41 rfl fun b4 => ag rfl rfl ?_
  refine nxx <| mv rfl rfl <| fa rfl rfl fa36_0 <| L_val rfl (v_load rfl ty3 HS (by exact rfl)) ?_
  refine L_op <| x_call Tryz.func16 nm16 bd16 (.cons rfl (.cons rfl .nil)) rfl (rtOf (ps := ps) (g := i.1) PC hI hb) <| JR fun a11 c11 hw11 hl11 hm11 hz11 => ?_
  have hol := ofQ_len ps i.1
  obtain ⟨xs, hxs⟩ : ∃ xs, xs = ofQ ps i.1 := ⟨_, rfl⟩
  refine J_pick (A := row 41 13 _ _) PC ?_
  refine J_rowTo (ys := xs.map encQ) (v' := .slice a11 (xs.map encQ).length c11) (by rw [hxs]) (by rw [hxs]) <| J_slot (t := 11) (v := .slice a11 (xs.map encQ).length c11) rfl (by rw [hxs]) ?_
  rw [← hxs] at hol hz11
  have hm : c11 ≤ 9223372036854775807 := hm11
  have hml : (xs.map encQ).length = xs.length := List.length_map _
  refine L_pur rfl (p_len rfl Tryz.underlying46) <| mv rfl rfl <| nq <| J_block <| J_loop (α := Nat) (fun k => k ≤ xs.length ∧ ∀ c ∈ xs.take k, decide (c.prev = i.2) = false) (fun _ => row 41 13 (.slice a11 (xs.map encQ).length c11) (xs.map encQ) :: blk b3 36 (encI i) :: blk b4 41 (encQ q00) :: rtA b o ps :: m) (fun k => [(13, .int .i64 (k : Int)), (11, .slice a11 (xs.map encQ).length c11), (12, .int .i64 ((xs.map encQ).length : Int)), (3, .pointer (some ⟨b3, 0, none⟩)), (4, .pointer (some ⟨b4, 0, none⟩))]) (fun k => xs.length - k) 0 ⟨by omega, by simp⟩ SU KE ?_
  intro k hk
  obtain ⟨hk, h0⟩ := hk
  refine sr <| L_pur rfl (p_lss rfl rfl) <| nq <| J_seq ?_
  refine C_dec rfl (fun h14 => ?_) (fun h14 => ?_)
  ·
    have hlt : k < xs.length := by omega
    obtain ⟨bx, ox, rfl⟩ := hz11 (by intro h; rw [h] at hml; simp at hml; omega)
    obtain ⟨c, hcc⟩ : ∃ c, xs[k]? = some c := ⟨_, List.getElem?_eq_getElem hlt⟩
    refine J_skip <| Q_then <| J_seq <| J_block <| sr <| L_pur rfl (p_indexAddr rfl rfl Tryz.underlying46 ty41 (by omega) (by omega)) ?_
    refine L_val rfl (v_loadE rfl ty41 HS (by first | (simp only [Int.toNat_natCast, List.getElem?_map, hcc]; rfl) | (simp only [Int.toNat_natCast, List.getElem?_map, hcd]; rfl) | simp | rfl)) ?_
    refine L_op <| x_alloc ty41 rfl fun b7 => L_op <| x_store rfl rfl ty41 rfl SM SM RO PT ?_
    refine nx <| fa rfl rfl fa41_2 <| L_val rfl (v_load rfl ty3 HS (by exact rfl)) ?_
    refine fa rfl rfl fa36_1 <| L_val rfl (v_load rfl ty3 HS (by exact rfl)) ?_
    refine L_pur rfl (p_eql rfl rfl) <| nq ?_
    refine C_dec rfl (fun h21 => ?_) (fun h21 => ?_)
    ·
      have haf : afterQ ps i = some c := by unfold afterQ; rw [← hxs]; exact find_here h0 hcc (by simpa using h21)
      refine sr <| L_val rfl (v_loadA rfl ty41 HS CT) ?_
      refine L_op <| x_store rfl rfl ty41 rfl SM SM RO PT ?_
      refine ag rfl rfl <| nq <| J_ret <| Q_blk_ret <| Q_then_ret <| Q_then_ret <| Q_blk_ret <| Q_then_ret ?_
      refine J_return (()) Tryz.results41 (.cellA rfl ty41 HS CT (.tmp rfl .nil)) ?_ ?_
      · rw [haf]; rfl
      · exact SU
    ·
      refine J_skip <| Q_blk_normal <| qr <| L_pur rfl (p_add64 rfl rfl (by omega)) <| mv rfl rfl <| nq ?_
      exact J_again (k + 1) (by omega) (⟨by omega, take_false_succ h0 hcc (by simpa using h21)⟩) SU KE
  ·
    have haf : afterQ ps i = none := by
      unfold afterQ; rw [← hxs]
      exact find_gone (by rw [show k = xs.length by omega, List.take_length] at h0; exact h0)
    refine J_exit <| Q_then_exit <| Q_then_exit <| Q_blk_this <| qx <| L_pur rfl (bld41 .nil (by repeat constructor)) <| L_op <| x_store rfl rfl ty41 rfl SM SM RO PT ?_
    refine ag rfl rfl <| nq <| J_ret ?_
    refine J_return (()) Tryz.results41 (.cellA rfl ty41 HS CT (.tmp rfl .nil)) ?_ ?_
    · rw [haf]; rfl
    · exact SU

end Go.Pse
