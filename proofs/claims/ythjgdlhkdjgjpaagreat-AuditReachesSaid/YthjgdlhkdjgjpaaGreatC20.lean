/-
  The requests: contracts.
-/
import Derived.Test.YthjgdlhkdjgjpaaGreatC17
import Derived.Test.YthjgdlhkdjgjpaaGreatSrt
namespace Go.Pse
open Go.RowKit Go.Proofs

/-! ### plain: requests -/
def cmpQ (a b : Rq) : Int := cmpZ a.id.2 b.id.2
theorem cmpQ_lt (a b : Rq) : Go.Proofs.ltOf cmpQ a b = decide (a.id.2 < b.id.2) := by
  have : (cmpQ a b < 0) ↔ a.id.2 < b.id.2 := by
    unfold cmpQ cmpZ
    (repeat' split) <;> omega
  unfold Go.Proofs.ltOf
  rw [Bool.eq_iff_iff]
  simp [this]
theorem cmpQ_swo : Go.Sort.SWO (Go.Proofs.ltOf cmpQ) where
  irrefl x := by rw [cmpQ_lt]; simp
  trans x y z h1 h2 := by rw [cmpQ_lt] at *; simp at *; omega
  ntrans x y z h1 h2 := by rw [cmpQ_lt] at *; simp at *; omega
instance : Inhabited Rq := ⟨⟨(0, 0), ⟨0, 0, 0, 0, 0, 0, 0, 0⟩, 0, false, false⟩⟩
def q00 : Rq := ⟨(0, 0), ⟨0, 0, 0, 0, 0, 0, 0, 0⟩, 0, false, false⟩
/-- Each request lies under its own number. -/
def Ids (ps : List (ID × Rq)) : Prop := ∀ e ∈ ps, e.2.id = e.1
def ofRing (ps : List (ID × Rq)) (g : Int) : List Rq := (ps.filter fun e => decide (e.1.1 = g)).map Prod.snd
/-- A ring's requests, by numbers. -/
def ofQ (ps : List (ID × Rq)) (g : Int) : List Rq := sortF cmpQ (ofRing ps g)
theorem ofQ_len (ps : List (ID × Rq)) (g : Int) : (ofQ ps g).length ≤ ps.length := by
  unfold ofQ ofRing; rw [sortF_len, List.length_map]; exact List.length_filter_le _ _
theorem ofRing_mem {ps : List (ID × Rq)} {g : Int} {x : Rq} : x ∈ ofRing ps g ↔ ∃ k, (k, x) ∈ ps ∧ k.1 = g := by
  unfold ofRing
  rw [List.mem_map]
  constructor
  · rintro ⟨e, he, rfl⟩
    have := List.mem_filter.1 he
    exact ⟨e.1, this.1, by simpa using this.2⟩
  · rintro ⟨k, h1, h2⟩
    exact ⟨(k, x), List.mem_filter.2 ⟨h1, by simpa using h2⟩, rfl⟩
theorem ofQ_mem {ps : List (ID × Rq)} {g : Int} {x : Rq} : x ∈ ofQ ps g ↔ ∃ k, (k, x) ∈ ps ∧ k.1 = g := by unfold ofQ; rw [sortF_mem, ofRing_mem]
theorem ofQ_parts {ps : List (ID × Rq)} {g : Int} (hK : Keyd ps) (hI : Ids ps) {xs : List Rq} (hx : xs.Perm (ofRing ps g)) : ∀ x ∈ xs, ∀ y ∈ xs, Go.Proofs.ltOf cmpQ x y = false → Go.Proofs.ltOf cmpQ y x = false → x = y := fun x h1 y h2 h3 h4 => by
  obtain ⟨k1, a1, b1⟩ := ofRing_mem.1 (hx.mem_iff.1 h1)
  obtain ⟨k2, a2, b2⟩ := ofRing_mem.1 (hx.mem_iff.1 h2)
  rw [cmpQ_lt] at h3 h4
  have e1 : x.id = k1 := hI _ a1
  have e2 : y.id = k2 := hI _ a2
  have : k1 = k2 := Prod.ext (b1.trans b2.symm) (by rw [← e1, ← e2]; simp at h3 h4; omega)
  subst this
  have g1 := look_mem hK a1
  rw [look_mem hK a2] at g1
  exact (Option.some.inj g1).symm
/-- What has come of a ring, when the keys 'done' have come. -/
def comeQ (ps : List (ID × Rq)) (g : Int) (done : List ID) : List Rq := (done.filter fun k => decide (k.1 = g)).filterMap (look ps)
theorem comeQ_on {ps : List (ID × Rq)} {g : Int} {done : List ID} {k : ID} {u : Rq} (hK : Keyd ps) (hm : (k, u) ∈ ps) (h : k.1 = g) : comeQ ps g (done ++ [k]) = comeQ ps g done ++ [u] := by
  unfold comeQ
  rw [List.filter_append, List.filterMap_append]
  congr 1
  simp [h, look_mem hK hm]
theorem comeQ_off {ps : List (ID × Rq)} {g : Int} {done : List ID} {k : ID} (h : ¬ k.1 = g) : comeQ ps g (done ++ [k]) = comeQ ps g done := by
  unfold comeQ
  rw [List.filter_append, List.filterMap_append]
  simp [h]
theorem comeQ_len (ps : List (ID × Rq)) (g : Int) (done : List ID) : (comeQ ps g done).length ≤ done.length := Nat.le_trans (List.length_filterMap_le _ _) (List.length_filter_le _ _)
theorem filterMap_look {ps : List (ID × Rq)} (hK : Keyd ps) (g : Int) : ∀ qs : List (ID × Rq), (∀ e ∈ qs, e ∈ ps) → ((qs.map Prod.fst).filter fun k => decide (k.1 = g)).filterMap (look ps) = (qs.filter fun e => decide (e.1.1 = g)).map Prod.snd
  | [], _ => rfl
  | e :: qs, h => by
    have h1 := look_mem hK (h e (List.mem_cons_self))
    have h2 := filterMap_look hK g qs fun e he => h e (List.mem_cons_of_mem _ he)
    rw [List.map_cons, List.filter_cons, List.filter_cons]
    by_cases hg : e.1.1 = g
    · rw [if_pos (by simpa using hg), if_pos (by simpa using hg), List.filterMap_cons_some h1, List.map_cons, h2]
    · rw [if_neg (by simpa using hg), if_neg (by simpa using hg), h2]
theorem comeQ_perm {ps : List (ID × Rq)} {g : Int} {done : List ID} (hK : Keyd ps) (h : done.Perm (ps.map Prod.fst)) : (comeQ ps g done).Perm (ofRing ps g) := by
  unfold comeQ ofRing
  rw [← filterMap_look hK g ps fun _ h => h]
  exact (h.filter _).filterMap _
def addOk (ps : List (ID × Rq)) (q : Rq) : Bool := !(look ps q.id).isSome && decide ((ofQ ps q.id.1).length < 16)
def addQ (ps : List (ID × Rq)) (q : Rq) : List (ID × Rq) := if addOk ps q then ins ps q.id q else ps
/-- The one that hangs on a request. -/
def afterQ (ps : List (ID × Rq)) (i : ID) : Option Rq := (ofQ ps i.1).find? fun r => decide (r.prev = i.2)
theorem Ids.ins {ps : List (ID × Rq)} (h : Ids ps) (q : Rq) : Ids (ins ps q.id q) := fun e he => by
  unfold Go.Pse.ins at he
  split at he
  · obtain ⟨x, hx, rfl⟩ := List.mem_map.1 he
    split
    · rfl
    · exact h x hx
  · rcases List.mem_append.1 he with h1 | h1
    · exact h e h1
    · rw [List.mem_singleton.1 h1]
theorem Ids.add {ps : List (ID × Rq)} (h : Ids ps) (q : Rq) : Ids (addQ ps q) := by unfold addQ; split <;> first | exact h.ins q | exact h
theorem Ids.del {ps : List (ID × Rq)} (h : Ids ps) (i : ID) : Ids (del ps i) := fun e he => h e (List.mem_filter.1 he).1
theorem Ids.nil : Ids [] := fun _ h => by cases h
set_option maxRecDepth 100000 in
set_option maxHeartbeats 4000000 in
theorem rtGetC {E : World} {l m : List As}  {b o : Nat} {ps : List (ID × Rq)} (hp : Pick (rtA b o ps) l m) {i : ID} :
    Con Tryz.prog 64 #[.pointer (some ⟨b, o, none⟩), .agg (encI i).toArray] E l (fun _ : Unit => .tuple #[evQ ((look ps i).getD q00), .bool (look ps i).isSome]) (fun _ => rtA b o ps :: m) := by
  refine Con.body (vs := [.pointer (some ⟨b, o, none⟩), .agg (encI i).toArray]) (n := 19) Tryz.func64 rfl rfl [(0, .pointer (some ⟨b, o, none⟩)), (1, .agg (encI i).toArray)] (env_ok 2 rfl) <| J_pick hp <| J_rtO fun ob _ => sr <| L_op <| x_box rfl rfl rfl fun b3 => L_op <| x_alloc ty156 rfl fun b4 => ?_
  refine ag rfl rfl <| nq <| J_seq <| J_drawL none mixed <| ip 0 rfl rfl rfl rfl (p_move rfl) <| ip 1 rfl rfl rfl rfl (p_nilCheck rfl) <| ip 2 rfl rfl rfl rfl (p_fieldAddr rfl fa83_0) <| iv 3 rfl rfl rfl rfl (fun _ => v_loadL rfl ty81 HS rfl (by exact rfl)) ?_
  refine iv 4 rfl rfl rfl rfl (fun _ => v_loadA rfl ty35 HS CT) ?_
  refine iv 5 rfl rfl rfl rfl (fun _ => v_lookOk (ek := kI) (ev := evQ) (a := i) rfl rfl ky35 Tryz.underlying81 zv156 HS) ?_
  refine J_slot (t := 14) (v := .tuple #[evQ ((look ps i).getD q00), .bool (look ps i).isSome]) rfl (by cases look ps i <;> rfl) <| ip 6 rfl rfl rfl rfl (p_move rfl) <| ip 7 rfl rfl rfl rfl (p_extract rfl rfl) <| ip 8 rfl rfl rfl rfl (p_extract rfl rfl) <| i1 9 rfl <| x_alloc ty156 rfl fun b6 => i1 10 rfl <| x_store rfl rfl ty156 rfl SM SM RO PT ?_
  refine ip 11 rfl rfl rfl rfl (p_assign rfl) <| i0 <| qx <| L_val rfl (v_loadA rfl ty156 HS CT) ?_
  refine mv rfl rfl <| L_op <| x_store rfl rfl ty156 rfl SM SM RO PT ?_
  refine ag rfl rfl <| nq <| J_ret <| J_rtS (b := b) (o := o) (ps := ps) _ PX trivial ?_
  refine J_return (()) Tryz.results64 (.cellA rfl ty156 HS CT (.tmp rfl .nil)) ?_ ?_
  · rfl
  · exact SU

set_option maxRecDepth 100000 in
set_option maxHeartbeats 4000000 in
theorem cmpReq {E : World} {l : List As} {a b : Rq} :
    Con Tryz.prog 47 #[.agg (encQ a).toArray, .agg (encQ b).toArray] E l (fun _ : Unit => .int .i64 (cmpQ a b)) (fun _ => l) := by
  refine Con.body (vs := [.agg (encQ a).toArray, .agg (encQ b).toArray]) (n := 12) Tryz.func47 rfl rfl [(0, .agg (encQ a).toArray), (1, .agg (encQ b).toArray)] (env_ok 2 rfl) <| sr <| L_op <| x_box rfl rfl rfl fun b2 => L_op <| x_box rfl rfl rfl fun b3 => ag rfl rfl <| nx ?_
  refine fa rfl rfl fa156_0 <| fa rfl rfl fa35_1 <| L_val rfl (v_load rfl ty3 HS (by exact rfl)) ?_
  refine fa rfl rfl fa156_0 <| fa rfl rfl fa35_1 <| L_val rfl (v_load rfl ty3 HS (by exact rfl)) ?_
  refine L_op <| x_call Tryz.func38 nm38 bd38 (.cons rfl (.cons rfl .nil)) rfl (cmpZC (x := a.id.2) (y := b.id.2)) fun _ => ag rfl rfl <| nq <| J_ret ?_
  refine J_return (()) Tryz.results47 (.tmp rfl .nil) ?_ ?_
  · rfl
  · exact SU

theorem reqSort {E : World} {l m : List As} {v : Value} {xs : List Rq} (hp : Pick (row 156 13 v (xs.map encQ)) l m) (hT : ∀ x ∈ xs, ∀ y ∈ xs, Go.Proofs.ltOf cmpQ x y = false → Go.Proofs.ltOf cmpQ y x = false → x = y) (hb : xs.length ≤ 1000000) :
    Con Tryz.prog 46 #[v, .func (.func 47) #[] #[]] E l (fun _ : Unit => .tuple #[]) (fun _ => row 156 13 v ((sortF cmpQ xs).map encQ) :: m) :=
  con_sortO Tryz.sortRq (fun w => ty156.isAgg w) (fun w => ty156.sizeOf w) (fun _ => rfl) (fun x v hv => by simp [encQ] at hv; rcases hv with rfl | rfl | rfl | rfl | rfl | rfl | rfl | rfl | rfl | rfl | rfl | rfl | rfl <;> rfl) cmpQ_swo hT (enters_of Tryz.func47 nm47 rfl) (fun x y W => cmpReq) hb hp
set_option maxRecDepth 100000 in
set_option maxHeartbeats 4000000 in
theorem rtOf {E : World} {l m : List As} {b o : Nat} {ps : List (ID × Rq)} (hp : Pick (rtA b o ps) l m) {g : Int} (hI : Ids ps) (hb : ps.length ≤ 100000) :
  Con Tryz.prog 25 #[.pointer (some ⟨b, o, none⟩), .int .i64 g] E l (fun v : Value => v) (fun v => row 156 13 v ((ofQ ps g).map encQ) :: rtA b o ps :: m) := by
 refine Con.body (vs := [.pointer (some ⟨b, o, none⟩), .int .i64 g]) (n := 29) Tryz.func25 rfl rfl [(0, .pointer (some ⟨b, o, none⟩)), (1, .int .i64 g)] (env_ok 2 rfl) <| J_pick hp <| J_rtO fun ob _ => sr <| ag rfl rfl <| nx <| ag rfl rfl <| J_nil (el := 156) (sz := 13) ?_
 refine nxx <| mv rfl rfl <| nc rfl rfl <| fa rfl rfl fa83_0 <| L_val rfl (v_loadL rfl ty81 HS rfl (by exact rfl)) ?_
 refine L_op <| x_range (ek := kI) (ev := evQ) rfl Tryz.underlying81 PC rfl fun r12 => ?_
 refine nq <| J_block <| J_rangeKeyd (ek := kI) (ev := evQ) (ps := ps) HS fun hK => ?_
 refine J_loop2 (fun done v => Come ps done) (fun done v => rangeA kI evQ (.map ob) r12 ps done :: row 156 13 v ((comeQ ps g done).map encQ) :: fld b o [.map ob] :: m) (fun done v => [(12, .pointer (some ⟨r12, 0, none⟩)), (5, v), (0, .pointer (some ⟨b, o, none⟩)), (1, .int .i64 g)]) (fun done v => ps.length - done.length) [] _ Come.nil SU KE ?_
 intro done v hC
 refine sr ?_
 refine L_op (x_next (ek := kI) (ev := evQ) rfl PC rfl (fun k13 u13 hm13 hn13 => ?_) (fun hd13 => ?_))
 ·
  have hlt := hC.lt hK hm13 hn13
  have hcl := comeQ_len ps g done
  refine L_pur rfl (p_extract rfl rfl) <| nq <| J_seq <| C_true rfl <| J_skip <| Q_then <| J_block <| sr ?_
  refine L_val rfl (v_entry (ek := kI) (ev := evQ) rfl HS (by simp) hm13) ?_
  refine L_pur rfl (p_extract rfl rfl) <| L_pur rfl (p_extract rfl rfl) <| L_op <| x_alloc ty35 rfl fun b6 => L_op <| x_alloc ty156 rfl fun b7 => L_op <| x_store rfl rfl ty35 rfl SM SM RO PT ?_
  refine L_op <| x_store rfl rfl ty156 rfl SM SM RO PT ?_
  refine nx <| fa rfl rfl fa35_0 <| L_val rfl (v_load rfl ty3 HS (by exact rfl)) ?_
  refine mv rfl rfl <| L_pur rfl (p_eql rfl rfl) <| nq ?_
  refine C_dec rfl (fun h21 => ?_) (fun h21 => ?_)
  ·
   refine J_region <| mv rfl rfl <| L_val rfl (v_loadA rfl ty156 HS CT) ?_
   refine L_op <| x_lit (vals := [_]) Tryz.underlying110 ty156 rfl (.cons rfl .nil) (.agg .nil) (Wf.cons rfl rfl Wf.nil) rfl (by decide) rfl rfl <| JR fun a24 c24 hw24 hl24 hm24 hz24 => L_op <| x_app rfl rfl Tryz.underlying110 ty156 rfl rfl PC (fun w H => sep_reads HS H) (by simp; omega) (by simp; omega) rfl <| JE ((comeQ ps g (done ++ [k13])).map encQ) (by rw [comeQ_on hK hm13 h21]; simp) fun a25 c25 hw25 hl25 hm25 hz25 => ag rfl rfl <| J_nil (el := 156) (sz := 13) ?_
   refine L_nil <| Q_blk_normal <| Q_then ?_
   
   exact J_again2 (done ++ [k13]) _ (by have := hC.lt hK hm13 hn13; simp; omega) (hC.step hm13 hn13) SU KE
  ·
   refine J_skip <| Q_blk_normal <| Q_then <| J_pick (A := row 156 13 _ _) PC ?_
   refine J_rowEq (ys := (comeQ ps g (done ++ [k13])).map encQ) (by rw [comeQ_off h21]) ?_
   exact J_again2 (done ++ [k13]) _ (by have := hC.lt hK hm13 hn13; simp; omega) (hC.step hm13 hn13) SU KE
 ·
  have hperm := comeQ_perm (g := g) hK (hC.perm hK hd13)
  have hlen : (comeQ ps g done).length ≤ 1000000 := by
   rw [hperm.length_eq]
   have h1 := ofQ_len ps g
   unfold ofQ at h1
   rw [sortF_len] at h1
   omega
  refine L_pur rfl (p_extract rfl rfl) <| nq <| J_seq <| C_false rfl <| J_exit <| Q_then_exit <| Q_then_exit <| Q_blk_this ?_
  refine qx <| mv rfl rfl <| L_op <| x_call Tryz.func46 nm46 bd46 (.cons rfl (.cons rfl .nil)) rfl (reqSort (xs := comeQ ps g done) PC (ofQ_parts hK hI hperm) hlen) fun _ => ?_
  refine nx <| mv rfl rfl <| ag rfl rfl <| nq <| J_ret <| J_pick (A := row 156 13 v _) PC ?_
  refine J_rowEq (ys := (ofQ ps g).map encQ) (by rw [sortF_permOn cmpQ_swo (ofQ_parts hK hI hperm) hperm]; rfl) <| J_pick (A := rangeA kI evQ _ _ _ _) PC ?_
  refine J_rangeEnd <| J_rtS (b := b) (o := o) (ps := ps) _ PX trivial ?_
  exact J_return (v) Tryz.results25 (.tmp rfl .nil) rfl SU

theorem find_here {α : Type} {p : α → Bool} {xs : List α} {k : Nat} {c : α} (h0 : ∀ c ∈ xs.take k, p c = false) (h : xs[k]? = some c) (hc : p c = true) : xs.find? p = some c := by
  have hl := (List.getElem?_eq_some_iff.1 h).1
  have e : xs = xs.take k ++ c :: xs.drop (k + 1) := by
    rw [← (List.getElem?_eq_some_iff.1 h).2, ← List.drop_eq_getElem_cons hl, List.take_append_drop]
  rw [e, List.find?_append, List.find?_eq_none.2 (fun x hx => by simp [h0 x hx]), List.find?_cons, hc]; rfl
theorem find_gone {α : Type} {p : α → Bool} {xs : List α} (h0 : ∀ c ∈ xs, p c = false) : xs.find? p = none := List.find?_eq_none.2 fun x hx => by simp [h0 x hx]
end Go.Pse
