/-
  Own texts, merged: C12, C13, C13b, C16, C17, C20, C21, Ins, C22, C23, C90, C91a, C91, C24.
-/
import Derived.Test.YtclgdnpndlognaaGreatBC1
import Derived.Laws.BitsAllLaws
import Derived.Test.YtclgdnpndlognaaGreatBC0
import Derived.Lib.Overlaps
set_option linter.unusedVariables false
set_option linter.unusedSimpArgs false
set_option maxRecDepth 100000
set_option maxHeartbeats 4000000
namespace Go.Pse
open Go.RowKit Go.Proofs
theorem coThr {E : World} {l m : List As} {p : Nat} {s : KS} (hp : Pick (coA p s) l m) {u : Int} :
    Con Tryz.prog 87 #[.pointer (some ⟨p, 0, none⟩), .int .i64 u] E l (fun _ : Unit => .tuple #[evT ((look s.th u).getD t0), .bool (look s.th u).isSome]) (fun _ => coA p s :: m) := by
  refine Con.body (vs := [.pointer (some ⟨p, 0, none⟩), .int .i64 u]) (n := 19) Tryz.func87 rfl rfl [(0, .pointer (some ⟨p, 0, none⟩)), (1, .int .i64 u)] (env_ok 2 rfl) <| J_pick hp <| J_coO fun bn be br bg bt bs bp bl bk _ => sr <| L_op <| x_alloc ty213 rfl fun b4 => ag rfl rfl <| nx ?_
  refine mv rfl rfl <| nc rfl rfl <| fa rfl rfl fa153_13 <| L_val rfl (v_loadL (o := 13) (i := 4) rfl ty148 HS rfl (by exact rfl)) ?_
  refine mv rfl rfl <| L_val rfl (v_lookOk (ek := kZ) (ev := evT) (a := u) rfl rfl ky3 Tryz.underlying148 zv213 HS) ?_
  refine J_slot (t := 14) (v := .tuple #[evT ((look s.th u).getD t0), .bool (look s.th u).isSome]) rfl (by cases look s.th u <;> rfl) <| mv rfl rfl <| L_pur rfl (p_extract rfl rfl) <| L_pur rfl (p_extract rfl rfl) <| L_op <| x_alloc ty213 rfl fun b6 => L_op <| x_store rfl rfl ty213 rfl SM SM RO PT ?_
  refine ag rfl rfl <| nx <| L_val rfl (v_loadA rfl ty213 HS CT) ?_
  refine mv rfl rfl <| L_op <| x_store rfl rfl ty213 rfl SM SM RO PT ?_
  refine ag rfl rfl <| nq <| J_ret <| J_coS (p := p) (s := s) bn be br bg bt bs bp bl bk PX trivial ?_
  refine J_return (()) Tryz.results87 (.cellA rfl ty213 HS CT (.tmp rfl .nil)) ?_ ?_
  · rfl
  · exact SU
theorem coBell {E : World} {l m : List As} {p : Nat} {s : KS} (hp : Pick (coA p s) l m) {u : Int} :
    Con Tryz.prog 177 #[.pointer (some ⟨p, 0, none⟩), .int .i64 u] E l (fun _ : Unit => .tuple #[.int .i64 ((look s.be u).getD (0, 0)).1, .int .u32 ((look s.be u).getD (0, 0)).2]) (fun _ => coA p s :: m) := by
  refine Con.body (vs := [.pointer (some ⟨p, 0, none⟩), .int .i64 u]) (n := 17) Tryz.func177 rfl rfl [(0, .pointer (some ⟨p, 0, none⟩)), (1, .int .i64 u)] (env_ok 2 rfl) <| J_pick hp <| J_coO fun bn be br bg bt bs bp bl bk _ => sr <| ag rfl rfl <| ag rfl rfl <| nx <| mv rfl rfl ?_
  refine nc rfl rfl <| fa rfl rfl fa153_16 <| L_val rfl (v_loadL (o := 13) (i := 7) rfl ty151 HS rfl (by exact rfl)) ?_
  refine mv rfl rfl <| L_val rfl (v_look (ek := kZ) (ev := evL) (a := u) rfl rfl ky3 Tryz.underlying151 zv304 HS) ?_
  refine J_slot (t := 12) (v := evL ((look s.be u).getD (0, 0))) rfl (by cases look s.be u <;> rfl) <| L_op <| x_alloc ty304 rfl fun b6 => L_op <| x_store rfl rfl ty304 rfl SM SM RO PT ?_
  refine nq <| J_seq <| J_drawS mixed (by kernel_rfl) <| sp rfl (p_fieldAddr rfl fa304_0) <| S_val rfl (v_load rfl ty3 HS (by exact rfl)) ?_
  refine sp rfl (p_fieldAddr rfl fa304_1) <| S_val rfl (v_load rfl ty22 HS (by exact rfl)) ?_
  refine sp rfl (p_assign rfl) <| sp rfl (p_assign rfl) <| sq <| J_ret <| J_coS (p := p) (s := s) bn be br bg bt bs bp bl bk PX trivial ?_
  refine J_return (()) Tryz.results177 (.tmp rfl (.tmp rfl .nil)) ?_ ?_
  · rfl
  · exact SU
theorem coNotif {E : World} {l m : List As} {p : Nat} {s : KS} (hp : Pick (coA p s) l m) {u : Int} :
    Con Tryz.prog 170 #[.pointer (some ⟨p, 0, none⟩), .int .i64 u] E l (fun _ : Unit => ptrOf (look (ptrs s.nt) u)) (fun _ => coA p s :: m) := by
  refine Con.body (vs := [.pointer (some ⟨p, 0, none⟩), .int .i64 u]) (n := 11) Tryz.func170 rfl rfl [(0, .pointer (some ⟨p, 0, none⟩)), (1, .int .i64 u)] (env_ok 2 rfl) <| J_pick hp <| J_coO fun bn be br bg bt bs bp bl bk _ => sr <| ag rfl rfl <| nx <| mv rfl rfl <| nc rfl rfl ?_
  refine fa rfl rfl fa153_9 <| L_val rfl (v_loadL (o := 13) (i := 0) rfl ty144 HS rfl (by exact rfl)) ?_
  refine mv rfl rfl <| L_val rfl (v_look (ek := kZ) (ev := evA) (a := u) rfl rfl ky3 Tryz.underlying144 zv223 HS) ?_
  refine J_slot (t := 10) (v := ptrOf (look (ptrs s.nt) u)) rfl (by cases look (ptrs s.nt) u <;> rfl) <| ag rfl rfl <| nq <| J_ret <| J_coS (p := p) (s := s) bn be br bg bt bs bp bl bk PX trivial ?_
  exact J_return (()) Tryz.results170 (.tmp rfl .nil) rfl SU
theorem coEp {E : World} {l m : List As} {p : Nat} {s : KS} (hp : Pick (coA p s) l m) {u : Int} :
    Con Tryz.prog 60 #[.pointer (some ⟨p, 0, none⟩), .int .i64 u] E l (fun _ : Unit => ptrOf (look (ptrs s.ep) u)) (fun _ => coA p s :: m) := by
  refine Con.body (vs := [.pointer (some ⟨p, 0, none⟩), .int .i64 u]) (n := 11) Tryz.func60 rfl rfl [(0, .pointer (some ⟨p, 0, none⟩)), (1, .int .i64 u)] (env_ok 2 rfl) <| J_pick hp <| J_coO fun bn be br bg bt bs bp bl bk _ => sr <| ag rfl rfl <| nx <| mv rfl rfl <| nc rfl rfl ?_
  refine fa rfl rfl fa153_10 <| L_val rfl (v_loadL (o := 13) (i := 1) rfl ty145 HS rfl (by exact rfl)) ?_
  refine mv rfl rfl <| L_val rfl (v_look (ek := kZ) (ev := evA) (a := u) rfl rfl ky3 Tryz.underlying145 zv112 HS) ?_
  refine J_slot (t := 10) (v := ptrOf (look (ptrs s.ep) u)) rfl (by cases look (ptrs s.ep) u <;> rfl) <| ag rfl rfl <| nq <| J_ret <| J_coS (p := p) (s := s) bn be br bg bt bs bp bl bk PX trivial ?_
  exact J_return (()) Tryz.results60 (.tmp rfl .nil) rfl SU
theorem coReply {E : World} {l m : List As} {p : Nat} {s : KS} (hp : Pick (coA p s) l m) {u : Int} :
    Con Tryz.prog 172 #[.pointer (some ⟨p, 0, none⟩), .int .i64 u] E l (fun _ : Unit => ptrOf (look (ptrs s.rp) u)) (fun _ => coA p s :: m) := by
  refine Con.body (vs := [.pointer (some ⟨p, 0, none⟩), .int .i64 u]) (n := 11) Tryz.func172 rfl rfl [(0, .pointer (some ⟨p, 0, none⟩)), (1, .int .i64 u)] (env_ok 2 rfl) <| J_pick hp <| J_coO fun bn be br bg bt bs bp bl bk _ => sr <| ag rfl rfl <| nx <| mv rfl rfl <| nc rfl rfl ?_
  refine fa rfl rfl fa153_11 <| L_val rfl (v_loadL (o := 13) (i := 2) rfl ty146 HS rfl (by exact rfl)) ?_
  refine mv rfl rfl <| L_val rfl (v_look (ek := kZ) (ev := evA) (a := u) rfl rfl ky3 Tryz.underlying146 zv241 HS) ?_
  refine J_slot (t := 10) (v := ptrOf (look (ptrs s.rp) u)) rfl (by cases look (ptrs s.rp) u <;> rfl) <| ag rfl rfl <| nq <| J_ret <| J_coS (p := p) (s := s) bn be br bg bt bs bp bl bk PX trivial ?_
  exact J_return (()) Tryz.results172 (.tmp rfl .nil) rfl SU
def Owns (s : KS) (r : Int) (x : Option Th) : Prop := match x with
  | none => ∀ q ∈ s.th, q.2.ring ≠ r
  | some t => ∃ k, look s.th k = some t ∧ t.ring = r
theorem coOwner {E : World} {l m : List As}{p : Nat} {s : KS} (hp : Pick (coA p s) l m) {r : Int} :
    Con Tryz.prog 117 #[.pointer (some ⟨p, 0, none⟩), .int .i64 r] E l (fun x : Option Th => .tuple #[evT (x.getD t0), .bool x.isSome]) (fun x => As.pure (Owns s r x) :: coA p s :: m) := by
  refine Con.body (vs := [.pointer (some ⟨p, 0, none⟩), .int .i64 r]) (n := 23) Tryz.func117 rfl rfl [(0, .pointer (some ⟨p, 0, none⟩)), (1, .int .i64 r)] (env_ok 2 rfl) <| J_pick hp <| J_coO fun bn be br bg bt bs bp bl bk _ => sr <| L_op <| x_alloc ty213 rfl fun b4 => ag rfl rfl <| nxx ?_
  refine mv rfl rfl <| nc rfl rfl <| fa rfl rfl fa153_13 <| L_val rfl (v_loadL (o := 13) (i := 4) rfl ty148 HS rfl (by exact rfl)) ?_
  refine L_op <| x_range (ek := kZ) (ev := evT) rfl Tryz.underlying148 PC rfl fun r12 => ?_
  refine nq <| J_block <| J_rangeKeyd (ek := kZ) (ev := evT) (ps := s.th) HS fun hK => ?_
  refine J_loop (fun done => Come s.th done ∧ ∀ q ∈ s.th, q.1 ∈ done → q.2.ring ≠ r) (fun done => rangeA kZ evT (.map (some bt)) r12 s.th done :: blk b4 213 [.int .i64 0, .int .i64 0, .int .i64 0, .int .i64 0, .int .i64 0, .int .i64 0, .int .i64 0, .int .i64 0] :: fld p 0 [.int .i64 s.ct, .int .i64 s.cu, .int .i64 s.cs, .int .i64 s.cc, .bool s.sh, .pointer (some ⟨s.mb, 0, none⟩)] :: memA s.mb s.mem :: slA p 6 s.sl :: mkA p 7 s.mr :: spA p 8 s.mp :: rqA p 9 s.q :: rtA p 10 s.rt :: tmrA p 11 s.tm :: jnlA p 12 s.jn :: fld p 13 [.map (some bn), .map (some be), .map (some br), .map (some bg), .map (some bt), .map (some bs), .map (some bp), .map (some bl), .map (some bk)] :: mapV kZ evA (.map (some bn)) (ptrs s.nt) :: each ntF s.nt :: mapV kZ evA (.map (some be)) (ptrs s.ep) :: each epF s.ep :: mapV kZ evA (.map (some br)) (ptrs s.rp) :: each rpF s.rp :: mapV kZ evA (.map (some bg)) (ptrs s.rg) :: each (rgF s.mb) s.rg :: mapV kZ evB (.map (some bs)) s.sp :: mapV kZ evZ (.map (some bp)) s.pr :: mapV kZ evL (.map (some bl)) s.be :: mapV kZ evZ (.map (some bk)) s.tk :: fld p 22 [.int .u64 s.now] :: m) (fun done => [(12, .pointer (some ⟨r12, 0, none⟩)), (0, .pointer (some ⟨p, 0, none⟩)), (1, .int .i64 r), (4, .pointer (some ⟨b4, 0, none⟩))]) (fun done => s.th.length - done.length) [] ⟨Come.nil, fun _ _ h => by cases h⟩ SU KE ?_
  intro done hC
  obtain ⟨hC, hN⟩ := hC
  refine sr ?_
  refine L_op (x_next (ek := kZ) (ev := evT) rfl PC rfl (fun k13 u13 hm13 hn13 => ?_) (fun hd13 => ?_))
  refine L_pur rfl (p_extract rfl rfl) <| nq <| J_seq <| C_true rfl <| J_skip <| Q_then <| J_block <| sr ?_
  refine L_val rfl (v_entry (ek := kZ) (ev := evT) rfl HS (by simp) hm13) ?_
  refine L_pur rfl (p_extract rfl rfl) <| L_op <| x_alloc ty213 rfl fun b7 => L_op <| x_store rfl rfl ty213 rfl SM SM RO PT ?_
  refine nx <| fa rfl rfl fa213_2 <| L_val rfl (v_load rfl ty3 HS (by exact rfl)) ?_
  refine mv rfl rfl <| L_pur rfl (p_eql rfl rfl) <| nq ?_
  refine C_dec rfl (fun h20 => ?_) (fun h20 => ?_)
  refine sr <| L_val rfl (v_loadA rfl ty213 HS CT) ?_
  refine L_op <| x_store rfl rfl ty213 rfl SM SM RO PT ?_
  refine ag rfl rfl <| nq <| J_ret <| Q_blk_ret <| Q_then_ret <| Q_blk_ret <| Q_then_ret <| J_pick (A := rangeA kZ evT _ _ _ _) PC ?_
  refine J_rangeEnd <| J_coS (p := p) (s := s) bn be br bg bt bs bp bl bk PX trivial ?_
  refine J_pure_in (p := Owns s r (some u13)) (⟨k13, look_mem hK hm13, h20⟩) ?_
  refine J_return (some u13) Tryz.results117 (.cellA rfl ty213 HS CT (.tmp rfl .nil)) ?_ ?_
  · rfl
  · exact SU
  refine J_skip <| Q_blk_normal <| Q_then ?_
  exact J_again ((done ++ [k13])) (by have := hC.lt hK hm13 hn13; simp; omega) (⟨hC.step hm13 hn13, fun q hq hd => by
      rcases List.mem_append.1 hd with h | h
      · exact hN q hq h
      · obtain rfl := List.mem_singleton.1 h
        have h1 := look_mem hK hq
        rw [look_mem hK hm13] at h1
        cases h1
        exact h20⟩) SU KE
  refine L_pur rfl (p_extract rfl rfl) <| nq <| J_seq <| C_false rfl <| J_exit <| Q_then_exit <| Q_then_exit <| Q_blk_this ?_
  refine qx <| L_pur rfl (bld213 .nil (by repeat constructor)) <| L_op <| x_store rfl rfl ty213 rfl SM SM RO PT ?_
  refine ag rfl rfl <| nq <| J_ret <| J_pick (A := rangeA kZ evT _ _ _ _) PC ?_
  refine J_rangeEnd <| J_coS (p := p) (s := s) bn be br bg bt bs bp bl bk PX trivial ?_
  refine J_pure_in (p := Owns s r none) (fun q hq => hN q hq (hd13 q hq)) ?_
  refine J_return (none) Tryz.results117 (.cellA rfl ty213 HS CT (.tmp rfl .nil)) ?_ ?_
  · rfl
  · exact SU
end Go.Pse
namespace Go.Pse
open Go.RowKit Go.Proofs
abbrev encZ (z : Int) : List Value := [.int .i64 z]
end Go.Pse
namespace Go.Pse
open Go.RowKit Go.Proofs
theorem fr0 : Fr 0 [] ({ tmps := #[], defers := [] } : Act) := ⟨rfl, rfl, fun t v hv => by cases hv⟩
theorem J_con {α : Type} {Q : Program} {f : FuncId} {args : Array Value} {E : World} {l : List As} {rv : α → Value} {L L' : α → List As} (hc : Con Q f args E l rv L) (k : ∀ x, Jk E (L x) 0 [] fun _ w' => Sep E w' (L' x)) : Jk E l 0 [] fun _ w => Calls Q f args w fun e w' => ∃ x, e = .returned (rv x) ∧ Sep E w' (L' x) :=
  fun w _ H _ => (hc w H).mono fun e w' ⟨x, he, H'⟩ => ⟨x, he, k x w' _ H' fr0⟩
theorem J_end {E : World} {l l' : List As} (h : Sub l l') : Jk E l 0 [] fun _ w => Sep E w l' := fun _ _ H _ => h.sep H
end Go.Pse
namespace Go.Pse
open Go.RowKit Go.Proofs
theorem J_picks2 {E : World} {A B : As} {l m : List As} {n : Nat} {F : Env} {K : Act → World → Prop} (hp : Picks [A, B] l m) (k : Jk E (A :: B :: m) n F K) : Jk E l n F K := fun w a H hF => k w a (hp.sep H) hF
/-! ### maps.DeleteFunc at pages -/
section
variable {κ υ : Type} [DecidableEq κ] {q : κ → υ → Bool} {ps : List (κ × υ)} {done : List κ} {a : κ} {u : υ}
def cur (q : κ → υ → Bool) (ps : List (κ × υ)) (done : List κ) : List (κ × υ) := ps.filter fun e => !(decide (e.1 ∈ done) && q e.1 e.2)
end
end Go.Pse
namespace Go.Pse
open Go.RowKit Go.Proofs
def rem {α : Type} (xs : List (Int × α)) (u : Int) : List (Int × α) := xs.filter fun x => !decide (x.1 = u)
def kGone (s : KS) (k u : Int) : KS :=
  if k = 4 then { s with ep := rem s.ep u } else if k = 5 then { s with nt := rem s.nt u } else if k = 7 then { s with rp := rem s.rp u } else if k = 3 then { s with mp := s.mp.filter fun e => !decide (e.2.1 = u) } else if k = 8 then { s with mp := s.mp.filter fun e => !decide (e.1.1 = u), sp := del s.sp u } else if k = 6 then { s with q := qRem s.q u, th := del s.th u } else if k = 9 then { s with rg := rem s.rg u } else s
end Go.Pse
namespace Go.Pse
open Go.RowKit Go.Proofs
/-! ### plain: requests -/
def cmpQ (a b : Rq) : Int := cmpZ a.id.2 b.id.2
theorem cmpQ_lt (a b : Rq) : Go.Proofs.ltOf cmpQ a b = decide (a.id.2 < b.id.2) := by
  have : (cmpQ a b < 0) ↔ a.id.2 < b.id.2 := by
    unfold cmpQ cmpZ
    (repeat' split) <;> omega
  unfold Go.Proofs.ltOf
  rw [Bool.eq_iff_iff]
  simp [this]
theorem cmpQ_swo : Go.Sort.SWO (Go.Proofs.ltOf cmpQ) where
  irrefl x := by rw [cmpQ_lt]; simp
  trans x y z h1 h2 := by rw [cmpQ_lt] at *; simp at *; omega
  ntrans x y z h1 h2 := by rw [cmpQ_lt] at *; simp at *; omega
instance : Inhabited Rq := ⟨⟨(0, 0), ⟨0, 0, 0, 0, 0, 0, 0, 0⟩, 0, false, false⟩⟩
def q00 : Rq := ⟨(0, 0), ⟨0, 0, 0, 0, 0, 0, 0, 0⟩, 0, false, false⟩
def Ids (ps : List (ID × Rq)) : Prop := ∀ e ∈ ps, e.2.id = e.1
def ofRing (ps : List (ID × Rq)) (g : Int) : List Rq := (ps.filter fun e => decide (e.1.1 = g)).map Prod.snd
def ofQ (ps : List (ID × Rq)) (g : Int) : List Rq := sortF cmpQ (ofRing ps g)
theorem ofQ_len (ps : List (ID × Rq)) (g : Int) : (ofQ ps g).length ≤ ps.length := by
  unfold ofQ ofRing; rw [sortF_len, List.length_map]; exact List.length_filter_le _ _
theorem ofRing_mem {ps : List (ID × Rq)} {g : Int} {x : Rq} : x ∈ ofRing ps g ↔ ∃ k, (k, x) ∈ ps ∧ k.1 = g := by
  unfold ofRing
  rw [List.mem_map]
  constructor
  · rintro ⟨e, he, rfl⟩
    have := List.mem_filter.1 he
    exact ⟨e.1, this.1, by simpa using this.2⟩
  · rintro ⟨k, h1, h2⟩
    exact ⟨(k, x), List.mem_filter.2 ⟨h1, by simpa using h2⟩, rfl⟩
theorem ofQ_mem {ps : List (ID × Rq)} {g : Int} {x : Rq} : x ∈ ofQ ps g ↔ ∃ k, (k, x) ∈ ps ∧ k.1 = g := by unfold ofQ; rw [sortF_mem, ofRing_mem]
theorem ofQ_parts {ps : List (ID × Rq)} {g : Int} (hK : Keyd ps) (hI : Ids ps) {xs : List Rq} (hx : xs.Perm (ofRing ps g)) : ∀ x ∈ xs, ∀ y ∈ xs, Go.Proofs.ltOf cmpQ x y = false → Go.Proofs.ltOf cmpQ y x = false → x = y := fun x h1 y h2 h3 h4 => by
  obtain ⟨k1, a1, b1⟩ := ofRing_mem.1 (hx.mem_iff.1 h1)
  obtain ⟨k2, a2, b2⟩ := ofRing_mem.1 (hx.mem_iff.1 h2)
  rw [cmpQ_lt] at h3 h4
  have e1 : x.id = k1 := hI _ a1
  have e2 : y.id = k2 := hI _ a2
  have : k1 = k2 := Prod.ext (b1.trans b2.symm) (by rw [← e1, ← e2]; simp at h3 h4; omega)
  subst this
  have g1 := look_mem hK a1
  rw [look_mem hK a2] at g1
  exact (Option.some.inj g1).symm
def comeQ (ps : List (ID × Rq)) (g : Int) (done : List ID) : List Rq := (done.filter fun k => decide (k.1 = g)).filterMap (look ps)
theorem comeQ_on {ps : List (ID × Rq)} {g : Int} {done : List ID} {k : ID} {u : Rq} (hK : Keyd ps) (hm : (k, u) ∈ ps) (h : k.1 = g) : comeQ ps g (done ++ [k]) = comeQ ps g done ++ [u] := by
  unfold comeQ
  rw [List.filter_append, List.filterMap_append]
  congr 1
  simp [h, look_mem hK hm]
theorem comeQ_off {ps : List (ID × Rq)} {g : Int} {done : List ID} {k : ID} (h : ¬ k.1 = g) : comeQ ps g (done ++ [k]) = comeQ ps g done := by
  unfold comeQ
  rw [List.filter_append, List.filterMap_append]
  simp [h]
theorem comeQ_len (ps : List (ID × Rq)) (g : Int) (done : List ID) : (comeQ ps g done).length ≤ done.length := Nat.le_trans (List.length_filterMap_le _ _) (List.length_filter_le _ _)
theorem filterMap_look {ps : List (ID × Rq)} (hK : Keyd ps) (g : Int) : ∀ qs : List (ID × Rq), (∀ e ∈ qs, e ∈ ps) → ((qs.map Prod.fst).filter fun k => decide (k.1 = g)).filterMap (look ps) = (qs.filter fun e => decide (e.1.1 = g)).map Prod.snd
  | [], _ => rfl
  | e :: qs, h => by
    have h1 := look_mem hK (h e (List.mem_cons_self))
    have h2 := filterMap_look hK g qs fun e he => h e (List.mem_cons_of_mem _ he)
    rw [List.map_cons, List.filter_cons, List.filter_cons]
    by_cases hg : e.1.1 = g
    · rw [if_pos (by simpa using hg), if_pos (by simpa using hg), List.filterMap_cons_some h1, List.map_cons, h2]
    · rw [if_neg (by simpa using hg), if_neg (by simpa using hg), h2]
theorem comeQ_perm {ps : List (ID × Rq)} {g : Int} {done : List ID} (hK : Keyd ps) (h : done.Perm (ps.map Prod.fst)) : (comeQ ps g done).Perm (ofRing ps g) := by
  unfold comeQ ofRing
  rw [← filterMap_look hK g ps fun _ h => h]
  exact (h.filter _).filterMap _
def addOk (ps : List (ID × Rq)) (q : Rq) : Bool := !(look ps q.id).isSome && decide ((ofQ ps q.id.1).length < 16)
def addQ (ps : List (ID × Rq)) (q : Rq) : List (ID × Rq) := if addOk ps q then ins ps q.id q else ps
def afterQ (ps : List (ID × Rq)) (i : ID) : Option Rq := (ofQ ps i.1).find? fun r => decide (r.prev = i.2)
theorem Ids.ins {ps : List (ID × Rq)} (h : Ids ps) (q : Rq) : Ids (ins ps q.id q) := fun e he => by
  unfold Go.Pse.ins at he
  split at he
  · obtain ⟨x, hx, rfl⟩ := List.mem_map.1 he
    split
    · rfl
    · exact h x hx
  · rcases List.mem_append.1 he with h1 | h1
    · exact h e h1
    · rw [List.mem_singleton.1 h1]
theorem Ids.add {ps : List (ID × Rq)} (h : Ids ps) (q : Rq) : Ids (addQ ps q) := by unfold addQ; split <;> first | exact h.ins q | exact h
theorem Ids.del {ps : List (ID × Rq)} (h : Ids ps) (i : ID) : Ids (del ps i) := fun e he => h e (List.mem_filter.1 he).1
theorem Ids.nil : Ids [] := fun _ h => by cases h
theorem rtHas {E : World} {l m : List As}  {b o : Nat} {ps : List (ID × Rq)} (hp : Pick (rtA b o ps) l m) {i : ID} :
    Con Tryz.prog 108 #[.pointer (some ⟨b, o, none⟩), .agg (encI i).toArray] E l (fun _ : Unit => .bool (look ps i).isSome) (fun _ => rtA b o ps :: m) := by
  refine Con.body (vs := [.pointer (some ⟨b, o, none⟩), .agg (encI i).toArray]) (n := 17) Tryz.func108 rfl rfl [(0, .pointer (some ⟨b, o, none⟩)), (1, .agg (encI i).toArray)] (env_ok 2 rfl) <| J_pick hp <| J_rtO fun ob _ => sr <| L_op <| x_box rfl rfl rfl fun b3 => ag rfl rfl <| nq ?_
  refine J_seq <| J_drawL none mixed <| ip 0 rfl rfl rfl rfl (p_move rfl) <| ip 1 rfl rfl rfl rfl (p_nilCheck rfl) <| ip 2 rfl rfl rfl rfl (p_fieldAddr rfl fa138_0) <| iv 3 rfl rfl rfl rfl (fun _ => v_loadL rfl ty136 HS rfl (by exact rfl)) ?_
  refine iv 4 rfl rfl rfl rfl (fun _ => v_loadA rfl ty36 HS CT) ?_
  refine iv 5 rfl rfl rfl rfl (fun _ => v_lookOk (ek := kI) (ev := evQ) (a := i) rfl rfl ky36 Tryz.underlying136 zv122 HS) ?_
  refine J_slot (t := 13) (v := .tuple #[evQ ((look ps i).getD q00), .bool (look ps i).isSome]) rfl (by cases look ps i <;> rfl) <| ip 6 rfl rfl rfl rfl (p_move rfl) <| ip 7 rfl rfl rfl rfl (p_extract rfl rfl) <| ip 8 rfl rfl rfl rfl (p_extract rfl rfl) <| i1 9 rfl <| x_alloc ty122 rfl fun b5 => i1 10 rfl <| x_store rfl rfl ty122 rfl SM SM RO PT ?_
  refine ip 11 rfl rfl rfl rfl (p_assign rfl) <| i0 <| qx <| mv rfl rfl <| ag rfl rfl <| nq <| J_ret <| J_rtS (b := b) (o := o) (ps := ps) _ PX trivial ?_
  exact J_return (()) Tryz.results108 (.tmp rfl .nil) rfl SU
theorem rtGetC {E : World} {l m : List As}  {b o : Nat} {ps : List (ID × Rq)} (hp : Pick (rtA b o ps) l m) {i : ID} :
    Con Tryz.prog 69 #[.pointer (some ⟨b, o, none⟩), .agg (encI i).toArray] E l (fun _ : Unit => .tuple #[evQ ((look ps i).getD q00), .bool (look ps i).isSome]) (fun _ => rtA b o ps :: m) := by
  refine Con.body (vs := [.pointer (some ⟨b, o, none⟩), .agg (encI i).toArray]) (n := 19) Tryz.func69 rfl rfl [(0, .pointer (some ⟨b, o, none⟩)), (1, .agg (encI i).toArray)] (env_ok 2 rfl) <| J_pick hp <| J_rtO fun ob _ => sr <| L_op <| x_box rfl rfl rfl fun b3 => L_op <| x_alloc ty122 rfl fun b4 => ?_
  refine ag rfl rfl <| nq <| J_seq <| J_drawL none mixed <| ip 0 rfl rfl rfl rfl (p_move rfl) <| ip 1 rfl rfl rfl rfl (p_nilCheck rfl) <| ip 2 rfl rfl rfl rfl (p_fieldAddr rfl fa138_0) <| iv 3 rfl rfl rfl rfl (fun _ => v_loadL rfl ty136 HS rfl (by exact rfl)) ?_
  refine iv 4 rfl rfl rfl rfl (fun _ => v_loadA rfl ty36 HS CT) ?_
  refine iv 5 rfl rfl rfl rfl (fun _ => v_lookOk (ek := kI) (ev := evQ) (a := i) rfl rfl ky36 Tryz.underlying136 zv122 HS) ?_
  refine J_slot (t := 14) (v := .tuple #[evQ ((look ps i).getD q00), .bool (look ps i).isSome]) rfl (by cases look ps i <;> rfl) <| ip 6 rfl rfl rfl rfl (p_move rfl) <| ip 7 rfl rfl rfl rfl (p_extract rfl rfl) <| ip 8 rfl rfl rfl rfl (p_extract rfl rfl) <| i1 9 rfl <| x_alloc ty122 rfl fun b6 => i1 10 rfl <| x_store rfl rfl ty122 rfl SM SM RO PT ?_
  refine ip 11 rfl rfl rfl rfl (p_assign rfl) <| i0 <| qx <| L_val rfl (v_loadA rfl ty122 HS CT) ?_
  refine mv rfl rfl <| L_op <| x_store rfl rfl ty122 rfl SM SM RO PT ?_
  refine ag rfl rfl <| nq <| J_ret <| J_rtS (b := b) (o := o) (ps := ps) _ PX trivial ?_
  refine J_return (()) Tryz.results69 (.cellA rfl ty122 HS CT (.tmp rfl .nil)) ?_ ?_
  · rfl
  · exact SU
theorem rtDropC {E : World} {l m : List As}  {b o : Nat} {ps : List (ID × Rq)} (hp : Pick (rtA b o ps) l m) {i : ID} :
    Con Tryz.prog 119 #[.pointer (some ⟨b, o, none⟩), .agg (encI i).toArray] E l (fun _ : Unit => .bool (look ps i).isSome) (fun _ => rtA b o (del ps i) :: m) := by
  refine Con.body (vs := [.pointer (some ⟨b, o, none⟩), .agg (encI i).toArray]) (n := 15) Tryz.func119 rfl rfl [(0, .pointer (some ⟨b, o, none⟩)), (1, .agg (encI i).toArray)] (env_ok 2 rfl) <| J_pick hp <| sr <| L_op <| x_box rfl rfl rfl fun b3 => ag rfl rfl <| nx <| mv rfl rfl ?_
  refine L_val rfl (v_loadA rfl ty36 HS CT) ?_
  refine L_op <| xc fc108 (.cons rfl (.cons rfl .nil)) rfl (rtHas (ps := ps) (i := i) PC) fun _ => ?_
  refine ag rfl rfl <| nq <| J_seq <| J_pick (A := rtA b o ps) PC ?_
  refine J_rtO fun ob _ => J_drawT 5 mixed (by kernel_rfl) <| sm rfl rfl <| sp rfl (p_nilCheck rfl) <| sp rfl (p_fieldAddr rfl fa138_0) <| S_val rfl (v_loadL rfl ty136 HS rfl (by exact rfl)) ?_
  refine S_val rfl (v_loadA rfl ty36 HS CT) ?_
  refine S_nil <| L_op <| x_delete (ek := kI) (ev := evQ) (a := i) rfl rfl ky36 Tryz.underlying136 PC ?_
  refine nx <| mv rfl rfl <| ag rfl rfl <| nq <| J_ret <| J_rtS (b := b) (o := o) (ps := del ps i) _ PX trivial ?_
  exact J_return (()) Tryz.results119 (.tmp rfl .nil) rfl SU
theorem cmpReq {E : World} {l : List As} {a b : Rq} :
    Con Tryz.prog 75 #[.agg (encQ a).toArray, .agg (encQ b).toArray] E l (fun _ : Unit => .int .i64 (cmpQ a b)) (fun _ => l) := by
  refine Con.body (vs := [.agg (encQ a).toArray, .agg (encQ b).toArray]) (n := 12) Tryz.func75 rfl rfl [(0, .agg (encQ a).toArray), (1, .agg (encQ b).toArray)] (env_ok 2 rfl) <| sr <| L_op <| x_box rfl rfl rfl fun b2 => L_op <| x_box rfl rfl rfl fun b3 => ag rfl rfl <| nx ?_
  refine fa rfl rfl fa122_0 <| fa rfl rfl fa36_1 <| L_val rfl (v_load rfl ty3 HS (by exact rfl)) ?_
  refine fa rfl rfl fa122_0 <| fa rfl rfl fa36_1 <| L_val rfl (v_load rfl ty3 HS (by exact rfl)) ?_
  refine L_op <| xc fc76 (.cons rfl (.cons rfl .nil)) rfl (cmpZC (x := a.id.2) (y := b.id.2)) fun _ => ag rfl rfl <| nq <| J_ret ?_
  refine J_return (()) Tryz.results75 (.tmp rfl .nil) ?_ ?_
  · rfl
  · exact SU
theorem reqSort {E : World} {l m : List As} {v : Value} {xs : List Rq} (hp : Pick (row 122 13 v (xs.map encQ)) l m) (hT : ∀ x ∈ xs, ∀ y ∈ xs, Go.Proofs.ltOf cmpQ x y = false → Go.Proofs.ltOf cmpQ y x = false → x = y) (hb : xs.length ≤ 1000000) :
    Con Tryz.prog 74 #[v, .func (.func 75) #[] #[]] E l (fun _ : Unit => .tuple #[]) (fun _ => row 122 13 v ((sortF cmpQ xs).map encQ) :: m) :=
  con_sortO Tryz.sortRq (fun w => ty122.isAgg w) (fun w => ty122.sizeOf w) (fun _ => rfl) (fun x v hv => by simp [encQ] at hv; rcases hv with rfl | rfl | rfl | rfl | rfl | rfl | rfl | rfl | rfl | rfl | rfl | rfl | rfl <;> rfl) cmpQ_swo hT (enters_of Tryz.func75 nm75 rfl) (fun x y W => cmpReq) hb hp
theorem rtOf {E : World} {l m : List As} {b o : Nat} {ps : List (ID × Rq)} (hp : Pick (rtA b o ps) l m) {g : Int} (hI : Ids ps) (hb : ps.length ≤ 100000) :
  Con Tryz.prog 23 #[.pointer (some ⟨b, o, none⟩), .int .i64 g] E l (fun v : Value => v) (fun v => row 122 13 v ((ofQ ps g).map encQ) :: rtA b o ps :: m) := by
 refine Con.body (vs := [.pointer (some ⟨b, o, none⟩), .int .i64 g]) (n := 29) Tryz.func23 rfl rfl [(0, .pointer (some ⟨b, o, none⟩)), (1, .int .i64 g)] (env_ok 2 rfl) <| J_pick hp <| J_rtO fun ob _ => sr <| ag rfl rfl <| nx <| ag rfl rfl <| J_nil (el := 122) (sz := 13) ?_
 refine nxx <| mv rfl rfl <| nc rfl rfl <| fa rfl rfl fa138_0 <| L_val rfl (v_loadL rfl ty136 HS rfl (by exact rfl)) ?_
 refine L_op <| x_range (ek := kI) (ev := evQ) rfl Tryz.underlying136 PC rfl fun r12 => ?_
 refine nq <| J_block <| J_rangeKeyd (ek := kI) (ev := evQ) (ps := ps) HS fun hK => ?_
 refine J_loop2 (fun done v => Come ps done) (fun done v => rangeA kI evQ (.map ob) r12 ps done :: row 122 13 v ((comeQ ps g done).map encQ) :: fld b o [.map ob] :: m) (fun done v => [(12, .pointer (some ⟨r12, 0, none⟩)), (5, v), (0, .pointer (some ⟨b, o, none⟩)), (1, .int .i64 g)]) (fun done v => ps.length - done.length) [] _ Come.nil SU KE ?_
 intro done v hC
 refine sr ?_
 refine L_op (x_next (ek := kI) (ev := evQ) rfl PC rfl (fun k13 u13 hm13 hn13 => ?_) (fun hd13 => ?_))
 have hlt := hC.lt hK hm13 hn13
 have hcl := comeQ_len ps g done
 refine L_pur rfl (p_extract rfl rfl) <| nq <| J_seq <| C_true rfl <| J_skip <| Q_then <| J_block <| sr ?_
 refine L_val rfl (v_entry (ek := kI) (ev := evQ) rfl HS (by simp) hm13) ?_
 refine L_pur rfl (p_extract rfl rfl) <| L_pur rfl (p_extract rfl rfl) <| L_op <| x_alloc ty36 rfl fun b6 => L_op <| x_alloc ty122 rfl fun b7 => L_op <| x_store rfl rfl ty36 rfl SM SM RO PT ?_
 refine L_op <| x_store rfl rfl ty122 rfl SM SM RO PT ?_
 refine nx <| fa rfl rfl fa36_0 <| L_val rfl (v_load rfl ty3 HS (by exact rfl)) ?_
 refine mv rfl rfl <| L_pur rfl (p_eql rfl rfl) <| nq ?_
 refine C_dec rfl (fun h21 => ?_) (fun h21 => ?_)
 refine J_region <| mv rfl rfl <| L_val rfl (v_loadA rfl ty122 HS CT) ?_
 refine L_op <| x_lit (vals := [_]) Tryz.underlying46 ty122 rfl (.cons rfl .nil) (.agg .nil) (Wf.cons rfl rfl Wf.nil) rfl (by decide) rfl rfl <| JR fun a24 c24 hw24 hl24 hm24 hz24 => L_op <| x_app rfl rfl Tryz.underlying46 ty122 rfl rfl PC (fun w H => sep_reads HS H) (by simp; omega) (by simp; omega) rfl <| JE ((comeQ ps g (done ++ [k13])).map encQ) (by rw [comeQ_on hK hm13 h21]; simp) fun a25 c25 hw25 hl25 hm25 hz25 => ag rfl rfl <| J_nil (el := 122) (sz := 13) ?_
 refine L_nil <| Q_blk_normal <| Q_then ?_
 
 exact J_again2 (done ++ [k13]) _ (by have := hC.lt hK hm13 hn13; simp; omega) (hC.step hm13 hn13) SU KE
 refine J_skip <| Q_blk_normal <| Q_then <| J_pick (A := row 122 13 _ _) PC ?_
 refine J_rowEq (ys := (comeQ ps g (done ++ [k13])).map encQ) (by rw [comeQ_off h21]) ?_
 exact J_again2 (done ++ [k13]) _ (by have := hC.lt hK hm13 hn13; simp; omega) (hC.step hm13 hn13) SU KE
 have hperm := comeQ_perm (g := g) hK (hC.perm hK hd13)
 have hlen : (comeQ ps g done).length ≤ 1000000 := by
  rw [hperm.length_eq]
  have h1 := ofQ_len ps g
  unfold ofQ at h1
  rw [sortF_len] at h1
  omega
 refine L_pur rfl (p_extract rfl rfl) <| nq <| J_seq <| C_false rfl <| J_exit <| Q_then_exit <| Q_then_exit <| Q_blk_this ?_
 refine qx <| mv rfl rfl <| L_op <| xc fc74 (.cons rfl (.cons rfl .nil)) rfl (reqSort (xs := comeQ ps g done) PC (ofQ_parts hK hI hperm) hlen) fun _ => ?_
 refine nx <| mv rfl rfl <| ag rfl rfl <| nq <| J_ret <| J_pick (A := row 122 13 v _) PC ?_
 refine J_rowEq (ys := (ofQ ps g).map encQ) (by rw [sortF_permOn cmpQ_swo (ofQ_parts hK hI hperm) hperm]; rfl) <| J_pick (A := rangeA kI evQ _ _ _ _) PC ?_
 refine J_rangeEnd <| J_rtS (b := b) (o := o) (ps := ps) _ PX trivial ?_
 exact J_return (v) Tryz.results23 (.tmp rfl .nil) rfl SU
theorem rtAddC {E : World} {l m : List As}  {b o : Nat} {ps : List (ID × Rq)} (hp : Pick (rtA b o ps) l m) {q : Rq} (hI : Ids ps) (hb : ps.length ≤ 100000) :
    Con Tryz.prog 64 #[.pointer (some ⟨b, o, none⟩), .agg (encQ q).toArray] E l (fun _ : Unit => .bool (addOk ps q)) (fun _ => rtA b o (addQ ps q) :: m) := by
  refine Con.body (vs := [.pointer (some ⟨b, o, none⟩), .agg (encQ q).toArray]) (n := 34) Tryz.func64 rfl rfl [(0, .pointer (some ⟨b, o, none⟩)), (1, .agg (encQ q).toArray)] (env_ok 2 rfl) <| J_pick hp <| sr <| L_op <| x_box rfl rfl rfl fun b3 => ag rfl rfl <| nxx <| mv rfl rfl ?_
  refine fa rfl rfl fa122_0 <| L_val rfl (v_loadA rfl ty36 HS CT) ?_
  refine L_op <| xc fc108 (.cons rfl (.cons rfl .nil)) rfl (rtHas (ps := ps) (i := q.id) PC) fun _ => ?_
  refine mv rfl rfl ?_
  refine J_gsplit (t := 9) rfl (fun h9 => ?_) (fun h9 => ?_)
  refine L_op <| G_off rfl rfl rfl rfl rfl rfl <| L_op <| G_off rfl rfl rfl rfl rfl rfl <| L_op <| G_off rfl rfl rfl rfl rfl rfl <| L_op <| G_off rfl rfl rfl rfl rfl rfl ?_
  refine L_op <| G_off rfl rfl rfl rfl rfl rfl <| L_op <| G_off rfl rfl rfl rfl rfl rfl <| L_op <| G_off rfl rfl rfl rfl rfl rfl <| L_pur rfl (p_pick_t rfl rfl) <| nq ?_
  refine C_true rfl <| sr <| ag rfl rfl <| nq <| J_ret <| Q_then_ret <| J_pick (A := rtA b o _) PC ?_
  refine J_asTo (B := rtA b o (addQ ps q)) (by simp_all [addQ, addOk]) ?_
  refine J_return (()) Tryz.results64 (.tmp rfl .nil) ?_ ?_
  · first | (simp_all [one, addOk]; done) | (simp_all [one, addOk] <;> omega)
  · exact SU
  refine L_op <| G_on rfl rfl rfl <| J_pur (p_move rfl) rfl rfl rfl <| L_op <| G_on rfl rfl rfl <| J_pur (p_fieldAddr rfl fa122_0) rfl rfl rfl <| L_op <| G_on rfl rfl rfl ?_
  refine J_pur (p_fieldAddr rfl fa36_0) rfl rfl rfl <| L_op <| G_on rfl rfl rfl <| J_val (v_load rfl ty3 HS (by exact rfl)) rfl rfl rfl ?_
  refine L_op <| G_on rfl rfl rfl <| xc fc23 (.cons rfl (.cons rfl .nil)) rfl (rtOf (ps := ps) (g := q.id.1) PC hI hb) <| JR fun a14 c14 hw14 hl14 hm14 hz14 => L_op <| G_on rfl rfl rfl <| J_pur (p_len rfl Tryz.underlying46) rfl rfl rfl <| J_slot (t := 15) (v := .int .i64 ((ofQ ps q.id.1).length : Int)) rfl (by simp) ?_
  refine L_op <| G_on rfl rfl rfl <| J_pur (p_geq rfl rfl) rfl rfl rfl ?_
  have hol := ofQ_len ps q.id.1
  refine L_pur rfl (p_pick_f rfl rfl) <| nq ?_
  refine C_dec rfl (fun h17 => ?_) (fun h17 => ?_)
  refine sr <| ag rfl rfl <| nq <| J_ret <| Q_then_ret <| J_pick (A := rtA b o _) PC ?_
  refine J_asTo (B := rtA b o (addQ ps q)) (by rw [show addQ ps q = ps from if_neg (by unfold addOk; simp; intro _; omega)]) ?_
  refine J_return (()) Tryz.results64 (.tmp rfl .nil) ?_ ?_
  · first | (simp_all [one, addOk]; done) | (simp_all [one, addOk] <;> omega)
  · exact SU
  refine J_skip <| Q_then <| J_seq <| J_seq <| J_pick (A := rtA b o ps) PC ?_
  refine J_rtO fun ob _ => J_region <| mv rfl rfl <| nc rfl rfl <| fa rfl rfl fa138_0 <| L_val rfl (v_loadL rfl ty136 HS rfl (by exact rfl)) ?_
  refine L_pur rfl (p_eqNilMap Tryz.underlying136 rfl) <| nq ?_
  refine C_split rfl (fun h22 => ?_) (fun h22 => ?_)
  obtain rfl : ob = none := by simpa using h22
  refine J_mapNone (ps := ps) HS fun hps => ?_
  subst hps
  refine J_region <| mv rfl rfl <| L_op <| x_makeMap (ek := kI) (ev := evQ) rfl fun b24 => nc rfl rfl <| fa rfl rfl fa138_0 <| L_op <| x_storeL rfl rfl ty136 rfl SM SM rfl RO rfl PT ?_
  refine nq <| J_seq <| J_drawT 7 mixed (by kernel_rfl) <| sm rfl rfl <| sp rfl (p_nilCheck rfl) <| sp rfl (p_fieldAddr rfl fa138_0) <| S_val rfl (v_loadL rfl ty136 HS rfl (by exact rfl)) ?_
  refine sp rfl (p_fieldAddr rfl fa122_0) <| S_val rfl (v_loadA rfl ty36 HS CT) ?_
  refine S_val rfl (v_loadA rfl ty122 HS CT) ?_
  refine S_nil <| L_op <| x_mapUpdate (ek := kI) (ev := evQ) (a := q.id) (c := q) rfl rfl rfl ky36 Tryz.underlying136 PC ?_
  refine nx <| ag rfl rfl <| nq <| J_ret <| J_rtS (b := b) (o := o) (ps := ins [] q.id q) _ PX trivial ?_
  refine J_pick (A := rtA b o _) PC ?_
  refine J_asTo (B := rtA b o (addQ [] q)) (by rw [show addQ [] q = ins [] q.id q from if_pos (by unfold addOk; simp at h9 h17 ⊢; exact ⟨h9, by omega⟩)]) ?_
  refine J_return (()) Tryz.results64 (.tmp rfl .nil) ?_ ?_
  · first | (simp_all [one, addOk]; done) | (simp_all [one, addOk] <;> omega)
  · exact SU
  obtain ⟨bm, rfl⟩ : ∃ bm, ob = some bm := by cases ob with | none => simp at h22 | some x => exact ⟨x, rfl⟩
  refine J_skip <| Q_then <| J_seq <| J_drawT 7 mixed (by kernel_rfl) <| sm rfl rfl <| sp rfl (p_nilCheck rfl) <| sp rfl (p_fieldAddr rfl fa138_0) <| S_val rfl (v_loadL rfl ty136 HS rfl (by exact rfl)) ?_
  refine sp rfl (p_fieldAddr rfl fa122_0) <| S_val rfl (v_loadA rfl ty36 HS CT) ?_
  refine S_val rfl (v_loadA rfl ty122 HS CT) ?_
  refine S_nil <| L_op <| x_mapUpdate (ek := kI) (ev := evQ) (a := q.id) (c := q) rfl rfl rfl ky36 Tryz.underlying136 PC ?_
  refine nx <| ag rfl rfl <| nq <| J_ret <| J_rtS (b := b) (o := o) (ps := ins ps q.id q) _ PX trivial ?_
  refine J_pick (A := rtA b o _) PC ?_
  refine J_asTo (B := rtA b o (addQ ps q)) (by rw [show addQ ps q = ins ps q.id q from if_pos (by unfold addOk; simp at h9 h17 ⊢; exact ⟨h9, by omega⟩)]) ?_
  refine J_return (()) Tryz.results64 (.tmp rfl .nil) ?_ ?_
  · first | (simp_all [one, addOk]; done) | (simp_all [one, addOk] <;> omega)
  · exact SU
theorem find_here {α : Type} {p : α → Bool} {xs : List α} {k : Nat} {c : α} (h0 : ∀ c ∈ xs.take k, p c = false) (h : xs[k]? = some c) (hc : p c = true) : xs.find? p = some c := by
  have hl := (List.getElem?_eq_some_iff.1 h).1
  have e : xs = xs.take k ++ c :: xs.drop (k + 1) := by
    rw [← (List.getElem?_eq_some_iff.1 h).2, ← List.drop_eq_getElem_cons hl, List.take_append_drop]
  rw [e, List.find?_append, List.find?_eq_none.2 (fun x hx => by simp [h0 x hx]), List.find?_cons, hc]; rfl
theorem find_gone {α : Type} {p : α → Bool} {xs : List α} (h0 : ∀ c ∈ xs, p c = false) : xs.find? p = none := List.find?_eq_none.2 fun x hx => by simp [h0 x hx]
theorem rtAfterC {E : World} {l m : List As}  {b o : Nat} {ps : List (ID × Rq)} (hp : Pick (rtA b o ps) l m) {i : ID} (hI : Ids ps) (hb : ps.length ≤ 100000) :
    Con Tryz.prog 122 #[.pointer (some ⟨b, o, none⟩), .agg (encI i).toArray] E l (fun _ : Unit => .tuple #[evQ ((afterQ ps i).getD q00), .bool (afterQ ps i).isSome]) (fun _ => rtA b o ps :: m) := by
  refine Con.body (vs := [.pointer (some ⟨b, o, none⟩), .agg (encI i).toArray]) (n := 25) Tryz.func122 rfl rfl [(0, .pointer (some ⟨b, o, none⟩)), (1, .agg (encI i).toArray)] (env_ok 2 rfl) <| J_pick hp <| sr <| L_op <| x_box rfl rfl rfl fun b3 => L_op <| x_alloc ty122 rfl fun b4 => ag rfl rfl ?_
  refine nxx <| mv rfl rfl <| fa rfl rfl fa36_0 <| L_val rfl (v_load rfl ty3 HS (by exact rfl)) ?_
  refine L_op <| xc fc23 (.cons rfl (.cons rfl .nil)) rfl (rtOf (ps := ps) (g := i.1) PC hI hb) <| JR fun a11 c11 hw11 hl11 hm11 hz11 => ?_
  have hol := ofQ_len ps i.1
  obtain ⟨xs, hxs⟩ : ∃ xs, xs = ofQ ps i.1 := ⟨_, rfl⟩
  refine J_pick (A := row 122 13 _ _) PC ?_
  refine J_rowTo (ys := xs.map encQ) (v' := .slice a11 (xs.map encQ).length c11) (by rw [hxs]) (by rw [hxs]) <| J_slot (t := 11) (v := .slice a11 (xs.map encQ).length c11) rfl (by rw [hxs]) ?_
  rw [← hxs] at hol hz11
  have hm : c11 ≤ 9223372036854775807 := hm11
  have hml : (xs.map encQ).length = xs.length := List.length_map _
  refine L_pur rfl (p_len rfl Tryz.underlying46) <| mv rfl rfl <| nq <| J_block <| J_loop (α := Nat) (fun k => k ≤ xs.length ∧ ∀ c ∈ xs.take k, decide (c.prev = i.2) = false) (fun _ => row 122 13 (.slice a11 (xs.map encQ).length c11) (xs.map encQ) :: blk b3 36 (encI i) :: blk b4 122 (encQ q00) :: rtA b o ps :: m) (fun k => [(13, .int .i64 (k : Int)), (11, .slice a11 (xs.map encQ).length c11), (12, .int .i64 ((xs.map encQ).length : Int)), (3, .pointer (some ⟨b3, 0, none⟩)), (4, .pointer (some ⟨b4, 0, none⟩))]) (fun k => xs.length - k) 0 ⟨by omega, by simp⟩ SU KE ?_
  intro k hk
  obtain ⟨hk, h0⟩ := hk
  refine sr <| L_pur rfl (p_lss rfl rfl) <| nq <| J_seq ?_
  refine C_dec rfl (fun h14 => ?_) (fun h14 => ?_)
  have hlt : k < xs.length := by omega
  obtain ⟨bx, ox, rfl⟩ := hz11 (by intro h; rw [h] at hml; simp at hml; omega)
  obtain ⟨c, hcc⟩ : ∃ c, xs[k]? = some c := ⟨_, List.getElem?_eq_getElem hlt⟩
  refine J_skip <| Q_then <| J_seq <| J_block <| sr <| L_pur rfl (p_indexAddr rfl rfl Tryz.underlying46 ty122 (by omega) (by omega)) ?_
  refine L_val rfl (v_loadE rfl ty122 HS (by first | (simp only [Int.toNat_natCast, List.getElem?_map, hcc]; rfl) | (simp only [Int.toNat_natCast, List.getElem?_map, hcd]; rfl) | simp | rfl)) ?_
  refine L_op <| x_alloc ty122 rfl fun b7 => L_op <| x_store rfl rfl ty122 rfl SM SM RO PT ?_
  refine nx <| fa rfl rfl fa122_2 <| L_val rfl (v_load rfl ty3 HS (by exact rfl)) ?_
  refine fa rfl rfl fa36_1 <| L_val rfl (v_load rfl ty3 HS (by exact rfl)) ?_
  refine L_pur rfl (p_eql rfl rfl) <| nq ?_
  refine C_dec rfl (fun h21 => ?_) (fun h21 => ?_)
  have haf : afterQ ps i = some c := by unfold afterQ; rw [← hxs]; exact find_here h0 hcc (by simpa using h21)
  refine sr <| L_val rfl (v_loadA rfl ty122 HS CT) ?_
  refine L_op <| x_store rfl rfl ty122 rfl SM SM RO PT ?_
  refine ag rfl rfl <| nq <| J_ret <| Q_blk_ret <| Q_then_ret <| Q_then_ret <| Q_blk_ret <| Q_then_ret ?_
  refine J_return (()) Tryz.results122 (.cellA rfl ty122 HS CT (.tmp rfl .nil)) ?_ ?_
  · rw [haf]; rfl
  · exact SU
  refine J_skip <| Q_blk_normal <| qr <| L_pur rfl (p_add64 rfl rfl (by omega)) <| mv rfl rfl <| nq ?_
  exact J_again (k + 1) (by omega) (⟨by omega, take_false_succ h0 hcc (by simpa using h21)⟩) SU KE
  have haf : afterQ ps i = none := by
    unfold afterQ; rw [← hxs]
    exact find_gone (by rw [show k = xs.length by omega, List.take_length] at h0; exact h0)
  refine J_exit <| Q_then_exit <| Q_then_exit <| Q_blk_this <| qx <| L_pur rfl (bld122 .nil (by repeat constructor)) <| L_op <| x_store rfl rfl ty122 rfl SM SM RO PT ?_
  refine ag rfl rfl <| nq <| J_ret ?_
  refine J_return (()) Tryz.results122 (.cellA rfl ty122 HS CT (.tmp rfl .nil)) ?_ ?_
  · rw [haf]; rfl
  · exact SU
end Go.Pse
namespace Go.Pse
open Go.RowKit Go.Proofs
/-! ### plain: numbers in bytes -/
def le4 (n : Int) : List Int := [n % 256, n / 256 % 256, n / 65536 % 256, n / 16777216 % 256]
def putB (bs : List Int) (a : Nat) (ys : List Int) : List Int := bs.take a ++ ys ++ bs.drop (a + ys.length)
def byteAt (bs : List Int) (k : Nat) : Int := (bs[k]?).getD 0
def getN (bs : List Int) (a : Nat) : Nat → Int
  | 0 => 0
  | i + 1 => getN bs a i + byteAt bs (a + i) * 2 ^ (8 * i)
def Bytes (bs : List Int) : Prop := ∀ x ∈ bs, 0 ≤ x ∧ x ≤ 255
theorem byteAt_is {bs : List Int} (h : Bytes bs) (k : Nat) : 0 ≤ byteAt bs k ∧ byteAt bs k ≤ 255 := by
  unfold byteAt
  cases hk : bs[k]? with
  | none => simp
  | some x => exact h x (List.mem_of_getElem? hk)
theorem getN_is {bs : List Int} (h : Bytes bs) (a : Nat) : ∀ i, 0 ≤ getN bs a i ∧ getN bs a i < 2 ^ (8 * i)
  | 0 => by simp [getN]
  | i + 1 => by
    have h1 := getN_is h a i
    have h2 := byteAt_is h (a + i)
    have h3 : (2 : Int) ^ (8 * (i + 1)) = 256 * 2 ^ (8 * i) := by rw [show 8 * (i + 1) = 8 * i + 8 by omega, Int.pow_add]; omega
    have h4 : (0 : Int) < 2 ^ (8 * i) := Int.pow_pos (by omega)
    have h5 : byteAt bs (a + i) * 2 ^ (8 * i) ≤ 255 * 2 ^ (8 * i) := Int.mul_le_mul_of_nonneg_right h2.2 (by omega)
    have h6 : 0 ≤ byteAt bs (a + i) * 2 ^ (8 * i) := Int.mul_nonneg h2.1 (by omega)
    rw [getN, h3]
    omega
theorem or_nat {x y : Nat} (k : Nat) (hx : x < 2 ^ k) (hs : y * 2 ^ k < 4294967296) (hxs : x < 4294967296) : bits .or .u32 (x : Int) ((y * 2 ^ k : Nat) : Int) = ((x + y * 2 ^ k : Nat) : Int) := by
  rw [u32_or_nat x _ hxs hs, Nat.or_comm, Nat.mul_comm y, ← Nat.two_pow_add_eq_or_of_lt hx, Nat.add_comm]
theorem or_step {x y : Int} {i : Nat} (hi : i < 4) (hx : 0 ≤ x ∧ x < 2 ^ (8 * i)) (hy : 0 ≤ y ∧ y ≤ 255) : bits .or .u32 x (IntKind.u32.wrap (IntKind.u32.wrap y * 2 ^ (8 * (i : Int)).toNat)) = x + y * 2 ^ (8 * i) := by
  obtain ⟨h1, h2⟩ := hx
  obtain ⟨X, rfl⟩ := Int.eq_ofNat_of_zero_le h1
  obtain ⟨Y, rfl⟩ := Int.eq_ofNat_of_zero_le hy.1
  rw [show (8 * (i : Int)).toNat = 8 * i by omega, wrap32u_of (a := (Y : Int)) (by omega)]
  have hX : X < 2 ^ (8 * i) := by exact_mod_cast h2
  have e : ((Y : Int) * 2 ^ (8 * i)) = ((Y * 2 ^ (8 * i) : Nat) : Int) := by push_cast; rfl
  rw [e]
  have hb : Y * 2 ^ (8 * i) < 4294967296 ∧ X < 4294967296 := by
    have : i = 0 ∨ i = 1 ∨ i = 2 ∨ i = 3 := by omega
    rcases this with rfl | rfl | rfl | rfl <;> simp at hX ⊢ <;> omega
  rw [wrap32u_of (by omega), or_nat _ hX hb.1 hb.2]
  push_cast; rfl
theorem putB_nil {bs : List Int} {a : Nat} : putB bs a [] = bs := by simp [putB]
theorem putB_len {bs ys : List Int} {a : Nat} (h : a + ys.length ≤ bs.length) : (putB bs a ys).length = bs.length := by
  simp [putB]; omega
theorem putB_snoc {bs ys : List Int} {a : Nat} {y : Int} (h : a + ys.length < bs.length) : (putB bs a ys).set (a + ys.length) y = putB bs a (ys ++ [y]) := by
  unfold putB
  rw [List.drop_eq_getElem_cons h, List.set_append_right _ _ (by simp; omega), show a + ys.length - (List.take a bs ++ ys).length = 0 by simp; omega, List.set_cons_zero]
  simp [Nat.add_assoc]
theorem putB_bytes {bs ys : List Int} {a : Nat} (h : Bytes bs) (hy : Bytes ys) : Bytes (putB bs a ys) := fun x hx => by
  unfold putB at hx
  rcases List.mem_append.1 hx with h1 | h1
  · rcases List.mem_append.1 h1 with h2 | h2
    · exact h x (List.mem_of_mem_take h2)
    · exact hy x h2
  · exact h x (List.mem_of_mem_drop h1)
theorem le4_bytes (n : Int) : Bytes (le4 n) := fun x hx => by
  simp [le4] at hx
  rcases hx with rfl | rfl | rfl | rfl <;> omega
theorem le4_at (n : Int) {i : Nat} (h : i < 4) : (le4 n)[i]? = some (n / 2 ^ (8 * i) % 256) := by
  have : i = 0 ∨ i = 1 ∨ i = 2 ∨ i = 3 := by omega
  rcases this with rfl | rfl | rfl | rfl <;> simp [le4]
theorem wrap_u8 (n : Int) : IntKind.u8.wrap n = n % 256 := by simp [IntKind.wrap, IntKind.bits, IntKind.signed]
theorem put_step {bs : List Int} {a i : Nat} {n : Int} (hi : i < 4) (ha : a + 4 ≤ bs.length) :
    ((putB bs a ((le4 n).take i)).map encU).set ((a : Int) + (i : Int)).toNat [.int .u8 (IntKind.u8.wrap (n / 2 ^ (8 * (i : Int)).toNat))] = (putB bs a ((le4 n).take (i + 1))).map encU := by
  have hl : ((le4 n).take i).length = i := by simp [le4]; omega
  rw [List.take_add_one, le4_at n hi, Option.toList_some, ← putB_snoc (by omega), List.map_set, hl, show ((a : Int) + (i : Int)).toNat = a + i by omega, show (8 * (i : Int)).toNat = 8 * i by omega, wrap_u8]
  rfl
theorem getN_part {bs : List Int} {a : Nat} : getN ((bs.drop a).take 4) 0 4 = getN bs a 4 := by
  have h : ∀ k, k < 4 → byteAt ((bs.drop a).take 4) (0 + k) = byteAt bs (a + k) := fun k hk => by
    unfold byteAt; rw [List.getElem?_take_of_lt (by omega), List.getElem?_drop]; simp
  simp only [getN, h 0 (by omega), h 1 (by omega), h 2 (by omega), h 3 (by omega)]
theorem part_bytes {bs : List Int} {a n : Nat} (h : Bytes bs) : Bytes ((bs.drop a).take n) := fun x hx => h x (List.mem_of_mem_drop (List.mem_of_mem_take hx))
theorem clone97 {E : World} {l : List As} {v : Value} {xs : List (List Value)} (hr : ∀ w, Sep E w l → Reads w 1 v xs) (hb : xs.length ≤ 1000000) :
    Con Tryz.prog 97 #[v] E l (fun v' : Value => v') (fun v' => row 5 1 v' xs :: l) := by
  refine Con.body (vs := [v]) (n := 8) Tryz.func97 rfl rfl [(0, v)] (env_ok 1 rfl) <| J_reads hr fun hw a cap hv h1 h2 h3 => ?_
  subst hv
  refine sr <| ag rfl rfl <| nxx <| mv rfl rfl <| L_pur rfl (p_eqnil Tryz.underlying73 rfl) <| nq ?_
  refine C_split rfl (fun h4 => ?_) (fun h4 => ?_)
  obtain rfl : a = none := by simpa using h4
  obtain ⟨rfl, rfl⟩ := h3 rfl
  refine J_nil (el := 5) (sz := 1) <| sr <| ag rfl rfl <| nq <| J_ret <| Q_then_ret ?_
  exact J_return (_) Tryz.results97 (.tmp rfl .nil) rfl SU
  refine J_skip <| qx <| L_op <| x_lit (vals := []) Tryz.underlying73 ty5 rfl .nil .nil Wf.nil rfl (by decide) rfl rfl <| JR fun a5 c5 hw5 hl5 hm5 hz5 => mv rfl rfl <| L_op <| x_app rfl rfl Tryz.underlying73 ty5 rfl rfl PC (fun w H => hr w H.tail) (OM) (OM) rfl ?_
  refine JR fun a7 c7 hw7 hl7 hm7 hz7 => ag rfl rfl <| nq <| J_ret ?_
  exact J_return (_) Tryz.results97 (.tmp rfl .nil) rfl SU
theorem getC {E : World} {l : List As} {v : Value} {bs : List Int} {a : Nat} (hr : ∀ w, Sep E w l → Reads w 1 v (bs.map encU)) (ha : a + 4 ≤ bs.length) (hl : bs.length ≤ 1000000) (hB : Bytes bs) :
    Con Tryz.prog 199 #[v, .int .i64 (a : Int), .int .i64 4] E l (fun _ : Unit => .int .u32 (getN bs a 4)) (fun _ => l) := by
  refine Con.body (vs := [v, .int .i64 (a : Int), .int .i64 4]) (n := 39) Tryz.func199 rfl rfl [(0, v), (1, .int .i64 (a : Int)), (2, .int .i64 4)] (env_ok 3 rfl) <| J_readsB hr fun hw ad cap hv h1 h2 h3 => ?_
  subst hv
  have hm : cap ≤ 9223372036854775807 := h2
  have hml : (bs.map encU).length = bs.length := List.length_map _
  refine sr <| ag rfl rfl <| nx <| ag rfl rfl <| nxx <| mv rfl rfl <| mv rfl rfl <| nq ?_
  refine J_block <| J_loop (α := Nat) (fun i => i ≤ 4) (fun _ => l) (fun i => [(10, .int .i64 (i : Int)), (9, .int .i64 4), (7, .int .u32 (getN bs a i)), (0, .slice ad (bs.map encU).length cap), (1, .int .i64 (a : Int))]) (fun i => 4 - i) 0 (by omega) SU KE ?_
  intro i hi
  refine sr <| L_pur rfl (p_lss rfl rfl) <| nq <| J_seq ?_
  refine C_dec rfl (fun h11 => ?_) (fun h11 => ?_)
  have hlt : a + i < bs.length := by omega
  obtain ⟨bx, ox, rfl⟩ := h3 (by intro h; rw [h] at hml; simp at hml; omega)
  obtain ⟨c, hcc⟩ : ∃ c, bs[a + i]? = some c := ⟨_, List.getElem?_eq_getElem hlt⟩
  have hcB := hB c (List.mem_of_getElem? hcc)
  have hgN := getN_is hB a i
  refine J_skip <| Q_then <| J_seq <| J_block <| sr <| mv rfl rfl <| ag rfl rfl <| nx ?_
  refine mv rfl rfl <| mv rfl rfl <| L_pur rfl (p_neg64 rfl (by omega)) <| L_pur rfl (p_geq rfl rfl) <| mv rfl rfl <| J_bool (t := 17) (c := true) rfl (by first | (simp; omega) | simp) <| L_op <| G_on rfl rfl rfl ?_
  refine J_pur (p_move rfl) rfl rfl rfl <| L_op <| G_on rfl rfl rfl <| J_pur (p_move rfl) rfl rfl rfl <| L_op <| G_on rfl rfl rfl <| J_pur (p_len rfl Tryz.underlying73) rfl rfl rfl <| L_op <| G_on rfl rfl rfl ?_
  refine J_pur (p_move rfl) rfl rfl rfl <| L_op <| G_on rfl rfl rfl <| J_pur (p_sub64 rfl rfl (by omega)) rfl rfl rfl <| L_op <| G_on rfl rfl rfl <| J_pur (p_lss rfl rfl) rfl rfl rfl <| L_pur rfl (p_pick_t rfl rfl) ?_
  refine nq <| J_bool (t := 24) (c := true) rfl (by first | (simp; omega) | simp) <| C_true rfl <| J_region <| mv rfl rfl <| mv rfl rfl <| mv rfl rfl <| mv rfl rfl ?_
  refine L_pur rfl (p_add64 rfl rfl (by omega)) <| L_pur rfl (p_indexAddr rfl rfl Tryz.underlying73 ty5 (by omega) (by simp; omega)) ?_
  refine L_val rfl (v_loadR1 rfl ty5 (fun w H => hr w H) (by rw [show ((a : Int) + (i : Int)).toNat = a + i by omega, List.getElem?_map, hcc]; rfl)) ?_
  refine L_pur rfl (p_conv rfl Tryz.underlying5 Tryz.underlying22) <| mv rfl rfl <| L_pur rfl (p_mul64 rfl rfl (by omega)) <| L_pur rfl (p_shl rfl rfl (by omega) (by have : (IntKind.u32.bits : Int) = 32 := rfl; omega)) <| L_pur rfl (p_or rfl rfl) <| J_slot (t := 36) (v := .int .u32 (getN bs a (i + 1))) rfl (by rw [or_step (by omega) hgN hcB, getN, byteAt, hcc]; rfl) <| ag rfl rfl <| L_nil ?_
  refine Q_blk_normal <| qr <| L_pur rfl (p_add64 rfl rfl (by omega)) <| mv rfl rfl <| nq ?_
  exact J_again (i + 1) (by omega) (by omega) SU KE
  have hi4 : i = 4 := by omega
  subst hi4
  refine J_exit <| Q_then_exit <| Q_then_exit <| Q_blk_this <| qx <| mv rfl rfl <| ag rfl rfl <| nq ?_
  refine J_ret ?_
  refine J_return (()) Tryz.results199 (.tmp rfl .nil) ?_ ?_
  · rfl
  · exact SU
theorem putC {E : World} {l : List As} {v : Value} {bs : List Int} {a : Nat} (hr : ∀ w, Sep E w l → Reads w 1 v (bs.map encU)) (ha : a + 4 ≤ bs.length) (hl : bs.length ≤ 1000000) {n : Int} :
  Con Tryz.prog 306 #[v, .int .i64 (a : Int), .int .i64 4, .int .u32 n] E l (fun v' : Value => v') (fun v' => row 5 1 v' ((putB bs a (le4 n)).map encU) :: l) := by
 refine Con.body (vs := [v, .int .i64 (a : Int), .int .i64 4, .int .u32 n]) (n := 41) Tryz.func306 rfl rfl [(0, v), (1, .int .i64 (a : Int)), (2, .int .i64 4), (3, .int .u32 n)] (env_ok 4 rfl) <| J_readsB hr fun hw ad cap hv h1 h2 h3 => ?_
 subst hv
 have hm : cap ≤ 9223372036854775807 := h2
 have hml : (bs.map encU).length = bs.length := List.length_map _
 refine sr <| ag rfl rfl <| nx <| mv rfl rfl <| L_op <| xc fc97 (.cons rfl .nil) rfl (clone97 (xs := bs.map encU) (fun w H => hr w H) (by simpa using hl)) <| JR fun a12 c12 hw12 hl12 hm12 hz12 => ?_
 obtain ⟨bq, oq, rfl⟩ := hz12 (by intro h; rw [h] at hml; simp at hml; omega)
 have hmq : c12 ≤ 9223372036854775807 := hm12
 refine ag rfl rfl <| nxx <| mv rfl rfl <| mv rfl rfl <| J_pick (A := row 5 1 _ _) PC ?_
 refine J_rowEq (ys := (putB bs a ((le4 n).take 0)).map encU) (by rw [List.take_zero, putB_nil]) <| nq <| J_block <| J_loop (α := Nat) (fun i => i ≤ 4) (fun i => row 5 1 (.slice (some ⟨bq, oq, none⟩) (bs.map encU).length c12) ((putB bs a ((le4 n).take i)).map encU) :: l) (fun i => [(14, .int .i64 (i : Int)), (13, .int .i64 4), (9, .slice (some ⟨bq, oq, none⟩) (bs.map encU).length c12), (0, .slice ad (bs.map encU).length cap), (1, .int .i64 (a : Int)), (3, .int .u32 n)]) (fun i => 4 - i) 0 (by omega) SU KE ?_
 intro i hi
 refine sr <| L_pur rfl (p_lss rfl rfl) <| nq <| J_seq ?_
 refine C_dec rfl (fun h15 => ?_) (fun h15 => ?_)
 have hpl : ((putB bs a ((le4 n).take i)).map encU).length = bs.length := by rw [List.length_map, putB_len (by simp [le4]; omega)]
 refine J_skip <| Q_then <| J_seq <| J_block <| sr <| mv rfl rfl <| ag rfl rfl <| nx ?_
 refine mv rfl rfl <| mv rfl rfl <| L_pur rfl (p_neg64 rfl (by omega)) <| L_pur rfl (p_geq rfl rfl) <| mv rfl rfl <| J_bool (t := 21) (c := true) rfl (by first | (simp; omega) | simp) <| L_op <| G_on rfl rfl rfl ?_
 refine J_pur (p_move rfl) rfl rfl rfl <| L_op <| G_on rfl rfl rfl <| J_pur (p_move rfl) rfl rfl rfl <| L_op <| G_on rfl rfl rfl <| J_pur (p_len rfl Tryz.underlying73) rfl rfl rfl <| L_op <| G_on rfl rfl rfl ?_
 refine J_pur (p_move rfl) rfl rfl rfl <| L_op <| G_on rfl rfl rfl <| J_pur (p_sub64 rfl rfl (by omega)) rfl rfl rfl <| L_op <| G_on rfl rfl rfl <| J_pur (p_lss rfl rfl) rfl rfl rfl <| L_pur rfl (p_pick_t rfl rfl) ?_
 refine nq <| J_bool (t := 28) (c := true) rfl (by first | (simp; omega) | simp) <| C_true rfl <| J_region <| mv rfl rfl <| mv rfl rfl <| mv rfl rfl <| L_pur rfl (p_add64 rfl rfl (by omega)) ?_
 refine mv rfl rfl <| mv rfl rfl <| L_pur rfl (p_mul64 rfl rfl (by omega)) <| L_pur rfl (p_shr rfl rfl (by omega) (by have : (IntKind.u32.bits : Int) = 32 := rfl; omega)) <| L_pur rfl (p_conv rfl Tryz.underlying22 Tryz.underlying5) <| L_pur rfl (p_indexAddr rfl rfl Tryz.underlying73 ty5 (by omega) (by simp; omega)) <| L_op <| x_storeE rfl rfl ty5 rfl SM SM PC (by omega) ?_
 refine J_rowEq (ys := (putB bs a ((le4 n).take (i + 1))).map encU) (put_step (by omega) ha) <| L_nil <| Q_blk_normal <| qr <| L_pur rfl (p_add64 rfl rfl (by omega)) <| mv rfl rfl <| nq ?_
 exact J_again (i + 1) (by omega) (by omega) SU KE
 have hi4 : i = 4 := by omega
 subst hi4
 refine J_pick (A := row 5 1 _ _) PC ?_
 refine J_rowEq (ys := (putB bs a (le4 n)).map encU) (by rfl) <| J_exit <| Q_then_exit <| Q_then_exit <| Q_blk_this <| qx <| mv rfl rfl <| ag rfl rfl ?_
 refine nq <| J_ret ?_
 exact J_return (_) Tryz.results306 (.tmp rfl .nil) rfl SU
theorem u32C {E : World} {l : List As} {v : Value} {bs : List Int} {a : Nat} (hr : ∀ w, Sep E w l → Reads w 1 v (bs.map encU)) (ha : a + 4 ≤ bs.length) (hl : bs.length ≤ 1000000) (hB : Bytes bs) :
    Con Tryz.prog 139 #[v, .int .i64 (a : Int)] E l (fun _ : Unit => .int .u32 (getN bs a 4)) (fun _ => l) := by
  refine Con.body (vs := [v, .int .i64 (a : Int)]) (n := 8) Tryz.func139 rfl rfl [(0, v), (1, .int .i64 (a : Int))] (env_ok 2 rfl) <| sr <| ag rfl rfl <| nx <| mv rfl rfl <| mv rfl rfl <| L_op <| xc fc199 (.cons rfl (.cons rfl (.cons rfl .nil))) rfl (getC hr ha hl hB) fun _ => ?_
  refine ag rfl rfl <| nq <| J_ret ?_
  exact J_return (()) Tryz.results139 (.tmp rfl .nil) rfl SU
theorem put32C {E : World} {l : List As} {v : Value} {bs : List Int} {a : Nat} (hr : ∀ w, Sep E w l → Reads w 1 v (bs.map encU)) (ha : a + 4 ≤ bs.length) (hl : bs.length ≤ 1000000) {n : Int} :
    Con Tryz.prog 264 #[v, .int .i64 (a : Int), .int .u32 n] E l (fun v' : Value => v') (fun v' => row 5 1 v' ((putB bs a (le4 n)).map encU) :: l) := by
  refine Con.body (vs := [v, .int .i64 (a : Int), .int .u32 n]) (n := 11) Tryz.func264 rfl rfl [(0, v), (1, .int .i64 (a : Int)), (2, .int .u32 n)] (env_ok 3 rfl) <| sr <| ag rfl rfl <| nx <| mv rfl rfl <| mv rfl rfl <| mv rfl rfl <| L_op <| xc fc306 (.cons rfl (.cons rfl (.cons rfl (.cons rfl .nil)))) rfl (putC hr ha hl) ?_
  refine JR fun a10 c10 hw10 hl10 hm10 hz10 => ag rfl rfl <| nq <| J_ret ?_
  exact J_return (_) Tryz.results264 (.tmp rfl .nil) rfl SU
theorem shl32_small : ∀ k : Nat, k ≤ 8 → IntKind.u32.wrap (1 * 2 ^ (k : Int).toNat) = 2 ^ k ∧ IntKind.u32.wrap ((2 : Int) ^ k - 1) = 2 ^ k - 1 := by decide
theorem and_mask {n : Int} {k : Nat} (hk : k ≤ 8) (hn : 0 ≤ n ∧ n < 4294967296) : bits .and .u32 n (2 ^ k - 1) = n % 2 ^ k := by
  obtain ⟨X, rfl⟩ := Int.eq_ofNat_of_zero_le hn.1
  have h2 : 1 ≤ 2 ^ k ∧ 2 ^ k ≤ 256 := ⟨Nat.one_le_two_pow, by have : (2 : Nat) ^ k ≤ 2 ^ 8 := Nat.pow_le_pow_right (by omega) hk; omega⟩
  have e : ((2 : Int) ^ k - 1) = ((2 ^ k - 1 : Nat) : Int) := by rw [Int.ofNat_sub h2.1]; push_cast; rfl
  rw [e, u32_and_nat X _ (by omega) (by omega), Nat.and_two_pow_sub_one_eq_mod]
  push_cast; rfl
theorem maskC {E : World} {l : List As} {k : Nat} (hk : k ≤ 8) :
    Con Tryz.prog 305 #[.int .i64 0, .int .i64 (k : Int)] E l (fun _ : Unit => .int .u32 (2 ^ k - 1)) (fun _ => l) := by
  refine Con.body (vs := [.int .i64 0, .int .i64 (k : Int)]) (n := 21) Tryz.func305 rfl rfl [(0, .int .i64 0), (1, .int .i64 (k : Int))] (env_ok 2 rfl) <| sr <| ag rfl rfl <| nxx <| mv rfl rfl <| L_pur rfl (p_lss rfl rfl) <| mv rfl rfl <| J_bool (t := 7) (c := false) rfl (rfl) ?_
  refine L_op <| G_on rfl rfl rfl <| J_pur (p_move rfl) rfl rfl rfl <| L_op <| G_on rfl rfl rfl <| J_pur (p_geq rfl rfl) rfl rfl rfl <| L_pur rfl (p_pick_f rfl rfl) <| mv rfl rfl ?_
  refine J_bool (t := 11) (c := false) rfl (rfl) <| L_op <| G_on rfl rfl rfl <| J_pur (p_move rfl) rfl rfl rfl <| L_op <| G_on rfl rfl rfl <| J_pur (p_lss rfl rfl) rfl rfl rfl <| L_pur rfl (p_pick_f rfl rfl) ?_
  refine nq ?_
  refine C_split rfl (fun h14 => ?_) (fun h14 => ?_)
  obtain rfl : k = 0 := by simp at h14; omega
  refine sr <| ag rfl rfl <| nq <| J_ret <| Q_then_ret ?_
  refine J_return (()) Tryz.results305 (.tmp rfl .nil) ?_ ?_
  · rfl
  · exact SU
  have hk1 : 1 ≤ k := by simp at h14; omega
  refine J_skip <| qx <| mv rfl rfl <| mv rfl rfl <| L_pur rfl (p_sub64 rfl rfl (by omega)) <| L_pur rfl (p_min rfl rfl) <| J_slot (t := 18) (v := .int .i64 (k : Int)) rfl (by congr 1; simp; omega) <| L_pur rfl (p_shl rfl rfl (by omega) (by have : (IntKind.u32.bits : Int) = 32 := rfl; omega)) ?_
  refine J_slot (t := 19) (v := .int .u32 (2 ^ k)) rfl (by rw [(shl32_small k hk).1]) <| L_pur rfl (p_sub rfl rfl) <| J_slot (t := 20) (v := .int .u32 (2 ^ k - 1)) rfl (by rw [(shl32_small k hk).2]) <| ag rfl rfl <| nq <| J_ret ?_
  refine J_return (()) Tryz.results305 (.tmp rfl .nil) ?_ ?_
  · rfl
  · exact SU
theorem fieldC {E : World} {l : List As} {n : Int} {k : Nat} (hk : k ≤ 8) (hn : 0 ≤ n ∧ n < 4294967296) :
    Con Tryz.prog 263 #[.int .u32 n, .int .i64 0, .int .i64 (k : Int)] E l (fun _ : Unit => .int .u32 (n % 2 ^ k)) (fun _ => l) := by
  refine Con.body (vs := [.int .u32 n, .int .i64 0, .int .i64 (k : Int)]) (n := 18) Tryz.func263 rfl rfl [(0, .int .u32 n), (1, .int .i64 0), (2, .int .i64 (k : Int))] (env_ok 3 rfl) <| sr <| ag rfl rfl <| nx <| mv rfl rfl <| mv rfl rfl <| L_op <| xc fc305 (.cons rfl (.cons rfl .nil)) rfl (maskC hk) fun _ => ?_
  refine ag rfl rfl <| nxx <| mv rfl rfl <| L_pur rfl (p_eql rfl rfl) <| nq ?_
  refine C_dec rfl (fun h12 => ?_) (fun h12 => ?_)
  have hk0 : n % 2 ^ k = 0 := by
    have : (2 : Int) ^ k = 1 := by omega
    rw [this]; omega
  refine sr <| ag rfl rfl <| nq <| J_ret <| Q_then_ret ?_
  refine J_return (()) Tryz.results263 (.tmp rfl .nil) ?_ ?_
  · rw [hk0]; rfl
  · exact SU
  refine J_skip <| qx <| mv rfl rfl <| mv rfl rfl <| L_pur rfl (p_shr rfl rfl (by omega) (by decide)) <| J_slot (t := 15) (v := .int .u32 n) rfl (by simp) <| mv rfl rfl <| L_pur rfl (p_and rfl rfl) ?_
  refine J_slot (t := 17) (v := .int .u32 (n % 2 ^ k)) rfl (by rw [and_mask hk hn]) <| ag rfl rfl <| nq <| J_ret ?_
  refine J_return (()) Tryz.results263 (.tmp rfl .nil) ?_ ?_
  · rfl
  · exact SU
theorem mod_small {n : Int} {k : Nat} (hk : k ≤ 4) : 0 ≤ n % 2 ^ k ∧ n % 2 ^ k ≤ 15 := by
  have h2 : (1 : Int) ≤ 2 ^ k ∧ (2 : Int) ^ k ≤ 16 := by
    have : k = 0 ∨ k = 1 ∨ k = 2 ∨ k = 3 ∨ k = 4 := by omega
    rcases this with rfl | rfl | rfl | rfl | rfl <;> decide
  have h3 := Int.emod_nonneg n (b := 2 ^ k) (by omega)
  have h4 := Int.emod_lt_of_pos n (b := 2 ^ k) (by omega)
  omega
theorem placeC {E : World} {l : List As} {n z : Int} {k : Nat} (hz : z = 16 ∨ z = 32) (hk : k ≤ 4) (hn : 0 ≤ n ∧ n < 4294967296) :
    Con Tryz.prog 193 #[.int .u32 n, .int .i64 (k : Int), .int .i64 z] E l (fun _ : Unit => .int .i64 (16 + n % 2 ^ k * z)) (fun _ => l) := by
  refine Con.body (vs := [.int .u32 n, .int .i64 (k : Int), .int .i64 z]) (n := 14) Tryz.func193 rfl rfl [(0, .int .u32 n), (1, .int .i64 (k : Int)), (2, .int .i64 z)] (env_ok 3 rfl) <| sr <| ag rfl rfl <| nx <| mv rfl rfl <| mv rfl rfl <| L_op <| xc fc263 (.cons rfl (.cons rfl (.cons rfl .nil))) rfl (fieldC (k := k) (n := n) (by omega) hn) fun _ => ?_
  have hms := mod_small (n := n) hk
  have hmz : 0 ≤ n % 2 ^ k * z ∧ n % 2 ^ k * z ≤ 480 := by rcases hz with rfl | rfl <;> omega
  refine L_pur rfl (p_conv rfl Tryz.underlying22 Tryz.underlying3) <| J_slot (t := 10) (v := .int .i64 (n % 2 ^ k)) rfl (by rw [wrap64_of (by omega)]) <| mv rfl rfl <| L_pur rfl (p_mul64 rfl rfl (by omega)) <| L_pur rfl (p_add64 rfl rfl (by omega)) <| ag rfl rfl <| nq <| J_ret ?_
  refine J_return (()) Tryz.results193 (.tmp rfl .nil) ?_ ?_
  · rfl
  · exact SU
theorem distC {E : World} {l : List As} {x y : Int} :
    Con Tryz.prog 94 #[.int .u32 x, .int .u32 y] E l (fun _ : Unit => .int .u32 (IntKind.u32.wrap (x - y))) (fun _ => l) := by
  refine Con.body (vs := [.int .u32 x, .int .u32 y]) (n := 8) Tryz.func94 rfl rfl [(0, .int .u32 x), (1, .int .u32 y)] (env_ok 2 rfl) <| sr <| ag rfl rfl <| nx <| mv rfl rfl <| mv rfl rfl <| L_pur rfl (p_sub rfl rfl) <| ag rfl rfl ?_
  refine nq <| J_ret ?_
  refine J_return (()) Tryz.results94 (.tmp rfl .nil) ?_ ?_
  · rfl
  · exact SU
def bytesX (c : Cqe) : List Int := le4 c.1 ++ le4 (IntKind.u32.wrap c.2.1) ++ le4 c.2.2.1 ++ le4 c.2.2.2
def z16 : List Int := List.replicate 16 0
theorem bytesX_len (c : Cqe) : (bytesX c).length = 16 := rfl
theorem bytesX_bytes (c : Cqe) : Bytes (bytesX c) := fun x hx => by
  simp only [bytesX, List.mem_append] at hx
  rcases hx with ((h | h) | h) | h <;> exact le4_bytes _ x h
theorem bytesX_put (c : Cqe) : putB (putB (putB (putB z16 0 (le4 c.1)) 4 (le4 (IntKind.u32.wrap c.2.1))) 8 (le4 c.2.2.1)) 12 (le4 c.2.2.2) = bytesX c := rfl
def ofD (d : Deed) : Cqe := (d.2.1, IntKind.i32.wrap d.2.2.2.1, d.2.2.2.2.1, IntKind.u32.wrap d.1.2)
theorem bytesC {E : World} {l : List As} {c : Cqe} :
    Con Tryz.prog 194 #[.agg (encX c).toArray] E l (fun v : Value => v) (fun v => row 5 1 v ((bytesX c).map encU) :: l) := by
  refine Con.body (vs := [.agg (encX c).toArray]) (n := 21) Tryz.func194 rfl rfl [(0, .agg (encX c).toArray)] (env_ok 1 rfl) <| sr <| L_op <| x_box rfl rfl rfl fun b1 => ag rfl rfl <| nq <| J_seq <| J_drawL none mixed ?_
  refine ip 1 rfl rfl rfl rfl (p_fieldAddr rfl fa93_0) <| iv 2 rfl rfl rfl rfl (fun _ => v_load rfl ty22 HS (by exact rfl)) ?_
  refine i1 0 rfl <| x_make (len := 16) rfl rfl Tryz.underlying73 ty5 rfl rfl (by simp) (by simp) rfl rfl <| JE (z16.map encU) (by rfl) fun a4 c4 hw4 hl4 hm4 hz4 => i1 3 rfl <| xc fc264 (.cons rfl (.cons rfl (.cons rfl .nil))) rfl (put32C (a := 0) (bs := z16) (fun w H => sep_reads (xs := z16.map encU) HS H) (show 4 ≤ 16 by decide) (show 16 ≤ 1000000 by decide)) <| JR fun a7 c7 hw7 hl7 hm7 hz7 => ip 4 rfl rfl rfl rfl (p_assign rfl) <| i0 ?_
  refine qx <| mv rfl rfl <| fa rfl rfl fa93_1 <| L_val rfl (v_load rfl ty21 HS (by exact rfl)) ?_
  refine L_pur rfl (p_conv rfl Tryz.underlying21 Tryz.underlying22) <| L_op <| xc fc264 (.cons rfl (.cons rfl (.cons rfl .nil))) rfl (put32C (a := 4) (bs := (putB z16 0 (le4 c.1))) (fun w H => sep_reads (xs := (putB z16 0 (le4 c.1)).map encU) HS H) (show 8 ≤ 16 by decide) (show 16 ≤ 1000000 by decide)) <| JR fun a12 c12 hw12 hl12 hm12 hz12 => ag rfl rfl <| nx <| mv rfl rfl <| fa rfl rfl fa93_2 ?_
  refine L_val rfl (v_load rfl ty22 HS (by exact rfl)) ?_
  refine L_op <| xc fc264 (.cons rfl (.cons rfl (.cons rfl .nil))) rfl (put32C (a := 8) (bs := (putB (putB z16 0 (le4 c.1)) 4 (le4 (IntKind.u32.wrap c.2.1)))) (fun w H => sep_reads (xs := (putB (putB z16 0 (le4 c.1)) 4 (le4 (IntKind.u32.wrap c.2.1))).map encU) HS H) (show 12 ≤ 16 by decide) (show 16 ≤ 1000000 by decide)) <| JR fun a16 c16 hw16 hl16 hm16 hz16 => ag rfl rfl <| nx <| mv rfl rfl <| fa rfl rfl fa93_3 <| L_val rfl (v_load rfl ty22 HS (by exact rfl)) ?_
  refine L_op <| xc fc264 (.cons rfl (.cons rfl (.cons rfl .nil))) rfl (put32C (a := 12) (bs := (putB (putB (putB z16 0 (le4 c.1)) 4 (le4 (IntKind.u32.wrap c.2.1))) 8 (le4 c.2.2.1))) (fun w H => sep_reads (xs := (putB (putB (putB z16 0 (le4 c.1)) 4 (le4 (IntKind.u32.wrap c.2.1))) 8 (le4 c.2.2.1)).map encU) HS H) (show 16 ≤ 16 by decide) (show 16 ≤ 1000000 by decide)) <| JE ((bytesX c).map encU) (by rw [bytesX_put]) fun a20 c20 hw20 hl20 hm20 hz20 => ag rfl rfl <| nq <| J_ret ?_
  exact J_return (_) Tryz.results194 (.tmp rfl .nil) rfl SU
theorem compOfC {E : World} {l : List As} {d : Deed} :
    Con Tryz.prog 176 #[.agg (encD d).toArray] E l (fun _ : Unit => .agg (encX (ofD d)).toArray) (fun _ => l) := by
  refine Con.body (vs := [.agg (encD d).toArray]) (n := 15) Tryz.func176 rfl rfl [(0, .agg (encD d).toArray)] (env_ok 1 rfl) <| sr <| L_op <| x_box rfl rfl rfl fun b1 => L_op <| x_alloc ty93 rfl fun b2 => nx <| fa rfl rfl fa45_1 ?_
  refine L_val rfl (v_load rfl ty22 HS (by exact rfl)) ?_
  refine fa rfl rfl fa45_3 <| L_val rfl (v_load rfl ty3 HS (by exact rfl)) ?_
  refine L_pur rfl (p_conv rfl Tryz.underlying3 Tryz.underlying21) <| fa rfl rfl fa45_4 <| L_val rfl (v_load rfl ty22 HS (by exact rfl)) ?_
  refine fa rfl rfl fa45_0 <| fa rfl rfl fa36_1 <| L_val rfl (v_load rfl ty3 HS (by exact rfl)) ?_
  refine L_pur rfl (p_conv rfl Tryz.underlying3 Tryz.underlying22) <| L_pur rfl (bld93 (.cons rfl (.cons rfl (.cons rfl (.cons rfl .nil)))) (by repeat constructor)) <| L_op <| x_store rfl rfl ty93 rfl SM SM RO PT ?_
  refine nq <| J_ret ?_
  refine J_return (()) Tryz.results176 (.cellA rfl ty93 HS CT .nil) ?_ ?_
  · rfl
  · exact SU
end Go.Pse
namespace Go.Pse
open Go.RowKit
section
variable {P : Program} {ops : Array Oper} {Q : Exit → Act → World → Prop} {E : World} {l l' m : List As} {n : Nat} {F : Env} {K : Act → World → Prop}
variable {d : Nat} {T : TypeId} {p : String} {e : Array Edge} {g : Option (Nat × Bool)} {dst : Option Tmp} {t : TypeId} {x y z : Operand} {u v : Value}
theorem p_cap {a0 : Option Addr} {len cap : Nat} {el : TypeId} (hx : evl F x = some (.slice a0 len cap)) (ht : P.underlying t = some (.slice el)) :
    Pur P ⟨dst, .call { callee := .builtin .cap, args := #[x], argTypes := #[t] }, T, p, e, g⟩ F n (.int .i64 cap) := fun a hF w => by
  simp [execOp, resolve, invoke, builtin, hF.evl hx, Builtin.cap_, run_underlying ht, goInt]
theorem run_copy_sz {w : World} {sT ty el : TypeId} {gb o dl dc sl sc sz by_ : Nat} {agg : Bool} {zs : List Value} {a : Addr} {cur : Array Value} {bt : TypeId} {cs : List Value} (hu : P.underlying sT = some (.slice el)) (hT : Ty P el sz by_ agg zs)
    (hg : w.heap[gb]? = some (.cells cur bt (0, 0))) (hn : cs.length = Nat.min sl dl * sz) (hsrc : ∀ j v, cs[j]? = some v → w.cell? (a.add j) = some v) (hfit : o + cs.length ≤ cur.size) (h1 : ∀ v ∈ cs, v.oneCell' = true) :
    (Builtin.copy_ #[sT, sT] ty #[.slice (some ⟨gb, o, none⟩) dl dc, .slice (some a) sl sc]).run P w =
      .ok (.int .i64 (Nat.min sl dl : Nat)) (w.setRow gb (cur.toList.take o ++ cs ++ cur.toList.drop (o + cs.length)).toArray) := by
  have hl := run_loadCells_list (P := P) w a cs hsrc
  have hst := run_storeCells_at P gb o bt cs 0 cur w hg (by simpa using hfit) h1
  simp only [Nat.add_zero] at hst
  simp [Builtin.copy_, run_underlying hu, Builtin.lenOf, Builtin.firstCells, hT.sizeOf, ← hn, hl, hst, goInt]
theorem run_copy_nothing {w : World} {sT ty el : TypeId} {dl dc sl sc sz by_ : Nat} {agg : Bool} {zs : List Value} {a b : Option Addr} (hu : P.underlying sT = some (.slice el)) (hT : Ty P el sz by_ agg zs) (h0 : Nat.min sl dl = 0) :
    (Builtin.copy_ #[sT, sT] ty #[.slice b dl dc, .slice a sl sc]).run P w = .ok (.int .i64 (0 : Nat)) w := by
  have h0' : min sl dl = 0 := h0
  cases a <;> cases b <;> simp [Builtin.copy_, run_underlying hu, Builtin.lenOf, Builtin.firstCells, hT.sizeOf, h0', loadCells, loadCellsFrom, storeCells, goInt]
theorem copy_op {sT : TypeId} {v v2 : Value} {r : Value} {w w' : World} (hx : evl F x = some v) (hy : evl F y = some v2) (hd : Nat.blt d n = true) {a : Act} (hF : Fr n F a)
    (hrun : (Builtin.copy_ #[sT, sT] T #[v, v2]).run P w = .ok r w') (hs : Sep E w' l') (k : Jk E l' n ((d, r) :: F) K) :
    if Region.wanted (⟨some d, .call { callee := .builtin .copy, args := #[x, y], argTypes := #[sT, sT] }, T, p, e, none⟩ : Oper) (yielded ops a.tmps) = true then (⟨some d, .call { callee := .builtin .copy, args := #[x, y], argTypes := #[sT, sT] }, T, p, e, none⟩ : Oper).wp P a w K Q else K (a.put (some d) undef) w := by
  have hw : Region.wanted (⟨some d, .call { callee := .builtin .copy, args := #[x, y], argTypes := #[sT, sT] }, T, p, e, none⟩ : Oper) (yielded ops a.tmps) = true := rfl
  rw [if_pos hw]
  unfold Oper.wp
  have : (execOp a.eval ⟨some d, .call { callee := .builtin .copy, args := #[x, y], argTypes := #[sT, sT] }, T, p, e, none⟩).run P w = .ok (.value r) w' := by
    simp [execOp, resolve, invoke, builtin, hF.evl hx, hF.evl hy, hrun]
  rw [this]
  exact k w' _ hs (hF.put hd)
theorem x_copyTo {el sT : TypeId} {b o len cap sz by_ k0 dl dc : Nat} {agg : Bool} {zs : List Value} {xs ys : List (List Value)} {v2 : Value} (hx : evl F x = some (.slice (if cap = k0 then some ⟨b, o, none⟩ else (some (⟨b, o, none⟩ : Addr)).map (·.add (k0 * sz))) dl dc)) (hy : evl F y = some v2)
    (ht : P.underlying sT = some (.slice el)) (hT : Ty P el sz by_ agg zs) (hp : Pick (row el sz (.slice (some ⟨b, o, none⟩) len cap) xs) l m) (hr : ∀ w, Sep E w l → Reads w sz v2 ys) (hi : ys.length ≤ dl) (hk : k0 + ys.length ≤ xs.length) (hd : Nat.blt d n = true)
    (k : Jk E (row el sz (.slice (some ⟨b, o, none⟩) len cap) (xs.take k0 ++ ys ++ xs.drop (k0 + ys.length)) :: m) n ((d, .int .i64 (ys.length : Nat)) :: F) K) :
    Jop P ops Q ⟨some d, .call { callee := .builtin .copy, args := #[x, y], argTypes := #[sT, sT] }, T, p, e, none⟩ E l n F K := fun w a H hF => by
  have hrd := hr w H
  obtain ⟨a2, c2, hv2, hc2, hc2', hn2, ha2⟩ := hrd.is
  have H' := H.pick hp
  obtain ⟨S, hS⟩ := H'.head
  obtain ⟨C, hC, hl, hlc, hsz⟩ := row_block hS
  have hyl := hrd.wf.len
  subst hv2
  by_cases h0 : ys = []
  · subst h0
    refine copy_op hx hy hd hF (w' := w) (r := .int .i64 (0 : Nat)) (run_copy_nothing ht hT (by simp)) ?_ k
    simpa using H'
  · have hpos : 0 < ys.length := List.length_pos_iff.2 h0
    have hne : cap ≠ k0 := by omega
    rw [if_neg hne] at hx
    simp only [Option.map_some, Addr.add_lit] at hx
    cases a2 with
    | none => exact absurd (hn2 rfl).1 h0
    | some ad =>
      have hmul : k0 * sz + ys.length * sz ≤ xs.length * sz := by rw [← Nat.add_mul]; exact Nat.mul_le_mul_right _ hk
      have hmul2 : xs.length * sz ≤ cap * sz := Nat.mul_le_mul_right _ (by omega)
      have hrun := run_copy_sz (P := P) (w := w) (ty := T) (o := o + k0 * sz) (dl := dl) (dc := dc) (sl := ys.length) (sc := c2) (a := ad) (cs := ys.flatten) ht hT hC (by rw [hyl]; congr 1; exact (Nat.min_eq_left hi).symm) (ha2 ad rfl).2 (by rw [hyl]; omega) hrd.wf.one
      have hmin : Nat.min ys.length dl = ys.length := Nat.min_eq_left hi
      rw [hmin] at hrun
      exact copy_op hx hy hd hF hrun (H'.rep .here setRow_same (row_splice hC hrd.wf hk)) k
theorem x_copyUp {el sT : TypeId} {b o cap sz by_ k0 dc sc : Nat} {agg : Bool} {zs : List Value} {xs : List (List Value)} (hx : evl F x = some (.slice (if cap = k0 + 1 then some ⟨b, o, none⟩ else (some (⟨b, o, none⟩ : Addr)).map (·.add ((k0 + 1) * sz))) (xs.length - k0) dc))
    (hy : evl F y = some (.slice (if cap = k0 then some ⟨b, o, none⟩ else (some (⟨b, o, none⟩ : Addr)).map (·.add (k0 * sz))) (xs.length + 1 - k0) sc))
    (ht : P.underlying sT = some (.slice el)) (hT : Ty P el sz by_ agg zs) (hp : Pick (row el sz (.slice (some ⟨b, o, none⟩) xs.length cap) xs) l m) (hk : k0 < xs.length) (hroom : xs.length + 1 ≤ cap) (hd : Nat.blt d n = true)
    (k : Jk E (row el sz (.slice (some ⟨b, o, none⟩) (xs.length + 1) cap) (xs.take (k0 + 1) ++ xs.drop k0) :: m) n ((d, .int .i64 (xs.length - k0 : Nat)) :: F) K) :
    Jop P ops Q ⟨some d, .call { callee := .builtin .copy, args := #[x, y], argTypes := #[sT, sT] }, T, p, e, none⟩ E l n F K := fun w a H hF => by
  have H' := H.pick hp
  obtain ⟨S, hwf, hS⟩ := H'.head
  have hwd : Wf sz (xs.drop k0) := hwf.sub fun y hy => List.mem_of_mem_drop hy
  have hwt : Wf sz (xs.take (k0 + 1)) := hwf.sub fun y hy => List.mem_of_mem_take hy
  rcases hS with ⟨h1, _⟩ | ⟨b', o', cap', C, h1, h2, h3, h4, h5, h6, h7⟩
  · cases h1
  · cases h1
    rw [if_neg (by omega)] at hx hy
    simp only [Option.map_some, Addr.add_lit] at hx hy
    have hdl : (xs.drop k0).flatten.length = (xs.length - k0) * sz := by rw [hwd.len]; simp
    have hcap : (xs.length + 1) * sz ≤ cap * sz := Nat.mul_le_mul_right _ hroom
    have e1 : (k0 + 1) * sz + (xs.length - k0) * sz = (xs.length + 1) * sz := by rw [← Nat.add_mul]; congr 1; omega
    have e2 : k0 * sz + (xs.length - k0) * sz = xs.length * sz := by rw [← Nat.add_mul]; congr 1; omega
    have hCs : C.size = C.toList.length := by simp
    have hmin : Nat.min (xs.length + 1 - k0) (xs.length - k0) = xs.length - k0 := Nat.min_eq_right (by omega)
    have hx1 : (xs.length + 1) * sz = xs.length * sz + sz := by rw [Nat.add_mul]; omega
    have hsrc : ∀ j v, (xs.drop k0).flatten[j]? = some v → w.cell? ((⟨b, o + k0 * sz, none⟩ : Addr).add j) = some v := fun j v hj => by
      have hjl := (List.getElem?_eq_some_iff.1 hj).1
      rw [hdl] at hjl
      rw [Addr.add_lit]
      simp only [World.cell?, h2, Option.isSome_none, Bool.false_eq_true, if_false]
      rw [← drop_flatten hwf, ← h6, List.getElem?_drop, List.getElem?_take, if_pos (by omega), List.getElem?_drop] at hj
      rw [Nat.add_assoc]
      simpa using hj
    have hrun := run_copy_sz (P := P) (w := w) (ty := T) (o := o + (k0 + 1) * sz) (dl := xs.length - k0) (dc := dc) (sl := xs.length + 1 - k0) (sc := sc) (a := ⟨b, o + k0 * sz, none⟩) (cs := (xs.drop k0).flatten) ht hT h2 (by rw [hdl, hmin]) hsrc (by rw [hdl]; omega) hwd.one
    rw [hmin] at hrun
    refine copy_op hx hy hd hF hrun (H'.rep .here setRow_same fun S' hS' => ?_) k
    obtain ⟨_, hS'⟩ := hS'
    have hSb : ∀ k, S' k ↔ k.1 = b := by
      rcases hS' with ⟨h, _⟩ | ⟨b', o', cap', C', h, _, _, _, _, _, h8⟩
      · cases h
      · cases h; exact h8
    have hlen : (xs.take (k0 + 1) ++ xs.drop k0).length = xs.length + 1 := by simp; omega
    refine ⟨⟨S', ⟨hwt.append hwd, .inr ⟨b, o, cap, _, by rw [hlen], setRow_heap w b _ _ el (0, 0) h2, by rw [hlen]; exact hroom, h4, ?_, ?_, hSb⟩⟩, fun _ h => .inl h⟩, fun k _ hk => setRow_out fun h => hk ((hSb k).2 h)⟩
    · simp [hdl]; omega
    · rw [hlen]
      show List.take _ (List.drop o _) = _
      have ht1 : (C.toList.drop o).take ((k0 + 1) * sz) = (xs.take (k0 + 1)).flatten := by
        have := take_take_flatten (i := k0 + 1) hwf
        rw [← this, ← h6, List.take_take, Nat.min_eq_left]
        exact Nat.mul_le_mul_right _ (by omega)
      have hA : ((C.toList.take (o + (k0 + 1) * sz)).drop o).length = (k0 + 1) * sz := by simp; omega
      simp only [List.append_assoc]
      rw [List.drop_append_of_le_length (by simp; omega), List.drop_take, show o + (k0 + 1) * sz - o = (k0 + 1) * sz by omega, ht1, List.flatten_append, ← List.append_assoc]
      have hlt : ((xs.take (k0 + 1)).flatten ++ (xs.drop k0).flatten).length = (xs.length + 1) * sz := by
        rw [List.length_append, hwt.len, hdl]
        have : (xs.take (k0 + 1)).length = k0 + 1 := by simp; omega
        rw [this]; exact e1
      rw [← hlt, List.take_left]
theorem run_append_make {P : Program} {w : World} {t u ty e : TypeId} {i : TypeInfo} {z : Value} (ht : P.underlying t = some (.slice e)) (hu : P.underlying u = some (.int .i64)) (hi : P.info? e = some i) (hz : i.zero = some z)
    {b : Option Addr} {sLen sCap k : Nat} {olds : Array Value} (hold : (Builtin.firstCells i.size sLen (.slice b sLen sCap)).run P w.drew = .ok olds w.drew)
    (hg : sCap < sLen + k) (h0 : 0 < k) (hs0 : 0 < i.size) (h63 : ((sLen + k : Nat) : Int) ≤ 9223372036854775807) (h48 : k * i.bytes ≤ 281474976710656) (hfit : Builtin.nextslicecap (sLen + k) sCap * i.bytes ≤ 281474976710656) :
    (Builtin.append_ #[t, u] ty #[.slice b sLen sCap, .int .i64 (k : Int)]).run P w =
      .ok (.slice (some ⟨w.heap.size, 0, none⟩) (sLen + k) (grownCap w (sLen + k) sCap e))
        (w.drew.alloc (.cells (olds ++ Builtin.zeroCells z.cells k ++ Builtin.zeroCells z.cells (grownCap w (sLen + k) sCap e - (sLen + k))) e)) := by
  have hn : ¬ (sLen + k ≤ sCap) := by omega
  have h63' : ¬ (9223372036854775807 < ((sLen : Int) + (k : Int))) := by omega
  have hfit' : ¬ (281474976710656 < Builtin.nextslicecap (sLen + k) sCap * i.bytes) := by omega
  have hwrap : IntKind.i64.wrap (k : Int) = (k : Int) := wrap64_of (by omega)
  have hk0 : ¬ ((k : Int) < 0) := by omega
  have h48' : ¬ (281474976710656 < (k : Int) * (i.bytes : Int)) := by rw [← Int.natCast_mul]; omega
  have hks : ¬ (k = 0 ∨ i.size = 0) := by omega
  simp [Builtin.append_, run_underlying ht, run_underlying hu, sizeOf, typeInfo, zeroValue, hi, hz, asInt, asIntOf, hwrap, hk0, h48', hn, h63', hfit', Question.forced, hold, newRow, grownCap, hks]
  intro h
  exact absurd h (by have := Nat.mul_pos h0 hs0; omega)
theorem x_appMake {el sT iT : TypeId} {sz by_ i cap : Nat} {z0 : Nat} {agg : Bool} {zs : List Value} {xs : List (List Value)} {a0 : Option Addr} (hx : evl F x = some (.slice a0 i cap)) (hy : evl F y = some (.int .i64 (z0 : Int))) (ht : P.underlying sT = some (.slice el)) (hti : P.underlying iT = some (.int .i64))
    (hT : Ty P el sz by_ agg zs) (hsz : Nat.blt 0 sz = true) (hzl : zs.length = sz) (h1z : ones zs = true) (hr : ∀ w, Sep E w l → Reads w sz (.slice a0 i cap) xs) (hg : cap < i + z0) (h0 : 0 < z0) (hb : (i + z0) * by_ ≤ 140737488355328) (hm : i + z0 ≤ 9223372036854775807) (hd : Nat.blt d n = true)
    (k : ∀ v', Jk E (row el sz v' (xs ++ List.replicate z0 zs) :: l) n ((d, v') :: F) K) :
    Jop P ops Q ⟨some d, .call { callee := .builtin .append, args := #[x, y], argTypes := #[sT, iT] }, T, p, e, none⟩ E l n F K := fun w a H hF => by
  obtain ⟨inf, zv, hi, hi1, hi2, hi3, hi4⟩ := hT.get
  have hrd := hr w H
  obtain ⟨a2, c2, hv2, hc2, hc2', hn2, ha2⟩ := hrd.is
  cases hv2
  have hsz' : 0 < sz := by simpa using hsz
  have hzs : zv.cells.size = sz := by rw [← Array.length_toList, hi4, hzl]
  have hzv : zv.cells = zs.toArray := by rw [← hi4]
  have hmulz : z0 * by_ ≤ (xs.length + z0) * by_ := Nat.mul_le_mul_right _ (by omega)
  have hfit : Builtin.nextslicecap (xs.length + z0) cap * inf.bytes ≤ 281474976710656 := growslice_fits hg (by rw [hi2]; exact hb)
  have hwf : Wf sz (List.replicate z0 zs) := fun y hy => by rw [List.eq_of_mem_replicate hy]; exact ⟨hzl, h1z⟩
  have hold : (Builtin.firstCells inf.size xs.length (.slice a0 xs.length cap)).run P w.drew = .ok xs.flatten.toArray w.drew := by
    cases a0 with
    | none =>
      have : xs = [] := (hn2 rfl).1
      subst this
      simp [Builtin.firstCells]
    | some ad => exact run_firstCells_some w.drew inf.size xs.length ad _ _ xs.flatten (by rw [hi1]; exact hrd.wf.len) (by simpa using (ha2 ad rfl).2)
  have hge := grownCap_ge w (xs.length + z0) cap el
  have hcm : grownCap w (xs.length + z0) cap el ≤ maxLen := grownCap_le_maxLen w (xs.length + z0) cap el (by simpa [maxLen] using hm)
  have hrun := run_append_make (P := P) (w := w) (ty := T) ht hti hi hi3 hold hg h0 (by omega) (by omega) (by rw [hi2]; omega) hfit
  have hw : Region.wanted (⟨some d, .call { callee := .builtin .append, args := #[x, y], argTypes := #[sT, iT] }, T, p, e, none⟩ : Oper) (yielded ops a.tmps) = true := rfl
  rw [if_pos hw]
  unfold Oper.wp
  have hex : (execOp a.eval ⟨some d, .call { callee := .builtin .append, args := #[x, y], argTypes := #[sT, iT] }, T, p, e, none⟩).run P w = .ok (.value (.slice (some ⟨w.heap.size, 0, none⟩) (xs.length + z0) (grownCap w (xs.length + z0) cap el)))
      (w.drew.alloc (.cells (xs.flatten.toArray ++ Builtin.zeroCells zv.cells z0 ++ Builtin.zeroCells zv.cells (grownCap w (xs.length + z0) cap el - (xs.length + z0))) el)) := by
    simp [execOp, resolve, invoke, builtin, hF.evl hx, hF.evl hy, hrun]
  rw [hex]
  have hwa : Wf sz (xs ++ List.replicate z0 zs) := hrd.wf.append hwf
  have hl2 : (xs ++ List.replicate z0 zs).length = xs.length + z0 := by simp
  have hrw := row_new (el := el) (w := w.drew) (C := xs.flatten.toArray ++ Builtin.zeroCells zv.cells z0 ++ Builtin.zeroCells zv.cells (grownCap w (xs.length + z0) cap el - (xs.length + z0))) hwa
    (cap := grownCap w (xs.length + z0) cap el) (by rw [hl2]; exact hge) hcm
    (by simp only [Array.size_append, List.size_toArray, size_zeroCells, hzs, hrd.wf.len, ← Nat.add_mul]; congr 1; omega)
    (by
      have e1 : (Builtin.zeroCells zv.cells z0).toList = (List.replicate z0 zs).flatten := by rw [hzv, zeroCells_flat]
      simp only [Array.toList_append, e1, ← List.flatten_append]
      rw [← hwa.len]; exact List.take_left)
  rw [hl2] at hrw
  exact k _ _ _ (H.drew.add alloc_same (fun _ hb => alloc_old hb) hrw (fun b hb => by omega)) (hF.put hd)
/-! ### two rows lie apart -/
theorem rows_apart {w : World} {e1 e2 : TypeId} {s1 s2 : Nat} {b1 b2 o1 o2 l1 l2 c1 c2 : Nat} {xs ys : List (List Value)} (H : Sep E w (row e1 s1 (.slice (some ⟨b1, o1, none⟩) l1 c1) xs :: row e2 s2 (.slice (some ⟨b2, o2, none⟩) l2 c2) ys :: l)) : b1 ≠ b2 := by
  obtain ⟨S, S1, S2, ⟨_, h1⟩, ⟨T1, T2, ⟨_, h2⟩, _, _, he2⟩, hd, _⟩ := H.own
  intro e
  subst e
  rcases h1 with ⟨h, _⟩ | ⟨b, o, c, C, h, _, _, _, _, _, g1⟩
  · cases h
  · cases h
    rcases h2 with ⟨h, _⟩ | ⟨b, o, c, C, h, _, _, _, _, _, g2⟩
    · cases h
    · cases h
      exact hd (b1, 0) ((g1 _).2 rfl) ((he2 _).2 (.inl ((g2 _).2 rfl)))
theorem x_overlaps {sT tR el : TypeId} {f : FuncId} {fn : Func} {ats : Array TypeId} {sz by_ vb vo vl vc b o len cap lb cb ob : Nat} {agg : Bool} {zs : List Value} {xs ys : List (List Value)} {m1 m2 : List As} (hf : P.funcs[f]? = some fn) (hname : (fn.name == "runtime.NumGoroutine") = false) (hbn : fn.body.isNone = true) (hnx : Extern.findNext fn = none)
    (hfe : Extern.find fn = some (Extern.SlicesOverlaps.overlaps #[sT, sT] #[tR])) (hx : evl F x = some (.slice (some ⟨vb, vo, none⟩) vl vc)) (hy : evl F y = some (.slice (some ⟨b, ob, none⟩) lb cb)) (ht : P.underlying sT = some (.slice el)) (hT : Ty P el sz by_ agg zs) (hsz : Nat.blt 0 sz = true)
    (hp1 : Pick (row el sz (.slice (some ⟨vb, vo, none⟩) vl vc) ys) l m1) (hp2 : Pick (row el sz (.slice (some ⟨b, o, none⟩) len cap) xs) m1 m2) (hc0 : 0 < cap) (hd : Nat.blt d n = true) (k : Jk E l n ((d, .bool false) :: F) K) :
    Jop P ops Q ⟨some d, .call { callee := .value (.func f), args := #[x, y], argTypes := ats }, T, p, e, none⟩ E l n F K := fun w a H hF => by
  have H1 := H.pick hp1
  have H2 := H1.pick (.there hp2)
  have H3 := H2.pick (.there .here)
  obtain ⟨S1, hS1⟩ := H1.head
  obtain ⟨S2, hS2⟩ := H2.head
  obtain ⟨C1, hC1, _, _, hs1⟩ := row_block hS1
  obtain ⟨C2, hC2, _, _, hs2⟩ := row_block hS2
  have hne : vb ≠ b := rows_apart H3
  have hsz' : 0 < sz := by simpa using hsz
  have hk2 : C2.size ≠ 0 := by have := Nat.mul_pos hc0 hsz'; omega
  have hw : Region.wanted (⟨some d, .call { callee := .value (.func f), args := #[x, y], argTypes := ats }, T, p, e, none⟩ : Oper) (yielded ops a.tmps) = true := rfl
  rw [if_pos hw]
  unfold Oper.wp
  have hov := Lib.run_overlaps_apart (P := P) w sT tR el ht sz (fun w => hT.sizeOf w) ⟨vb, vo, none⟩ ⟨b, ob, none⟩ vl vc lb cb hne el el C1.size C2.size (by simp [World.shape?, hC1]) (by simp [World.shape?, hC2]) hk2 (by simp [World.frozen?, hC1]) (by simp [World.frozen?, hC1])
  have hcf : (callFunc f #[.slice (some ⟨vb, vo, none⟩) vl vc, .slice (some ⟨b, ob, none⟩) lb cb]).run P w = .ok (.value (.bool false)) w := by
    rw [run_callFunc_extern hf hname hbn hnx hfe, hov]; rfl
  have hex : (execOp a.eval ⟨some d, .call { callee := .value (.func f), args := #[x, y], argTypes := ats }, T, p, e, none⟩).run P w = .ok (.value (.bool false)) w := by
    simp only [execOp, resolve, Act.eval, Deferred.ofValue, invoke]
    simp [hF.evl hx, hF.evl hy, hcf]
  rw [hex]
  exact k w _ H (hF.put hd)
end
end Go.Pse
namespace Go.Pse
open Go.RowKit Go.Proofs
theorem lset_same {α : Type} {xs : List α} {i : Nat} {y : α} (h : xs[i]? = some y) : xs.set i y = xs := by
  obtain ⟨hl, rfl⟩ := List.getElem?_eq_some_iff.1 h
  exact List.set_getElem_self hl
theorem snd_at {xs : List (Value × List Int)} {ms : List (List Int)} {u : Nat} {r : List Int} (h : xs.map Prod.snd = ms) (hr : ms[u]? = some r) : ∃ v, xs[u]? = some (v, r) := by
  subst h
  rw [List.getElem?_map] at hr
  obtain ⟨⟨v, x⟩, h1, rfl⟩ := Option.map_eq_some_iff.1 hr
  exact ⟨v, h1⟩
theorem fst_set {xs : List (Value × List Int)} {u : Nat} {v : Value} {r r' : List Int} (h : xs[u]? = some (v, r)) : ((xs.set u (v, r')).map fun x => [x.1]) = xs.map fun x => [x.1] := by
  rw [List.map_set]
  exact lset_same (by rw [List.getElem?_map, h]; rfl)
theorem partC {E : World} {l : List As} {b u off n br orr len cr : Nat} {v : Value} {ms : List Int} {xs : List (Value × List Int)} (hb : Has (blk b 292 [v]) l) (hv : Has (row 73 1 v (xs.map fun x => [x.1])) l) (hx : xs[u]? = some (.slice (some ⟨br, orr, none⟩) len cr, ms)) (hxl : xs.length ≤ 64) (ho : off + n ≤ 512) (hc : 512 ≤ cr) :
    Con Tryz.prog 85 #[.pointer (some ⟨b, 0, none⟩), .int .i64 ((u : Int) + 1), .int .i64 (off : Int), .int .i64 (n : Int)] E l (fun _ : Unit => .tuple #[.slice (if cr = off then some ⟨br, orr, none⟩ else (some (⟨br, orr, none⟩ : Addr)).map (·.add (off * 1))) n (cr - off), .bool true]) (fun _ => l) := by
  refine Con.body (vs := [.pointer (some ⟨b, 0, none⟩), .int .i64 ((u : Int) + 1), .int .i64 (off : Int), .int .i64 (n : Int)]) (n := 52) Tryz.func85 rfl rfl [(0, .pointer (some ⟨b, 0, none⟩)), (1, .int .i64 ((u : Int) + 1)), (2, .int .i64 (off : Int)), (3, .int .i64 (n : Int))] (env_ok 4 rfl) ?_
  have hxu := (List.getElem?_eq_some_iff.1 hx).1
  refine J_row hv fun hw a cap hv' h1 h2 h3 => ?_
  have hml : (xs.map fun x : Value × List Int => [x.1]).length = xs.length := List.length_map _
  obtain ⟨bx, ox, rfl⟩ := h3 (by intro h; rw [h] at hml; simp at hml; omega)
  subst hv'
  have hm : cap ≤ 9223372036854775807 := h2
  refine sr <| ag rfl rfl <| ag rfl rfl <| nxx <| mv rfl rfl <| L_pur rfl (p_lss rfl rfl) <| mv rfl rfl <| J_bool (t := 12) (c := false) rfl (by first | (simp; omega) | simp) ?_
  refine L_op <| G_on rfl rfl rfl <| J_pur (p_move rfl) rfl rfl rfl <| L_op <| G_on rfl rfl rfl <| J_pur (p_move rfl) rfl rfl rfl <| L_op <| G_on rfl rfl rfl ?_
  refine J_pur (p_nilCheck rfl) rfl rfl rfl <| L_op <| G_on rfl rfl rfl <| J_pur (p_fieldAddr rfl fa292_0) rfl rfl rfl <| L_op <| G_on rfl rfl rfl <| J_val (v_load rfl ty290 HS (by exact rfl)) rfl rfl rfl ?_
  refine L_op <| G_on rfl rfl rfl <| J_pur (p_len rfl Tryz.underlying290) rfl rfl rfl <| L_op <| G_on rfl rfl rfl <| J_pur (p_gtr rfl rfl) rfl rfl rfl <| L_pur rfl (p_pick_f rfl rfl) <| mv rfl rfl ?_
  refine J_bool (t := 21) (c := false) rfl (by first | (simp; omega) | simp) <| L_op <| G_on rfl rfl rfl <| J_pur (p_move rfl) rfl rfl rfl <| L_op <| G_on rfl rfl rfl <| J_pur (p_lss rfl rfl) rfl rfl rfl <| L_pur rfl (p_pick_f rfl rfl) ?_
  refine mv rfl rfl <| J_bool (t := 25) (c := false) rfl (by first | (simp; omega) | simp) <| L_op <| G_on rfl rfl rfl <| J_pur (p_move rfl) rfl rfl rfl <| L_op <| G_on rfl rfl rfl <| J_pur (p_lss rfl rfl) rfl rfl rfl ?_
  refine L_pur rfl (p_pick_f rfl rfl) <| mv rfl rfl <| J_bool (t := 29) (c := false) rfl (by first | (simp; omega) | simp) <| L_op <| G_on rfl rfl rfl <| J_pur (p_move rfl) rfl rfl rfl <| L_op <| G_on rfl rfl rfl ?_
  refine J_pur (p_gtr rfl rfl) rfl rfl rfl <| L_pur rfl (p_pick_f rfl rfl) <| mv rfl rfl <| J_bool (t := 33) (c := false) rfl (by first | (simp; omega) | simp) <| L_op <| G_on rfl rfl rfl <| J_pur (p_move rfl) rfl rfl rfl <| L_op <| G_on rfl rfl rfl ?_
  refine J_pur (p_move rfl) rfl rfl rfl <| L_op <| G_on rfl rfl rfl <| J_pur (p_sub64 rfl rfl (by omega)) rfl rfl rfl <| L_op <| G_on rfl rfl rfl <| J_pur (p_gtr rfl rfl) rfl rfl rfl <| L_pur rfl (p_pick_f rfl rfl) ?_
  refine nq <| J_bool (t := 38) (c := false) rfl (by first | (simp; omega) | simp) <| C_false rfl <| J_skip <| qx <| mv rfl rfl <| nc rfl rfl <| fa rfl rfl fa292_0 ?_
  refine L_val rfl (v_load rfl ty290 HS (by exact rfl)) ?_
  refine mv rfl rfl <| L_pur rfl (p_sub64 rfl rfl (by omega)) <| L_pur rfl (p_indexAddr rfl rfl Tryz.underlying290 ty73 (by omega) (by simp; omega)) ?_
  refine L_val rfl (v_loadE1 rfl ty73 hv (by rw [show ((u : Int) + 1 - 1).toNat = u by omega, List.getElem?_map, hx]; rfl)) ?_
  refine mv rfl rfl <| mv rfl rfl <| mv rfl rfl <| L_pur rfl (p_add64 rfl rfl (by omega)) <| L_pur rfl (p_slice rfl Tryz.underlying73 ty5 rfl rfl (by omega) (by omega) (by omega)) <| J_slot (t := 51) (v := .slice (if cr = off then some ⟨br, orr, none⟩ else (some (⟨br, orr, none⟩ : Addr)).map (·.add (off * 1))) n (cr - off)) rfl (by rw [show ((off : Int) + (n : Int)).toNat = off + n by omega, show ((off : Int)).toNat = off by omega, Nat.add_sub_cancel_left]) <| ag rfl rfl <| ag rfl rfl ?_
  refine nq <| J_ret ?_
  refine J_return (()) Tryz.results85 (.tmp rfl (.tmp rfl .nil)) ?_ ?_
  · rfl
  · exact SU
theorem readC {E : World} {l m : List As} {b u : Nat} {ms : List (List Int)} {r : List Int} (hp : Pick (memA b ms) l m) (hms : ms.length = 64) (hu : ms[u]? = some r) (hrl : r.length = 512) {off n : Nat} (ho : off + n ≤ 512) :
  Con Tryz.prog 50 #[.pointer (some ⟨b, 0, none⟩), .int .i64 ((u : Int) + 1), .int .i64 (off : Int), .int .i64 (n : Int)] E l (fun v : Value => .tuple #[v, .bool true]) (fun v => row 5 1 v (((r.drop off).take n).map encU) :: memA b ms :: m) := by
 refine Con.body (vs := [.pointer (some ⟨b, 0, none⟩), .int .i64 ((u : Int) + 1), .int .i64 (off : Int), .int .i64 (n : Int)]) (n := 23) Tryz.func50 rfl rfl [(0, .pointer (some ⟨b, 0, none⟩)), (1, .int .i64 ((u : Int) + 1)), (2, .int .i64 (off : Int)), (3, .int .i64 (n : Int))] (env_ok 4 rfl) <| J_pick hp <| J_memO fun v xs hxs => ?_
 have hxl : xs.length = 64 := by rw [← hms, ← show xs.map Prod.snd = ms from hxs, List.length_map]
 obtain ⟨vr, hx⟩ := snd_at hxs hu
 have hxu := (List.getElem?_eq_some_iff.1 hx).1
 refine J_pick (A := each memF xs) PC ?_
 refine J_eachOut hx <| J_asTo (B := row 5 1 vr (r.map encU)) (by rfl) <| J_row .here fun hwr ar cr hvr hr1 hr2 hr3 => ?_
 have hlr : (r.map encU).length = 512 := by rw [List.length_map]; exact hrl
 obtain ⟨br, orr, rfl⟩ := hr3 (by intro h; rw [h] at hlr; simp at hlr)
 subst hvr
 have hcr : cr ≤ 9223372036854775807 := hr2
 refine sr <| ag rfl rfl <| ag rfl rfl <| nx <| mv rfl rfl <| mv rfl rfl <| mv rfl rfl <| mv rfl rfl ?_
 refine L_op <| xc fc85 (.cons rfl (.cons rfl (.cons rfl (.cons rfl .nil)))) rfl (partC (len := (r.map encU).length) HS HS hx (by omega) ho (by omega)) fun _ => ?_
 refine mv rfl rfl <| L_pur rfl (p_extract rfl rfl) <| L_pur rfl (p_extract rfl rfl) <| ag rfl rfl <| ag rfl rfl <| nx <| mv rfl rfl <| L_op <| xc fc97 (.cons rfl .nil) rfl (clone97 (xs := (((r.map encU).drop off).take n)) (fun w H => ((sep_reads (xs := r.map encU) HS H).drop (lo := off) (by omega)).take (i := n) (by simp; omega)) (by simp; omega)) ?_
 refine JE (((r.drop off).take n).map encU) (by rw [List.map_take, List.map_drop]) fun a21 c21 hw21 hl21 hm21 hz21 => mv rfl rfl <| ag rfl rfl <| ag rfl rfl <| nq <| J_ret <| J_pick (A := row 5 1 (.slice (some ⟨br, orr, none⟩) (r.map encU).length cr) _) PC ?_
 refine J_asTo (B := memF (.slice (some ⟨br, orr, none⟩) (r.map encU).length cr, r)) (by rfl) <| J_pick (A := each memF _) PC ?_
 refine J_pick (A := memF _) PC ?_
 refine J_eachIn (.slice (some ⟨br, orr, none⟩) (r.map encU).length cr, r) hxu ?_
 skip
 refine J_pick (A := row 73 1 v _) PC ?_
 refine J_rowEq (ys := (xs.set u (.slice (some ⟨br, orr, none⟩) (r.map encU).length cr, r)).map fun x : Value × List Int => [x.1]) (fst_set hx).symm <| J_memS (b := b) (ms := (ms.set u r)) v (xs.set u (.slice (some ⟨br, orr, none⟩) (r.map encU).length cr, r)) PX (by show List.map Prod.snd _ = _; rw [List.map_set, show xs.map Prod.snd = ms from hxs]) ?_
 refine J_asTo (B := memA b ms) (by rw [lset_same hu]) ?_
 exact J_return (_) Tryz.results50 (.tmp rfl (.tmp rfl .nil)) rfl SU
theorem writeC {E : World} {l m : List As} {b u : Nat} {ms : List (List Int)} {r : List Int} (hp : Pick (memA b ms) l m) (hms : ms.length = 64) (hu : ms[u]? = some r) (hrl : r.length = 512) {off : Nat} {ys : List Int} {v' : Value} (hr : ∀ w, Sep E w m → Reads w 1 v' (ys.map encU)) (ho : off + ys.length ≤ 512) :
    Con Tryz.prog 40 #[.pointer (some ⟨b, 0, none⟩), .int .i64 ((u : Int) + 1), .int .i64 (off : Int), v'] E l (fun _ : Unit => .bool true) (fun _ => memA b (ms.set u (putB r off ys)) :: m) := by
  refine Con.body (vs := [.pointer (some ⟨b, 0, none⟩), .int .i64 ((u : Int) + 1), .int .i64 (off : Int), v']) (n := 24) Tryz.func40 rfl rfl [(0, .pointer (some ⟨b, 0, none⟩)), (1, .int .i64 ((u : Int) + 1)), (2, .int .i64 (off : Int)), (3, v')] (env_ok 4 rfl) <| J_readsB (fun w H => hr w (H.pick hp).tail) fun hw' a' cap' hv' h1' h2' h3' => ?_
  subst hv'
  refine J_pick hp <| J_memO fun v xs hxs => ?_
  have hxl : xs.length = 64 := by rw [← hms, ← show xs.map Prod.snd = ms from hxs, List.length_map]
  obtain ⟨vr, hx⟩ := snd_at hxs hu
  have hxu := (List.getElem?_eq_some_iff.1 hx).1
  refine J_pick (A := each memF xs) PC ?_
  refine J_eachOut hx <| J_asTo (B := row 5 1 vr (r.map encU)) (by rfl) <| J_row .here fun hwr ar cr hvr hr1 hr2 hr3 => ?_
  have hlr : (r.map encU).length = 512 := by rw [List.length_map]; exact hrl
  obtain ⟨br, orr, rfl⟩ := hr3 (by intro h; rw [h] at hlr; simp at hlr)
  subst hvr
  have hcr : cr ≤ 9223372036854775807 := hr2
  refine sr <| ag rfl rfl <| nx <| mv rfl rfl <| mv rfl rfl <| mv rfl rfl <| mv rfl rfl <| L_pur rfl (p_len rfl Tryz.underlying73) ?_
  refine J_slot (t := 16) (v := .int .i64 (ys.length : Int)) rfl (by simp) <| L_op <| xc fc85 (.cons rfl (.cons rfl (.cons rfl (.cons rfl .nil)))) rfl (partC (len := (r.map encU).length) (n := ys.length) HS HS hx (by omega) ho (by omega)) fun _ => ?_
  refine mv rfl rfl <| L_pur rfl (p_extract rfl rfl) <| L_pur rfl (p_extract rfl rfl) <| ag rfl rfl <| ag rfl rfl <| nx <| mv rfl rfl <| mv rfl rfl ?_
  refine L_op <| x_copyTo (k0 := off) (len := (r.map encU).length) (xs := r.map encU) (ys := ys.map encU) rfl rfl Tryz.underlying73 ty5 PC (fun w H => hr w (Sub.sep SU H)) (by simp) (by simp; omega) rfl ?_
  refine J_rowEq (ys := (putB r off ys).map encU) (by simp [putB]) <| nx <| mv rfl rfl <| ag rfl rfl <| nq <| J_ret <| J_pick (A := row 5 1 (.slice (some ⟨br, orr, none⟩) (r.map encU).length cr) _) PC ?_
  refine J_asTo (B := memF (.slice (some ⟨br, orr, none⟩) (r.map encU).length cr, putB r off ys)) (by rfl) <| J_pick (A := each memF _) PC ?_
  refine J_pick (A := memF _) PC ?_
  refine J_eachIn (.slice (some ⟨br, orr, none⟩) (r.map encU).length cr, putB r off ys) hxu ?_
  skip
  refine J_pick (A := row 73 1 v _) PC ?_
  refine J_rowEq (ys := (xs.set u (.slice (some ⟨br, orr, none⟩) (r.map encU).length cr, putB r off ys)).map fun x : Value × List Int => [x.1]) (fst_set hx).symm <| J_memS (b := b) (ms := (ms.set u (putB r off ys))) v (xs.set u (.slice (some ⟨br, orr, none⟩) (r.map encU).length cr, putB r off ys)) PX (by show List.map Prod.snd _ = _; rw [List.map_set, show xs.map Prod.snd = ms from hxs]) ?_
  refine J_return (()) Tryz.results40 (.tmp rfl .nil) ?_ ?_
  · rfl
  · exact SU
def rowAt (ms : List (List Int)) (u : Int) : List Int := (ms[(u - 1).toNat]?).getD []
structure MemOk (ms : List (List Int)) : Prop where
  len : ms.length = 64
  rows : ∀ r ∈ ms, r.length = 512 ∧ Bytes r
structure RgOk (r : Rg) : Prop where
  sq : 1 ≤ r.sq ∧ r.sq ≤ 64
  cq : 1 ≤ r.cq ∧ r.cq ≤ 64
  cb : 0 ≤ r.cb ∧ r.cb ≤ 4
  tail : 0 ≤ r.tail ∧ r.tail < 4294967296
  sb : 0 ≤ r.sb ∧ r.sb ≤ 3
  head : 0 ≤ r.head ∧ r.head < 4294967296
theorem MemOk.at {ms : List (List Int)} (h : MemOk ms) {u : Int} (hu : 1 ≤ u ∧ u ≤ 64) : ms[(u - 1).toNat]? = some (rowAt ms u) ∧ (rowAt ms u).length = 512 ∧ Bytes (rowAt ms u) := by
  have hl : (u - 1).toNat < ms.length := by rw [h.len]; omega
  have e := List.getElem?_eq_getElem hl
  have e2 : rowAt ms u = ms[(u - 1).toNat] := by unfold rowAt; rw [e]; rfl
  exact ⟨by rw [e2]; exact e, by rw [e2]; exact h.rows _ (List.getElem_mem hl)⟩
theorem MemOk.put {ms : List (List Int)} (h : MemOk ms) {u : Nat} {r : List Int} (hr : r.length = 512 ∧ Bytes r) : MemOk (ms.set u r) := ⟨by rw [List.length_set, h.len], fun x hx => by
  rcases List.mem_or_eq_of_mem_set hx with h1 | h1
  · exact h.rows x h1
  · rw [h1]; exact hr⟩
def rgFar (r : Rg) (ms : List (List Int)) : Int := IntKind.u32.wrap (r.tail - getN (rowAt ms r.cq) 0 4)
def rgRoom (r : Rg) (ms : List (List Int)) : Int := if rgFar r ms > 2 ^ r.cb.toNat then 0 else 2 ^ r.cb.toNat - rgFar r ms
def rgWrOk (r : Rg) (ms : List (List Int)) : Bool := decide (rgFar r ms < 2 ^ r.cb.toNat)
def rgRow (r : Rg) (ms : List (List Int)) (c : Cqe) : List Int := putB (putB (rowAt ms r.cq) (16 + r.tail % 2 ^ r.cb.toNat * 16).toNat (bytesX c)) 4 (le4 (IntKind.u32.wrap (r.tail + 1)))
def rgUp (r : Rg) : Rg := { r with tail := IntKind.u32.wrap (r.tail + 1) }
def postOk (r : Rg) (ms : List (List Int)) : Bool := r.over.isEmpty && rgWrOk r ms
def postR (r : Rg) (ms : List (List Int)) (c : Cqe) : Rg := if postOk r ms then rgUp r else { r with over := r.over ++ [c] }
def postM (r : Rg) (ms : List (List Int)) (c : Cqe) : List (List Int) := if postOk r ms then ms.set (r.cq - 1).toNat (rgRow r ms c) else ms
theorem wrap32_in (n : Int) : 0 ≤ IntKind.u32.wrap n ∧ IntKind.u32.wrap n < 4294967296 := by
  have : IntKind.u32.wrap n = n % 4294967296 := by simp [IntKind.wrap, IntKind.bits, IntKind.signed]
  rw [this]; omega
theorem cutI_in {n a b : Int} (h : a ≤ b) : a ≤ cutI n a b ∧ cutI n a b ≤ b := by
  unfold cutI; split <;> split <;> omega
theorem rgNew_is {a b cs cc : Int} (ha : 1 ≤ a ∧ a ≤ 64) (hb : 1 ≤ b ∧ b ≤ 64) : RgOk (rgNew a b cs cc) := ⟨ha, hb, cutI_in (by omega), ⟨by show (0 : Int) ≤ 0; omega, by show (0 : Int) < _; omega⟩, cutI_in (by omega), ⟨by show (0 : Int) ≤ 0; omega, by show (0 : Int) < _; omega⟩⟩
theorem RgOk.up {r : Rg} (h : RgOk r) : RgOk (rgUp r) := ⟨h.sq, h.cq, h.cb, wrap32_in _, h.sb, h.head⟩
theorem pow_cb {k : Int} (h : 0 ≤ k ∧ k ≤ 4) : (1 : Int) ≤ 2 ^ k.toNat ∧ (2 : Int) ^ k.toNat ≤ 16 ∧ IntKind.u32.wrap (1 * 2 ^ k.toNat) = 2 ^ k.toNat := by
  have : k = 0 ∨ k = 1 ∨ k = 2 ∨ k = 3 ∨ k = 4 := by omega
  rcases this with rfl | rfl | rfl | rfl | rfl <;> decide
theorem place_in {r : Rg} (h : RgOk r) : 0 ≤ r.tail % 2 ^ r.cb.toNat ∧ r.tail % 2 ^ r.cb.toNat ≤ 15 := by
  have h2 := pow_cb h.cb
  have h3 := Int.emod_nonneg r.tail (b := 2 ^ r.cb.toNat) (by omega)
  have h4 := Int.emod_lt_of_pos r.tail (b := 2 ^ r.cb.toNat) (by omega)
  omega
theorem rgRow_ok {r : Rg} {ms : List (List Int)} (h : RgOk r) (hM : MemOk ms) (c : Cqe) : (rgRow r ms c).length = 512 ∧ Bytes (rgRow r ms c) := by
  obtain ⟨h1, h2, h3⟩ := hM.at h.cq
  have h4 := place_in h
  have h5 : (putB (rowAt ms r.cq) (16 + r.tail % 2 ^ r.cb.toNat * 16).toNat (bytesX c)).length = 512 := by rw [putB_len (by rw [bytesX_len]; omega), h2]
  exact ⟨by unfold rgRow; rw [putB_len (by simp [le4]; omega), h5], putB_bytes (putB_bytes h3 (bytesX_bytes c)) (le4_bytes _)⟩
theorem postM_ok {r : Rg} {ms : List (List Int)} (h : RgOk r) (hM : MemOk ms) (c : Cqe) : MemOk (postM r ms c) := by
  unfold postM; split
  · exact hM.put (rgRow_ok h hM c)
  · exact hM
theorem postR_ok {r : Rg} {ms : List (List Int)} (h : RgOk r) (c : Cqe) : RgOk (postR r ms c) := by
  unfold postR; split
  · exact h.up
  · exact ⟨h.sq, h.cq, h.cb, h.tail, h.sb, h.head⟩
theorem ringWord {E : World} {l m : List As} {b mb : Nat} {v : Value} {r : Rg} {ms : List (List Int)} (hp : Picks [blk b 217 [.pointer (some ⟨mb, 0, none⟩), .int .i64 r.sq, .int .i64 r.cq, .int .i64 r.sb, .int .i64 r.cb, .int .u32 r.head, .int .u32 r.tail, v], memA mb ms] l m) {x : List Int} {at_ : Nat} (hat : at_ + 4 ≤ 512) {u : Nat} (hms : ms.length = 64) (hu : ms[u]? = some x) (hxl : x.length = 512) (hB : Bytes x) :
    Con Tryz.prog 95 #[.pointer (some ⟨b, 0, none⟩), .int .i64 ((u : Int) + 1), .int .i64 (at_ : Int)] E l (fun _ : Unit => .int .u32 (getN x at_ 4)) (fun _ => blk b 217 [.pointer (some ⟨mb, 0, none⟩), .int .i64 r.sq, .int .i64 r.cq, .int .i64 r.sb, .int .i64 r.cb, .int .u32 r.head, .int .u32 r.tail, v] :: memA mb ms :: m) := by
  refine Con.body (vs := [.pointer (some ⟨b, 0, none⟩), .int .i64 ((u : Int) + 1), .int .i64 (at_ : Int)]) (n := 21) Tryz.func95 rfl rfl [(0, .pointer (some ⟨b, 0, none⟩)), (1, .int .i64 ((u : Int) + 1)), (2, .int .i64 (at_ : Int))] (env_ok 3 rfl) <| J_picks2 hp <| sr <| ag rfl rfl <| nx <| mv rfl rfl <| nc rfl rfl <| fa rfl rfl fa217_0 ?_
  refine L_val rfl (v_load rfl ty75 HS (by exact rfl)) ?_
  refine mv rfl rfl <| mv rfl rfl <| L_op <| xc fc50 (.cons rfl (.cons rfl (.cons rfl (.cons rfl .nil)))) rfl (readC (ms := ms) (u := u) (off := at_) (n := 4) PC hms hu hxl (by omega)) fun x16 => ?_
  refine mv rfl rfl <| L_pur rfl (p_extract rfl rfl) <| L_pur rfl (p_extract rfl rfl) <| ag rfl rfl <| ag rfl rfl <| nx <| mv rfl rfl <| L_op <| xc fc139 (.cons rfl (.cons rfl .nil)) rfl (u32C (a := 0) (bs := (x.drop at_).take 4) (fun w H => sep_reads (xs := ((x.drop at_).take 4).map encU) HS H) (by simp; omega) (by simp; omega) (part_bytes hB)) fun _ => ?_
  refine J_slot (t := 20) (v := .int .u32 (getN x at_ 4)) rfl (by rw [getN_part]) <| ag rfl rfl <| nq <| J_ret ?_
  refine J_return (()) Tryz.results95 (.tmp rfl .nil) ?_ ?_
  · rfl
  · exact SU
theorem ringPuts {E : World} {l m : List As} {b mb : Nat} {v : Value} {r : Rg} {ms : List (List Int)} (hp : Picks [blk b 217 [.pointer (some ⟨mb, 0, none⟩), .int .i64 r.sq, .int .i64 r.cq, .int .i64 r.sb, .int .i64 r.cb, .int .u32 r.head, .int .u32 r.tail, v], memA mb ms] l m) {x : List Int} {n : Int} {at_ : Nat} (hat : at_ + 4 ≤ 512) {u : Nat} (hms : ms.length = 64) (hu : ms[u]? = some x) (hxl : x.length = 512)  :
    Con Tryz.prog 195 #[.pointer (some ⟨b, 0, none⟩), .int .i64 ((u : Int) + 1), .int .i64 (at_ : Int), .int .u32 n] E l (fun _ : Unit => .tuple #[]) (fun _ => blk b 217 [.pointer (some ⟨mb, 0, none⟩), .int .i64 r.sq, .int .i64 r.cq, .int .i64 r.sb, .int .i64 r.cb, .int .u32 r.head, .int .u32 r.tail, v] :: memA mb (ms.set u (putB x at_ (le4 n))) :: m) := by
  refine Con.body (vs := [.pointer (some ⟨b, 0, none⟩), .int .i64 ((u : Int) + 1), .int .i64 (at_ : Int), .int .u32 n]) (n := 18) Tryz.func195 rfl rfl [(0, .pointer (some ⟨b, 0, none⟩)), (1, .int .i64 ((u : Int) + 1)), (2, .int .i64 (at_ : Int)), (3, .int .u32 n)] (env_ok 4 rfl) <| J_picks2 hp <| J_drawL (some 9) mixed <| ip 0 rfl rfl rfl rfl (p_move rfl) <| ip 1 rfl rfl rfl rfl (p_nilCheck rfl) <| ip 2 rfl rfl rfl rfl (p_fieldAddr rfl fa217_0) <| iv 3 rfl rfl rfl rfl (fun _ => v_load rfl ty75 HS (by exact rfl)) ?_
  refine ip 4 rfl rfl rfl rfl (p_move rfl) <| ip 5 rfl rfl rfl rfl (p_move rfl) <| ip 7 rfl rfl rfl rfl (p_move rfl) <| i1 6 rfl <| x_make (len := 4) rfl rfl Tryz.underlying73 ty5 rfl rfl (by simp) (by simp) rfl rfl <| JE ((List.replicate 4 0).map encU) (by rfl) fun a14 c14 hw14 hl14 hm14 hz14 => i1 8 rfl <| xc fc264 (.cons rfl (.cons rfl (.cons rfl .nil))) rfl (put32C (a := 0) (bs := List.replicate 4 0) (fun w H => sep_reads (xs := (List.replicate 4 (0 : Int)).map encU) HS H) (by decide) (by decide)) ?_
  refine JE ((le4 n).map encU) (by rfl) fun a16 c16 hw16 hl16 hm16 hz16 => i1 9 rfl <| xc fc40 (.cons rfl (.cons rfl (.cons rfl (.cons rfl .nil)))) rfl (writeC (ms := ms) (u := u) (r := x) (off := at_) (ys := le4 n) PC hms hu hxl (fun w H => sep_reads (xs := (le4 n).map encU) HS H) (by simp [le4]; omega)) fun _ => ?_
  refine i0 <| J_endnormal ?_
  exact J_return (()) Tryz.results195 .nil rfl SU
theorem ringRoom {E : World} {l m : List As} {b mb : Nat} {v : Value} {r : Rg} {ms : List (List Int)} (hp : Picks [blk b 217 [.pointer (some ⟨mb, 0, none⟩), .int .i64 r.sq, .int .i64 r.cq, .int .i64 r.sb, .int .i64 r.cb, .int .u32 r.head, .int .u32 r.tail, v], memA mb ms] l m) (hR : RgOk r) (hM : MemOk ms) :
    Con Tryz.prog 49 #[.pointer (some ⟨b, 0, none⟩)] E l (fun _ : Unit => .tuple #[.int .i64 (rgRoom r ms), .bool (!decide (rgFar r ms > 2 ^ r.cb.toNat))]) (fun _ => blk b 217 [.pointer (some ⟨mb, 0, none⟩), .int .i64 r.sq, .int .i64 r.cq, .int .i64 r.sb, .int .i64 r.cb, .int .u32 r.head, .int .u32 r.tail, v] :: memA mb ms :: m) := by
  refine Con.body (vs := [.pointer (some ⟨b, 0, none⟩)]) (n := 29) Tryz.func49 rfl rfl [(0, .pointer (some ⟨b, 0, none⟩))] (env_ok 1 rfl) <| J_picks2 hp ?_
  obtain ⟨hu, hxl, hB⟩ := hM.at hR.cq
  obtain ⟨x, hx⟩ : ∃ x, x = rowAt ms r.cq := ⟨_, rfl⟩
  obtain ⟨u, huq⟩ : ∃ u : Nat, r.cq = (u : Int) + 1 := ⟨(r.cq - 1).toNat, by have := hR.cq; omega⟩
  have hu1 : (r.cq - 1).toNat = u := by omega
  rw [← hx, hu1] at hu
  rw [← hx] at hxl hB
  have hcb := pow_cb hR.cb
  have hcr := hR.cb
  refine sr <| ag rfl rfl <| ag rfl rfl <| nq <| J_seq <| J_drawL none mixed <| ip 0 rfl rfl rfl rfl (p_move rfl) <| ip 1 rfl rfl rfl rfl (p_nilCheck rfl) ?_
  refine ip 2 rfl rfl rfl rfl (p_fieldAddr rfl fa217_6) <| iv 3 rfl rfl rfl rfl (fun _ => v_load rfl ty22 HS (by exact rfl)) ?_
  refine ip 4 rfl rfl rfl rfl (p_move rfl) <| ip 5 rfl rfl rfl rfl (p_move rfl) <| ip 6 rfl rfl rfl rfl (p_nilCheck rfl) <| ip 7 rfl rfl rfl rfl (p_fieldAddr rfl fa217_2) <| iv 8 rfl rfl rfl rfl (fun _ => v_load rfl ty3 HS (by exact rfl)) ?_
  refine J_slot (t := 14) (v := .int .i64 ((u : Int) + 1)) rfl (by rw [huq]) <| ip 11 rfl rfl rfl rfl (p_move rfl) <| ip 12 rfl rfl rfl rfl (p_nilCheck rfl) <| ip 13 rfl rfl rfl rfl (p_fieldAddr rfl fa217_4) <| iv 14 rfl rfl rfl rfl (fun _ => v_load rfl ty3 HS (by exact rfl)) ?_
  refine ip 15 rfl rfl rfl rfl (p_shl rfl rfl (by omega) (by have : (IntKind.u32.bits : Int) = 32 := rfl; omega)) <| J_slot (t := 21) (v := .int .u32 (2 ^ r.cb.toNat)) rfl (by rw [hcb.2.2]) <| i1 9 rfl <| xc fc95 (.cons rfl (.cons rfl (.cons rfl .nil))) rfl (ringWord (r := r) (ms := ms) (x := x) (u := u) (at_ := 0) PX (by omega) hM.len hu hxl hB) fun _ => ?_
  refine i1 10 rfl <| xc fc94 (.cons rfl (.cons rfl .nil)) rfl (distC) fun _ => J_slot (t := 16) (v := .int .u32 (rgFar r ms)) rfl (by unfold rgFar; rw [← hx]) <| ip 16 rfl rfl rfl rfl (p_assign rfl) <| ip 17 rfl rfl rfl rfl (p_assign rfl) <| i0 <| Q_then <| J_seq ?_
  refine sr <| mv rfl rfl <| mv rfl rfl <| L_pur rfl (p_gtr rfl rfl) <| nq ?_
  refine C_dec rfl (fun h24 => ?_) (fun h24 => ?_)
  refine sr <| ag rfl rfl <| ag rfl rfl <| nq <| J_ret <| Q_then_ret ?_
  refine J_return (()) Tryz.results49 (.tmp rfl (.tmp rfl .nil)) ?_ ?_
  · simp [one, rgRoom, h24]
  · exact SU
  have hfar := wrap32_in (r.tail - getN (rowAt ms r.cq) 0 4)
  have hfe : rgFar r ms = IntKind.u32.wrap (r.tail - getN (rowAt ms r.cq) 0 4) := rfl
  refine J_skip <| qx <| mv rfl rfl <| mv rfl rfl <| L_pur rfl (p_sub rfl rfl) <| L_pur rfl (p_conv rfl Tryz.underlying22 Tryz.underlying3) <| J_slot (t := 28) (v := .int .i64 (2 ^ r.cb.toNat - rgFar r ms)) rfl (by rw [wrap32u_of (by omega), wrap64_of (by omega)]) <| ag rfl rfl ?_
  refine ag rfl rfl <| nq <| J_ret ?_
  refine J_return (()) Tryz.results49 (.tmp rfl (.tmp rfl .nil)) ?_ ?_
  · simp [one, rgRoom, h24]
  · exact SU
theorem ringWrites {E : World} {l m : List As} {b mb : Nat} {v : Value} {r : Rg} {ms : List (List Int)} (hp : Picks [blk b 217 [.pointer (some ⟨mb, 0, none⟩), .int .i64 r.sq, .int .i64 r.cq, .int .i64 r.sb, .int .i64 r.cb, .int .u32 r.head, .int .u32 r.tail, v], memA mb ms] l m) {c : Cqe} (hR : RgOk r) (hM : MemOk ms) :
    Con Tryz.prog 133 #[.pointer (some ⟨b, 0, none⟩), .agg (encX c).toArray] E l (fun _ : Unit => .bool (rgWrOk r ms)) (fun _ => blk b 217 [.pointer (some ⟨mb, 0, none⟩), .int .i64 (if rgWrOk r ms then rgUp r else r).sq, .int .i64 (if rgWrOk r ms then rgUp r else r).cq, .int .i64 (if rgWrOk r ms then rgUp r else r).sb, .int .i64 (if rgWrOk r ms then rgUp r else r).cb, .int .u32 (if rgWrOk r ms then rgUp r else r).head, .int .u32 (if rgWrOk r ms then rgUp r else r).tail, v] :: memA mb (if rgWrOk r ms then ms.set (r.cq - 1).toNat (rgRow r ms c) else ms) :: m) := by
  refine Con.body (vs := [.pointer (some ⟨b, 0, none⟩), .agg (encX c).toArray]) (n := 55) Tryz.func133 rfl rfl [(0, .pointer (some ⟨b, 0, none⟩)), (1, .agg (encX c).toArray)] (env_ok 2 rfl) <| J_picks2 hp ?_
  obtain ⟨hu, hxl, hB⟩ := hM.at hR.cq
  obtain ⟨x, hx⟩ : ∃ x, x = rowAt ms r.cq := ⟨_, rfl⟩
  obtain ⟨u, huq⟩ : ∃ u : Nat, r.cq = (u : Int) + 1 := ⟨(r.cq - 1).toNat, by have := hR.cq; omega⟩
  have hu1 : (r.cq - 1).toNat = u := by omega
  rw [← hx, hu1] at hu
  rw [← hx] at hxl hB
  have hcb := pow_cb hR.cb
  have hcr := hR.cb
  refine sr <| L_op <| x_box rfl rfl rfl fun b3 => ag rfl rfl <| nxx <| mv rfl rfl <| L_op <| xc fc49 (.cons rfl .nil) rfl (ringRoom (r := r) (ms := ms) PX hR hM) fun _ => ?_
  refine mv rfl rfl <| L_pur rfl (p_extract rfl rfl) <| L_pur rfl (p_extract rfl rfl) <| ag rfl rfl <| ag rfl rfl <| nx <| mv rfl rfl <| L_pur rfl (p_not rfl) ?_
  refine mv rfl rfl ?_
  refine J_gsplit (t := 14) rfl (fun h14 => ?_) (fun h14 => ?_)
  have hno : rgWrOk r ms = false := by unfold rgWrOk; simp at h14 ⊢; omega
  refine L_op <| G_off rfl rfl rfl rfl rfl rfl <| L_op <| G_off rfl rfl rfl rfl rfl rfl <| L_pur rfl (p_pick_t rfl rfl) <| nq <| C_true rfl <| sr ?_
  refine ag rfl rfl <| nq <| J_ret <| Q_then_ret <| J_pick (A := blk b _ _) PC ?_
  refine J_asTo (B := blk b 217 [.pointer (some ⟨mb, 0, none⟩), .int .i64 (if rgWrOk r ms then rgUp r else r).sq, .int .i64 (if rgWrOk r ms then rgUp r else r).cq, .int .i64 (if rgWrOk r ms then rgUp r else r).sb, .int .i64 (if rgWrOk r ms then rgUp r else r).cb, .int .u32 (if rgWrOk r ms then rgUp r else r).head, .int .u32 (if rgWrOk r ms then rgUp r else r).tail, v]) (by rw [hno, if_neg (by decide)]) <| J_pick (A := memA mb _) PC ?_
  refine J_asTo (B := memA mb (if rgWrOk r ms then ms.set (r.cq - 1).toNat (rgRow r ms c) else ms)) (by rw [hno, if_neg (by decide)]) ?_
  refine J_return (()) Tryz.results133 (.tmp rfl .nil) ?_ ?_
  · simp [one, hno]
  · exact SU
  refine L_op <| G_on rfl rfl rfl <| J_pur (p_move rfl) rfl rfl rfl <| L_op <| G_on rfl rfl rfl <| J_pur (p_lss rfl rfl) rfl rfl rfl <| L_pur rfl (p_pick_f rfl rfl) <| nq ?_
  refine C_dec rfl (fun h17 => ?_) (fun h17 => ?_)
  have hno : rgWrOk r ms = false := by unfold rgWrOk rgRoom at *; simp at h14 h17 ⊢; split at h17 <;> omega
  refine sr <| ag rfl rfl <| nq <| J_ret <| Q_then_ret <| J_pick (A := blk b _ _) PC ?_
  refine J_asTo (B := blk b 217 [.pointer (some ⟨mb, 0, none⟩), .int .i64 (if rgWrOk r ms then rgUp r else r).sq, .int .i64 (if rgWrOk r ms then rgUp r else r).cq, .int .i64 (if rgWrOk r ms then rgUp r else r).sb, .int .i64 (if rgWrOk r ms then rgUp r else r).cb, .int .u32 (if rgWrOk r ms then rgUp r else r).head, .int .u32 (if rgWrOk r ms then rgUp r else r).tail, v]) (by rw [hno, if_neg (by decide)]) <| J_pick (A := memA mb _) PC ?_
  refine J_asTo (B := memA mb (if rgWrOk r ms then ms.set (r.cq - 1).toNat (rgRow r ms c) else ms)) (by rw [hno, if_neg (by decide)]) ?_
  refine J_return (()) Tryz.results133 (.tmp rfl .nil) ?_ ?_
  · simp [one, hno]
  · exact SU
  have hyes : rgWrOk r ms = true := by unfold rgWrOk rgRoom at *; simp at h14 h17 ⊢; split at h17 <;> omega
  have hpl := place_in hR
  obtain ⟨off, hoff⟩ : ∃ off : Nat, 16 + r.tail % 2 ^ r.cb.toNat * 16 = (off : Int) := ⟨(16 + r.tail % 2 ^ r.cb.toNat * 16).toNat, by omega⟩
  obtain ⟨y, hy⟩ : ∃ y, y = putB x off (bytesX c) := ⟨_, rfl⟩
  have hyl : y.length = 512 := by rw [hy, putB_len (by rw [bytesX_len]; omega), hxl]
  have hul : u < ms.length := (List.getElem?_eq_some_iff.1 hu).1
  have hrow : rgRow r ms c = putB y 4 (le4 (IntKind.u32.wrap (r.tail + 1))) := by unfold rgRow; rw [← hx, hoff, Int.toNat_natCast, ← hy]
  refine J_skip <| Q_then <| J_seq <| J_drawL (some 19) mixed <| ip 0 rfl rfl rfl rfl (p_move rfl) <| ip 1 rfl rfl rfl rfl (p_nilCheck rfl) <| ip 2 rfl rfl rfl rfl (p_fieldAddr rfl fa217_0) <| iv 3 rfl rfl rfl rfl (fun _ => v_load rfl ty75 HS (by exact rfl)) ?_
  refine ip 4 rfl rfl rfl rfl (p_move rfl) <| ip 5 rfl rfl rfl rfl (p_nilCheck rfl) <| ip 6 rfl rfl rfl rfl (p_fieldAddr rfl fa217_2) <| iv 7 rfl rfl rfl rfl (fun _ => v_load rfl ty3 HS (by exact rfl)) ?_
  refine J_slot (t := 25) (v := .int .i64 ((u : Int) + 1)) rfl (by rw [huq]) <| ip 8 rfl rfl rfl rfl (p_move rfl) <| ip 9 rfl rfl rfl rfl (p_nilCheck rfl) <| ip 10 rfl rfl rfl rfl (p_fieldAddr rfl fa217_6) <| iv 11 rfl rfl rfl rfl (fun _ => v_load rfl ty22 HS (by exact rfl)) ?_
  refine ip 12 rfl rfl rfl rfl (p_move rfl) <| ip 13 rfl rfl rfl rfl (p_nilCheck rfl) <| ip 14 rfl rfl rfl rfl (p_fieldAddr rfl fa217_4) <| iv 15 rfl rfl rfl rfl (fun _ => v_load rfl ty3 HS (by exact rfl)) ?_
  refine J_slot (t := 33) (v := .int .i64 (r.cb.toNat : Int)) rfl (by rw [Int.toNat_of_nonneg hcr.1]) <| iv 17 rfl rfl rfl rfl (fun _ => v_loadA rfl ty93 HS CT) ?_
  refine i1 16 rfl <| xc fc193 (.cons rfl (.cons rfl (.cons rfl .nil))) rfl (placeC (k := r.cb.toNat) (n := r.tail) (.inl rfl) (by omega) hR.tail) fun _ => J_slot (t := 34) (v := .int .i64 (off : Int)) rfl (by rw [← hoff]) <| i1 18 rfl <| xc fc194 (.cons rfl .nil) rfl (bytesC) <| JR fun a36 c36 hw36 hl36 hm36 hz36 => i1 19 rfl ?_
  refine xc fc40 (.cons rfl (.cons rfl (.cons rfl (.cons rfl .nil)))) rfl (writeC (ms := ms) (u := u) (r := x) (off := off) (ys := bytesX c) PC hM.len hu hxl (fun w H => sep_reads (xs := (bytesX c).map encU) HS H) (by rw [bytesX_len]; omega)) fun _ => ?_
  refine J_pick (A := memA mb _) PC ?_
  refine J_asTo (B := memA mb (ms.set u y)) (by rw [hy]) <| i0 <| qx <| mv rfl rfl <| nc rfl rfl <| fa rfl rfl fa217_6 <| L_val rfl (v_load rfl ty22 HS (by exact rfl)) ?_
  refine L_pur rfl (p_add rfl rfl) <| J_slot (t := 42) (v := .int .u32 (rgUp r).tail) rfl rfl <| nc rfl rfl <| fa rfl rfl fa217_6 <| L_op <| x_store rfl rfl ty22 rfl SM SM RO PT ?_
  refine J_pick (A := blk b _ _) PC ?_
  refine J_asTo (B := blk b 217 [.pointer (some ⟨mb, 0, none⟩), .int .i64 (rgUp r).sq, .int .i64 (rgUp r).cq, .int .i64 (rgUp r).sb, .int .i64 (rgUp r).cb, .int .u32 (rgUp r).head, .int .u32 (rgUp r).tail, v]) (by rfl) <| nq <| J_seq <| J_drawT 9 mixed (by kernel_rfl) <| sm rfl rfl <| sm rfl rfl <| sp rfl (p_nilCheck rfl) <| sp rfl (p_fieldAddr rfl fa217_2) ?_
  refine S_val rfl (v_load rfl ty3 HS (by exact rfl)) ?_
  refine J_slot (t := 49) (v := .int .i64 ((u : Int) + 1)) rfl (by rw [← huq]; rfl) <| sm rfl rfl <| sp rfl (p_nilCheck rfl) <| sp rfl (p_fieldAddr rfl fa217_6) <| S_val rfl (v_load rfl ty22 HS (by exact rfl)) ?_
  refine S_nil ?_
  refine L_op (xc fc195 (.cons rfl (.cons rfl (.cons rfl (.cons rfl .nil)))) rfl (ringPuts (r := rgUp r) (ms := ms.set u y) (x := y) (u := u) (n := (rgUp r).tail) (at_ := 4) PX (by omega) (by rw [List.length_set, hM.len]) (by rw [List.getElem?_set_self hul]) hyl) fun _ => ?_)
  refine J_pick (A := memA mb _) PC ?_
  refine J_asTo (B := memA mb (ms.set u (rgRow r ms c))) (by rw [List.set_set, hrow]; rfl) <| nx <| ag rfl rfl <| nq <| J_ret <| J_pick (A := blk b _ _) PC ?_
  refine J_asTo (B := blk b 217 [.pointer (some ⟨mb, 0, none⟩), .int .i64 (if rgWrOk r ms then rgUp r else r).sq, .int .i64 (if rgWrOk r ms then rgUp r else r).cq, .int .i64 (if rgWrOk r ms then rgUp r else r).sb, .int .i64 (if rgWrOk r ms then rgUp r else r).cb, .int .u32 (if rgWrOk r ms then rgUp r else r).head, .int .u32 (if rgWrOk r ms then rgUp r else r).tail, v]) (by rw [hyes, if_pos rfl]) <| J_pick (A := memA mb _) PC ?_
  refine J_asTo (B := memA mb (if rgWrOk r ms then ms.set (r.cq - 1).toNat (rgRow r ms c) else ms)) (by rw [hyes, if_pos rfl, hu1]) ?_
  refine J_return (()) Tryz.results133 (.tmp rfl .nil) ?_ ?_
  · simp [one, hyes]
  · exact SU
end Go.Pse
namespace Go.Pse
open Go.RowKit Go.Proofs
theorem ringPost {E : World} {l m : List As} {b mb : Nat} {r : Rg} {ms : List (List Int)} (hp : Picks [rgA b mb r, memA mb ms] l m) {c : Cqe} (hl : r.over.length ≤ 100000) (hR : RgOk r) (hM : MemOk ms) :
    Con Tryz.prog 175 #[.pointer (some ⟨b, 0, none⟩), .agg (encX c).toArray] E l (fun _ : Unit => .bool (postOk r ms)) (fun _ => rgA b mb (postR r ms c) :: memA mb (postM r ms c) :: m) := by
  refine Con.body (vs := [.pointer (some ⟨b, 0, none⟩), .agg (encX c).toArray]) (n := 26) Tryz.func175 rfl rfl [(0, .pointer (some ⟨b, 0, none⟩)), (1, .agg (encX c).toArray)] (env_ok 2 rfl) <| J_picks2 hp <| J_rgO fun v _ => J_row (.there .here) fun hw a cap hv h1 h2 h3 => ?_
  subst hv
  have hm : cap ≤ 9223372036854775807 := h2
  have hml : (r.over.map encX).length = r.over.length := List.length_map _
  refine sr <| L_op <| x_box rfl rfl rfl fun b3 => ag rfl rfl <| nxx <| mv rfl rfl <| nc rfl rfl <| fa rfl rfl fa217_7 ?_
  refine L_val rfl (v_load rfl ty88 HS (by exact rfl)) ?_
  refine L_pur rfl (p_len rfl Tryz.underlying88) <| L_pur rfl (p_eql rfl rfl) <| mv rfl rfl ?_
  refine J_gsplit (t := 11) rfl (fun h11 => ?_) (fun h11 => ?_)
  have he : r.over = [] := by simpa using h11
  refine L_op <| G_on rfl rfl rfl <| J_pur (p_move rfl) rfl rfl rfl <| L_op <| G_on rfl rfl rfl <| J_val (v_loadA rfl ty93 HS CT) rfl rfl rfl ?_
  refine L_op <| G_on rfl rfl rfl <| xc fc133 (.cons rfl (.cons rfl .nil)) rfl (ringWrites (c := c) (r := r) (ms := ms) PX hR hM) fun _ => ?_
  refine L_pur rfl (p_pick_t rfl rfl) <| nq ?_
  refine C_split rfl (fun h15 => ?_) (fun h15 => ?_)
  have hok : postOk r ms = true := by unfold postOk; rw [he, h15]; rfl
  refine sr <| ag rfl rfl <| nq <| J_ret <| Q_then_ret <| J_pick (A := row 93 4 _ _) PC ?_
  refine J_rowEq (ys := (rgUp r).over.map encX) (by rfl) <| J_pick (A := blk b _ _) PC ?_
  refine J_asTo (B := blk b 217 [.pointer (some ⟨mb, 0, none⟩), .int .i64 (rgUp r).sq, .int .i64 (rgUp r).cq, .int .i64 (rgUp r).sb, .int .i64 (rgUp r).cb, .int .u32 (rgUp r).head, .int .u32 (rgUp r).tail, (.slice a (r.over.map encX).length cap)]) (by rw [h15, if_pos rfl]) <| J_pick (A := memA mb _) PC ?_
  refine J_asTo (B := memA mb (ms.set (r.cq - 1).toNat (rgRow r ms c))) (by rw [h15, if_pos rfl]) <| J_rgS (b := b) (mb := mb) (r := rgUp r) _ PX trivial ?_
  refine J_asTo (B := rgA b mb (postR r ms c)) (by rw [postR, hok]; rfl) <| J_pick (A := memA mb _) PC ?_
  refine J_asTo (B := memA mb (postM r ms c)) (by rw [postM, hok]; rfl) ?_
  refine J_return (()) Tryz.results175 (.tmp rfl .nil) ?_ ?_
  · simp [one, hok]
  · exact SU
  have hno : rgWrOk r ms = false := h15
  have hok : postOk r ms = false := by unfold postOk; rw [hno, Bool.and_false]
  refine J_skip <| Q_then <| J_seq <| J_pick (A := blk b _ _) PC ?_
  refine J_asTo (B := blk b 217 [.pointer (some ⟨mb, 0, none⟩), .int .i64 r.sq, .int .i64 r.cq, .int .i64 r.sb, .int .i64 r.cb, .int .u32 r.head, .int .u32 r.tail, (.slice a (r.over.map encX).length cap)]) (by rw [hno, if_neg (by decide)]) <| J_pick (A := memA mb _) PC ?_
  refine J_asTo (B := memA mb ms) (by rw [hno, if_neg (by decide)]) <| J_drawL (some 7) mixed <| ip 0 rfl rfl rfl rfl (p_move rfl) <| ip 1 rfl rfl rfl rfl (p_move rfl) <| ip 2 rfl rfl rfl rfl (p_nilCheck rfl) <| ip 3 rfl rfl rfl rfl (p_fieldAddr rfl fa217_7) <| iv 4 rfl rfl rfl rfl (fun _ => v_load rfl ty88 HS (by exact rfl)) ?_
  refine iv 5 rfl rfl rfl rfl (fun _ => v_loadA rfl ty93 HS CT) ?_
  refine i1 6 rfl <| x_lit (vals := [_]) Tryz.underlying88 ty93 rfl (.cons rfl .nil) (.agg .nil) (Wf.cons rfl rfl Wf.nil) rfl (by decide) rfl rfl <| JR fun a22 c22 hw22 hl22 hm22 hz22 => i1 7 rfl <| x_app rfl rfl Tryz.underlying88 ty93 rfl rfl PC (fun w H => sep_reads HS H) (by simp; omega) (by simp; omega) rfl <| JE ((r.over ++ [c]).map encX) (by simp) fun a23 c23 hw23 hl23 hm23 hz23 => ip 8 rfl rfl rfl rfl (p_nilCheck rfl) <| ip 9 rfl rfl rfl rfl (p_fieldAddr rfl fa217_7) ?_
  refine i1 10 rfl <| x_store rfl rfl ty88 rfl SM SM RO PT ?_
  refine i0 <| qx <| ag rfl rfl <| nq <| J_ret <| J_rgS (b := b) (mb := mb) (r := { r with over := r.over ++ [c] }) _ PX trivial ?_
  refine J_asTo (B := rgA b mb (postR r ms c)) (by rw [postR, hok]; rfl) <| J_pick (A := memA mb _) PC ?_
  refine J_asTo (B := memA mb (postM r ms c)) (by rw [postM, hok]; rfl) ?_
  refine J_return (()) Tryz.results175 (.tmp rfl .nil) ?_ ?_
  · simp [one, hok]
  · exact SU
  have he : r.over.isEmpty = false := by
    cases hov : r.over with
    | nil => rw [hov] at h11; simp at h11
    | cons x xs => rfl
  refine L_op <| G_off rfl rfl rfl rfl rfl rfl <| L_op <| G_off rfl rfl rfl rfl rfl rfl <| L_op <| G_off rfl rfl rfl rfl rfl rfl <| L_pur rfl (p_pick_f rfl rfl) <| nq ?_
  refine C_false rfl <| J_skip <| Q_then <| J_seq ?_
  have hok : postOk r ms = false := by unfold postOk; rw [he]; rfl
  refine J_drawL (some 7) mixed <| ip 0 rfl rfl rfl rfl (p_move rfl) <| ip 1 rfl rfl rfl rfl (p_move rfl) <| ip 2 rfl rfl rfl rfl (p_nilCheck rfl) <| ip 3 rfl rfl rfl rfl (p_fieldAddr rfl fa217_7) <| iv 4 rfl rfl rfl rfl (fun _ => v_load rfl ty88 HS (by exact rfl)) ?_
  refine iv 5 rfl rfl rfl rfl (fun _ => v_loadA rfl ty93 HS CT) ?_
  refine i1 6 rfl <| x_lit (vals := [_]) Tryz.underlying88 ty93 rfl (.cons rfl .nil) (.agg .nil) (Wf.cons rfl rfl Wf.nil) rfl (by decide) rfl rfl <| JR fun a22 c22 hw22 hl22 hm22 hz22 => i1 7 rfl <| x_app rfl rfl Tryz.underlying88 ty93 rfl rfl PC (fun w H => sep_reads HS H) (by simp; omega) (by simp; omega) rfl <| JE ((r.over ++ [c]).map encX) (by simp) fun a23 c23 hw23 hl23 hm23 hz23 => ip 8 rfl rfl rfl rfl (p_nilCheck rfl) <| ip 9 rfl rfl rfl rfl (p_fieldAddr rfl fa217_7) ?_
  refine i1 10 rfl <| x_store rfl rfl ty88 rfl SM SM RO PT ?_
  refine i0 <| qx <| ag rfl rfl <| nq <| J_ret <| J_rgS (b := b) (mb := mb) (r := { r with over := r.over ++ [c] }) _ PX trivial ?_
  refine J_asTo (B := rgA b mb (postR r ms c)) (by rw [postR, hok]; rfl) <| J_pick (A := memA mb _) PC ?_
  refine J_asTo (B := memA mb (postM r ms c)) (by rw [postM, hok]; rfl) ?_
  refine J_return (()) Tryz.results175 (.tmp rfl .nil) ?_ ?_
  · simp [one, hok]
  · exact SU
theorem ringTail {E : World} {l m : List As} {b mb : Nat} {r : Rg} (hp : Pick (rgA b mb r) l m) :
    Con Tryz.prog 44 #[.pointer (some ⟨b, 0, none⟩)] E l (fun _ : Unit => .int .u32 r.tail) (fun _ => rgA b mb r :: m) := by
  refine Con.body (vs := [.pointer (some ⟨b, 0, none⟩)]) (n := 7) Tryz.func44 rfl rfl [(0, .pointer (some ⟨b, 0, none⟩))] (env_ok 1 rfl) <| J_pick hp <| J_rgO fun v _ => sr <| ag rfl rfl <| nx <| mv rfl rfl <| nc rfl rfl ?_
  refine fa rfl rfl fa217_6 <| L_val rfl (v_load rfl ty22 HS (by exact rfl)) ?_
  refine ag rfl rfl <| nq <| J_ret <| J_rgS (b := b) (mb := mb) (r := r) v PX trivial ?_
  refine J_return (()) Tryz.results44 (.tmp rfl .nil) ?_ ?_
  · rfl
  · exact SU
theorem jnlAdd {E : World} {l m : List As} {b o : Nat} {xs : List Deed} (hp : Pick (jnlA b o xs) l m) (hb : xs.length ≤ 200000) {d : Deed} :
    Con Tryz.prog 174 #[.pointer (some ⟨b, o, none⟩), .agg (encD d).toArray] E l (fun _ : Unit => .tuple #[]) (fun _ => jnlA b o (xs ++ [d]) :: m) := by
  refine Con.body (vs := [.pointer (some ⟨b, o, none⟩), .agg (encD d).toArray]) (n := 14) Tryz.func174 rfl rfl [(0, .pointer (some ⟨b, o, none⟩)), (1, .agg (encD d).toArray)] (env_ok 2 rfl) <| J_pick hp <| J_jnlO fun v _ => J_row (.there .here) fun hw a cap hv h1 h2 h3 => ?_
  subst hv
  have hm : cap ≤ 9223372036854775807 := h2
  have hml : (xs.map encD).length = xs.length := List.length_map _
  refine sr <| L_op <| x_box rfl rfl rfl fun b3 => nq <| J_drawL (some 7) mixed <| ip 0 rfl rfl rfl rfl (p_move rfl) <| ip 1 rfl rfl rfl rfl (p_move rfl) <| ip 2 rfl rfl rfl rfl (p_nilCheck rfl) ?_
  refine ip 3 rfl rfl rfl rfl (p_fieldAddr rfl fa143_0) <| iv 4 rfl rfl rfl rfl (fun _ => v_loadL rfl ty40 HS rfl (by exact rfl)) ?_
  refine iv 5 rfl rfl rfl rfl (fun _ => v_loadA rfl ty45 HS CT) ?_
  refine i1 6 rfl <| x_lit (vals := [_]) Tryz.underlying40 ty45 rfl (.cons rfl .nil) (.agg .nil) (Wf.cons rfl rfl Wf.nil) rfl (by decide) rfl rfl <| JR fun a10 c10 hw10 hl10 hm10 hz10 => i1 7 rfl <| x_app rfl rfl Tryz.underlying40 ty45 rfl rfl PC (fun w H => sep_reads HS H) (by simp; omega) (by simp; omega) rfl <| JE ((xs ++ [d]).map encD) (by simp) fun a11 c11 hw11 hl11 hm11 hz11 => ip 8 rfl rfl rfl rfl (p_nilCheck rfl) <| ip 9 rfl rfl rfl rfl (p_fieldAddr rfl fa143_0) ?_
  refine i1 10 rfl <| x_storeL rfl rfl ty40 rfl SM SM rfl RO rfl PT ?_
  refine i0 <| J_endnormal <| J_jnlS (b := b) (o := o) (xs := xs ++ [d]) _ PX trivial ?_
  exact J_return (()) Tryz.results174 .nil rfl SU
theorem clone73 {E : World} {l : List As} {v : Value} {xs : List (List Value)} (hr : ∀ w, Sep E w l → Reads w 7 v xs) (hb : xs.length ≤ 1000000) :
    Con Tryz.prog 73 #[v] E l (fun v' : Value => v') (fun v' => row 45 7 v' xs :: l) := by
  refine Con.body (vs := [v]) (n := 8) Tryz.func73 rfl rfl [(0, v)] (env_ok 1 rfl) <| J_reads hr fun hw a cap hv h1 h2 h3 => ?_
  subst hv
  refine sr <| ag rfl rfl <| nxx <| mv rfl rfl <| L_pur rfl (p_eqnil Tryz.underlying40 rfl) <| nq ?_
  refine C_split rfl (fun h4 => ?_) (fun h4 => ?_)
  obtain rfl : a = none := by simpa using h4
  obtain ⟨rfl, rfl⟩ := h3 rfl
  refine J_nil (el := 45) (sz := 7) <| sr <| ag rfl rfl <| nq <| J_ret <| Q_then_ret ?_
  exact J_return (_) Tryz.results73 (.tmp rfl .nil) rfl SU
  refine J_skip <| qx <| L_op <| x_lit (vals := []) Tryz.underlying40 ty45 rfl .nil .nil Wf.nil rfl (by decide) rfl rfl <| JR fun a5 c5 hw5 hl5 hm5 hz5 => mv rfl rfl <| L_op <| x_app rfl rfl Tryz.underlying40 ty45 rfl rfl PC (fun w H => hr w H.tail) (OM) (OM) rfl ?_
  refine JR fun a7 c7 hw7 hl7 hm7 hz7 => ag rfl rfl <| nq <| J_ret ?_
  exact J_return (_) Tryz.results73 (.tmp rfl .nil) rfl SU
theorem jnlAll {E : World} {l m : List As} {b o : Nat} {xs : List Deed} (hp : Pick (jnlA b o xs) l m) (hb : xs.length ≤ 200000) :
    Con Tryz.prog 21 #[.pointer (some ⟨b, o, none⟩)] E l (fun v : Value => v) (fun v => row 45 7 v (xs.map encD) :: jnlA b o xs :: m) := by
  refine Con.body (vs := [.pointer (some ⟨b, o, none⟩)]) (n := 8) Tryz.func21 rfl rfl [(0, .pointer (some ⟨b, o, none⟩))] (env_ok 1 rfl) <| J_pick hp <| J_jnlO fun v _ => J_row (.there .here) fun hw a cap hv h1 h2 h3 => ?_
  subst hv
  have hm : cap ≤ 9223372036854775807 := h2
  have hml : (xs.map encD).length = xs.length := List.length_map _
  refine sr <| ag rfl rfl <| nx <| mv rfl rfl <| nc rfl rfl <| fa rfl rfl fa143_0 <| L_val rfl (v_loadL rfl ty40 HS rfl (by exact rfl)) ?_
  refine L_op <| xc fc73 (.cons rfl .nil) rfl (clone73 (xs := xs.map encD) (fun w H => sep_reads (xs := xs.map encD) HS H) (by simp; omega)) <| JR fun a7 c7 hw7 hl7 hm7 hz7 => ag rfl rfl <| nq <| J_ret <| J_jnlS (b := b) (o := o) (xs := xs) _ PX trivial ?_
  exact J_return (_) Tryz.results21 (.tmp rfl .nil) rfl SU
/-! ### plain: who waits, in order -/
theorem encI_one (c : ID) : ones (encI c) = true := rfl
theorem encI_len (c : ID) : (encI c).length = 2 := rfl
def isI (i c : ID) : Bool := decide (c.1 = i.1 ∧ c.2 = i.2)
theorem isI_iff {i c : ID} : isI i c = true ↔ c = i := by unfold isI; rw [decide_eq_true_eq, Prod.ext_iff]
theorem isI_eq (i c : ID) : isI i c = decide (c = i) := by rw [Bool.eq_iff_iff, isI_iff, decide_eq_true_eq]
def lpush (xs : List ID) (i : ID) : List ID := if i ∈ xs then xs else xs ++ [i]
def ldrop (xs : List ID) (i : ID) : List ID := xs.filter fun c => !isI i c
theorem ldrop_len (xs : List ID) (i : ID) : (ldrop xs i).length ≤ xs.length := List.length_filter_le _ _
theorem lpush_len (xs : List ID) (i : ID) : (lpush xs i).length ≤ xs.length + 1 := by unfold lpush; split <;> simp
theorem ldrop_mem {xs : List ID} {i c : ID} : c ∈ ldrop xs i ↔ c ∈ xs ∧ ¬ c = i := by
  unfold ldrop; rw [List.mem_filter]; simp [isI_eq]
theorem ldrop_no {xs : List ID} {i : ID} (h : i ∉ xs) : ldrop xs i = xs := by
  unfold ldrop; rw [List.filter_eq_self]; intro c hc; have : ¬ c = i := fun e => h (e ▸ hc); simp [isI_eq, this]
theorem ldrop_nodup {xs : List ID} (h : xs.Nodup) (i : ID) : (ldrop xs i).Nodup := List.Nodup.sublist List.filter_sublist h
theorem lpush_nodup {xs : List ID} (h : xs.Nodup) (i : ID) : (lpush xs i).Nodup := by
  unfold lpush; split
  · exact h
  · rename_i hi
    rw [List.nodup_append]
    refine ⟨h, by simp, fun x hx y hy => ?_⟩
    simp at hy; subst hy; exact fun e => hi (e ▸ hx)
theorem ldrop_head {x : ID} {xs : List ID} (h : (x :: xs).Nodup) : ldrop (x :: xs) x = xs := by
  have h1 := List.nodup_cons.1 h
  unfold ldrop
  rw [List.filter_cons, if_neg (by simp [isI_eq])]
  exact ldrop_no h1.1
theorem Who.push {xs : List ID} {ps : List (ID × Bool)} (h : Who xs ps) {i : ID} (hi : i ∉ xs) : Who (xs ++ [i]) (ins ps i true) := by
  refine ⟨by have := lpush_nodup h.1 i; unfold lpush at this; rwa [if_neg hi] at this, fun c => ?_⟩
  rw [look_ins, h.2]
  by_cases hc : i = c
  · subst hc; simp
  · have hc' : ¬ c = i := fun e => hc e.symm
    simp [hc, hc']
theorem Who.drop {xs : List ID} {ps : List (ID × Bool)} (h : Who xs ps) (i : ID) : Who (ldrop xs i) (del ps i) := by
  refine ⟨ldrop_nodup h.1 i, fun c => ?_⟩
  rw [look_del, h.2]
  by_cases hc : i = c
  · subst hc; simp [ldrop_mem]
  · have hc' : ¬ c = i := fun e => hc e.symm
    simp [hc, hc', ldrop_mem]
theorem Who.says {xs : List ID} {ps : List (ID × Bool)} (h : Who xs ps) (i : ID) : zof evB (.bool false) (look ps i) = .bool (decide (i ∈ xs)) := by
  rw [h.2]; by_cases hi : i ∈ xs <;> simp [zof, hi]
theorem indexfunc317 {E : World} {l : List As} {v : Value} {α : Type} {enc : α → List Value} {xs : List α} {g : FuncId} {caps : Array Value} {fn : Func} (hf : Tryz.prog.funcs[g]? = some fn) (hn : (fn.name == "runtime.NumGoroutine") = false) (hb : fn.body.isNone = false) {q : α → Bool} {C : As} (hg : ∀ (l' : List As) (c : α), Has C l' → Con Tryz.prog g (#[.agg (enc c).toArray] ++ caps) E l' (fun _ : Unit => .bool (q c)) (fun _ => l')) (hv : Has (row 36 2 v (xs.map enc)) l) (hc : Has C l) :
    Con Tryz.prog 317 #[v, .func (.func g) #[] caps] E l (fun _ : Unit => .int .i64 (idx q xs)) (fun _ => l) := by
  refine Con.body (vs := [v, .func (.func g) #[] caps]) (n := 19) Tryz.func317 rfl rfl [(0, v), (1, .func (.func g) #[] caps)] (env_ok 2 rfl) <| J_row hv fun hw a cap hv h1 h2 h3 => ?_
  subst hv
  have hm : cap ≤ 9223372036854775807 := h2
  have hml : (xs.map enc).length = xs.length := List.length_map _
  refine sr <| ag rfl rfl <| nxx <| mv rfl rfl <| L_pur rfl (p_len rfl Tryz.underlying224) <| mv rfl rfl <| nq <| J_block ?_
  refine J_loop (α := Nat) (fun i => i ≤ xs.length ∧ ∀ c ∈ xs.take i, q c = false) (fun _ => l) (fun i => [(8, .int .i64 (i : Int)), (7, .int .i64 (xs.map enc).length), (0, .slice a (xs.map enc).length cap), (1, .func (.func g) #[] caps)]) (fun i => xs.length - i) 0 ⟨by omega, by simp⟩ SU KE ?_
  intro i ⟨hi, hq⟩
  refine sr <| L_pur rfl (p_lss rfl rfl) <| nq <| J_seq ?_
  refine C_dec rfl (fun h9 => ?_) (fun h9 => ?_)
  have hlt : i < xs.length := by omega
  obtain ⟨b, o, rfl⟩ := h3 (by intro h; rw [h] at hml; simp at hml; omega)
  obtain ⟨c, hcc⟩ : ∃ c, xs[i]? = some c := ⟨_, List.getElem?_eq_getElem hlt⟩
  refine J_skip <| Q_then <| J_seq <| J_block <| sr <| mv rfl rfl <| ag rfl rfl <| nx ?_
  refine mv rfl rfl <| mv rfl rfl <| mv rfl rfl <| L_pur rfl (p_indexAddr rfl rfl Tryz.underlying224 ty36 (by omega) (by omega)) ?_
  refine L_val rfl (v_loadE rfl ty36 HS (by simp only [Int.toNat_natCast, List.getElem?_map, hcc]; rfl)) ?_
  refine L_op <| x_callc rfl hf hn hb (.cons rfl .nil) rfl (hg _ c hc) fun _ => nq ?_
  refine C_split rfl (fun h16 => ?_) (fun h16 => ?_)
  have hidx := idx_here hq hcc h16
  refine sr <| mv rfl rfl <| ag rfl rfl <| nq <| J_ret <| Q_blk_ret <| Q_then_ret <| Q_then_ret ?_
  refine Q_blk_ret <| Q_then_ret ?_
  refine J_return (()) Tryz.results317 (.tmp rfl .nil) ?_ ?_
  · simp [one, hidx]
  · exact SU
  refine J_skip <| Q_blk_normal <| qr <| L_pur rfl (p_add64 rfl rfl (by omega)) <| mv rfl rfl <| nq ?_
  exact J_again (i + 1) (by omega) (⟨by omega, take_false_succ hq hcc h16⟩) SU KE
  have hix : i = xs.length := by omega
  rw [hix, List.take_length] at hq
  have hidx := idx_none hq
  refine J_exit <| Q_then_exit <| Q_then_exit <| Q_blk_this <| qx <| ag rfl rfl <| nq <| J_ret ?_
  refine J_return (()) Tryz.results317 (.tmp rfl .nil) ?_ ?_
  · simp [one, hidx]
  · exact SU
theorem deletefunc296 {E : World} {l m : List As} {v : Value} {α : Type} {enc : α → List Value} {xs : List α} {g : FuncId} {caps : Array Value} {fn : Func} (hf : Tryz.prog.funcs[g]? = some fn) (hn : (fn.name == "runtime.NumGoroutine") = false) (hb : fn.body.isNone = false) {q : α → Bool} {C : As} (hg : ∀ (l' : List As) (c : α), Has C l' → Con Tryz.prog g (#[.agg (enc c).toArray] ++ caps) E l' (fun _ : Unit => .bool (q c)) (fun _ => l')) (hv : Pick (row 36 2 v (xs.map enc)) l m) (hc : Has C m) (hone : ∀ c, ones (enc c) = true) (hlen : ∀ c, (enc c).length = 2) :
  Con Tryz.prog 296 #[v, .func (.func g) #[] caps] E l (fun v' : Value => v') (fun v' => row 36 2 v' ((xs.filter fun c => !q c).map enc) :: m) := by
 rcases idx_cases q xs with ⟨hi0, hall⟩ | ⟨i0, hi0, hlt0, hpre, c0, hc0, hq0⟩
 ·
  refine Con.body (vs := [v, .func (.func g) #[] caps]) (n := 42) Tryz.func296 rfl rfl [(0, v), (1, .func (.func g) #[] caps)] (env_ok 2 rfl) <| J_pick hv <| sr <| ag rfl rfl <| nx <| mv rfl rfl <| mv rfl rfl <| L_op <| xc fc317 (.cons rfl (.cons rfl .nil)) rfl (indexfunc317 hf hn hb hg .here (.there hc)) fun _ => ?_
  refine ag rfl rfl <| nxx <| mv rfl rfl <| L_pur rfl (p_eql rfl rfl) <| nq <| J_bool (t := 12) (c := true) rfl (by simp [hi0]) <| C_true rfl <| sr ?_
  refine J_rowEq (ys := (xs.filter fun c => !q c).map enc) (by rw [List.filter_eq_self.2 (fun c hc => by simp [hall c hc])]) <| mv rfl rfl <| ag rfl rfl <| nq <| J_ret <| Q_then_ret ?_
  exact J_return (_) Tryz.results296 (.tmp rfl .nil) rfl SU
 ·
  refine Con.body (vs := [v, .func (.func g) #[] caps]) (n := 42) Tryz.func296 rfl rfl [(0, v), (1, .func (.func g) #[] caps)] (env_ok 2 rfl) <| J_pick hv <| J_row .here fun hw a cap hv h1 h2 h3 => ?_
  obtain ⟨b, o, rfl⟩ := h3 (by intro h; have := congrArg List.length h; simp at this; subst this; simp at hlt0)
  subst hv
  have hm : cap ≤ 9223372036854775807 := h2
  have hml : (xs.map enc).length = xs.length := List.length_map _
  have hk0 : kept q xs (i0 + 1) = xs.take i0 := kept_first hpre hc0 hq0
  have hl0 : (xs.take i0).length = i0 := by simp; omega
  refine sr <| ag rfl rfl <| nx <| mv rfl rfl <| mv rfl rfl <| L_op <| xc fc317 (.cons rfl (.cons rfl .nil)) rfl (indexfunc317 hf hn hb hg .here (.there hc)) fun _ => J_slot (t := 10) (v := .int .i64 (i0 : Int)) rfl (by rw [hi0]) ?_
  refine ag rfl rfl <| nxx <| mv rfl rfl <| L_pur rfl (p_eql rfl rfl) <| nq <| J_bool (t := 12) (c := false) rfl (by simp) <| C_false rfl <| J_skip ?_
  refine Q_then <| J_seq <| sr <| mv rfl rfl <| L_pur rfl (p_add64 rfl rfl (by omega)) <| ag rfl rfl <| nq <| J_block ?_
  refine J_rowEq (ys := (kept q xs (i0 + 1) ++ xs.drop (kept q xs (i0 + 1)).length).map enc) (by rw [hk0, hl0, List.take_append_drop]) <| J_slot (t := 5) (v := .int .i64 ((kept q xs (i0 + 1)).length : Int)) rfl (by rw [hk0, hl0]) <| J_loop (α := Nat) (fun j => j ≤ xs.length) (fun j => row 36 2 (.slice (some ⟨b, o, none⟩) (xs.map enc).length cap) ((kept q xs j ++ xs.drop (kept q xs j).length).map enc) :: m) (fun j => [(6, .int .i64 (j : Int)), (5, .int .i64 ((kept q xs j).length : Int)), (0, .slice (some ⟨b, o, none⟩) (xs.map enc).length cap), (1, .func (.func g) #[] caps)]) (fun j => xs.length - j) (i0 + 1) (by omega) SU KE ?_
  intro j hj
  have hkl := kept_le q xs j
  refine J_seq <| sr <| mv rfl rfl <| mv rfl rfl <| L_pur rfl (p_len rfl Tryz.underlying224) <| L_pur rfl (p_lss rfl rfl) <| nq ?_
  refine C_dec rfl (fun h19 => ?_) (fun h19 => ?_)
  have hlt : j < xs.length := by omega
  obtain ⟨c, hcc⟩ : ∃ c, xs[j]? = some c := ⟨_, List.getElem?_eq_getElem hlt⟩
  refine J_skip <| Q_then <| J_seq <| J_block <| sr <| mv rfl rfl <| mv rfl rfl <| L_pur rfl (p_indexAddr rfl rfl Tryz.underlying224 ty36 (by omega) (by omega)) ?_
  refine L_val rfl (v_loadE rfl ty36 HS (by simp only [Int.toNat_natCast, List.getElem?_map, kept_get, hcc]; rfl)) ?_
  refine L_op <| x_alloc ty36 rfl fun b7 => L_op <| x_store rfl rfl ty36 rfl SM SM RO PT ?_
  refine nx <| mv rfl rfl <| L_val rfl (v_loadA rfl ty36 HS CT) ?_
  refine L_op <| x_callc rfl hf hn hb (.cons rfl .nil) rfl (hg _ c (.there (.there hc))) fun _ => L_pur rfl (p_not rfl) <| nq ?_
  refine C_split rfl (fun h29 => ?_) (fun h29 => ?_)
  have hqc : q c = false := by simpa using h29
  have hks := kept_set hcc hqc
  have hkl1 : (kept q xs (j + 1)).length = (kept q xs j).length + 1 := by rw [kept_succ hcc, hqc]; simp
  refine sr <| mv rfl rfl <| mv rfl rfl <| L_val rfl (v_loadA rfl ty36 HS CT) ?_
  refine L_pur rfl (p_indexAddr rfl rfl Tryz.underlying224 ty36 (by omega) (by omega)) <| L_op <| x_storeE (vs := enc c) rfl rfl ty36 rfl (hlen c) (hone c) PC (OM) ?_
  refine J_rowEq (ys := (kept q xs (j + 1) ++ xs.drop (kept q xs (j + 1)).length).map enc) (by rw [← hks, List.map_set]; simp) <| ny <| mv rfl rfl <| L_pur rfl (p_add64 rfl rfl (by omega)) <| ag rfl rfl <| L_nil <| Q_blk_normal <| qr ?_
  refine mv rfl rfl <| L_pur rfl (p_add64 rfl rfl (by omega)) <| ag rfl rfl <| nq <| J_slot (t := 5) (v := .int .i64 ((kept q xs (j + 1)).length : Int)) rfl (by rw [hkl1]; rfl) ?_
  exact J_again (j + 1) (by omega) (by omega) SU KE
  have hqc : q c = true := by simpa using h29
  have hks : kept q xs (j + 1) = kept q xs j := by rw [kept_succ hcc, hqc]; simp
  refine J_skip <| Q_blk_normal <| qr <| mv rfl rfl <| L_pur rfl (p_add64 rfl rfl (by omega)) <| ag rfl rfl <| nq <| J_slot (t := 5) (v := .int .i64 ((kept q xs (j + 1)).length : Int)) rfl (by rw [hks]) ?_
  refine J_pick (A := row 36 2 (.slice (some ⟨b, o, none⟩) (xs.map enc).length cap) ((kept q xs j ++ xs.drop (kept q xs j).length).map enc)) PC ?_
  refine J_rowEq (ys := (kept q xs (j + 1) ++ xs.drop (kept q xs (j + 1)).length).map enc) (by rw [hks]) ?_
  exact J_again (j + 1) (by omega) (by omega) SU KE
  have hjx : j = xs.length := by omega
  have hka : kept q xs j = xs.filter fun c => !q c := kept_all (by omega)
  refine J_exit <| Q_then_exit <| Q_then_exit <| Q_blk_this <| qx <| mv rfl rfl <| mv rfl rfl <| L_pur rfl (p_slice rfl Tryz.underlying224 ty36 rfl rfl (by omega) (by omega) (by omega)) ?_
  refine L_op <| x_clear (len := (xs.map enc).length) rfl Tryz.underlying224 ty36 rfl rfl PC (OM) ?_
  refine nx <| mv rfl rfl <| mv rfl rfl <| L_pur rfl (p_slice rfl Tryz.underlying224 ty36 rfl rfl (by omega) (by omega) (by omega)) <| J_take (k := (kept q xs j).length) (OM) <| J_rowTo (v' := .slice (some ⟨b, o, none⟩) (kept q xs j).length cap) (ys := (xs.filter fun c => !q c).map enc) (by simp [hka]) rfl <| J_slot (t := 41) (v := .slice (some ⟨b, o, none⟩) (kept q xs j).length cap) rfl (by simp [Addr.add]) <| ag rfl rfl ?_
  refine nq <| J_ret ?_
  exact J_return (_) Tryz.results296 (.tmp rfl .nil) rfl SU
theorem clo297 {E : World} {l : List As} {bc : Nat} {i : ID} {c : ID} (hc : Has (blk bc 36 (encI i)) l) :
    Con Tryz.prog 297 #[.agg (encI c).toArray, .pointer (some ⟨bc, 0, none⟩)] E l (fun _ : Unit => .bool (isI i c)) (fun _ => l) := by
  refine Con.body (vs := [.agg (encI c).toArray, .pointer (some ⟨bc, 0, none⟩)]) (n := 7) Tryz.func297 rfl rfl [(0, .agg (encI c).toArray), (1, .pointer (some ⟨bc, 0, none⟩))] (env_ok 2 rfl) <| sr <| L_op <| x_box rfl rfl rfl fun b2 => ag rfl rfl <| nx <| L_val rfl (v_loadA rfl ty36 HS CT) ?_
  refine L_val rfl (v_loadA rfl ty36 HS CT) ?_
  refine L_pur rfl (p_eqv rfl rfl (fun w => eg36 _ _ _ _ _ w) (fun w => eqv36 _ _ _ _ w)) <| ag rfl rfl <| nq <| J_ret ?_
  exact J_return (()) Tryz.results297 (.tmp rfl .nil) rfl SU
theorem lDrop {E : World} {l m : List As} {b o : Nat} {xs : List ID} (hp : Pick (lsA b o xs) l m) (hb : xs.length ≤ 100000) {i : ID} :
    Con Tryz.prog 240 #[.pointer (some ⟨b, o, none⟩), .agg (encI i).toArray] E l (fun _ : Unit => .bool (decide (i ∈ xs))) (fun _ => lsA b o (ldrop xs i) :: m) := by
  refine Con.body (vs := [.pointer (some ⟨b, o, none⟩), .agg (encI i).toArray]) (n := 26) Tryz.func240 rfl rfl [(0, .pointer (some ⟨b, o, none⟩)), (1, .agg (encI i).toArray)] (env_ok 2 rfl) <| J_pick hp <| J_lsO fun v ob ps hw => sr <| L_op <| x_box rfl rfl rfl fun b3 => ag rfl rfl <| nq ?_
  refine J_seq <| J_seq <| J_drawS mixed (by kernel_rfl) <| sm rfl rfl <| sp rfl (p_nilCheck rfl) <| sp rfl (p_fieldAddr rfl fa227_1) <| S_val rfl (v_loadL rfl ty225 HS rfl (by exact rfl)) ?_
  refine S_val rfl (v_loadA rfl ty36 HS CT) ?_
  refine S_val rfl (v_look (ek := kI) (ev := evB) (a := i) rfl rfl ky36 Tryz.underlying225 zv4 HS) ?_
  refine J_slot (t := 10) (v := .bool (decide (i ∈ xs))) rfl (hw.says i) <| sp rfl (p_not rfl) <| sq ?_
  refine C_split rfl (fun h11 => ?_) (fun h11 => ?_)
  have hi : i ∉ xs := by simpa using h11
  refine sr <| ag rfl rfl <| nq <| J_ret <| Q_then_ret <| J_lsS (b := b) (o := o) (xs := xs) _ _ _ PX (hw) ?_
  refine J_asTo (B := lsA b o (ldrop xs i)) (by rw [ldrop_no hi]) ?_
  refine J_return (()) Tryz.results240 (.tmp rfl .nil) ?_ ?_
  · simp [one, hi]
  · exact SU
  have hi : i ∈ xs := by simpa using h11
  refine J_skip <| Q_then <| J_seq <| J_drawT 5 mixed (by kernel_rfl) <| sm rfl rfl <| sp rfl (p_nilCheck rfl) <| sp rfl (p_fieldAddr rfl fa227_1) <| S_val rfl (v_loadL rfl ty225 HS rfl (by exact rfl)) ?_
  refine S_val rfl (v_loadA rfl ty36 HS CT) ?_
  refine S_nil <| L_op <| x_delete (ek := kI) (ev := evB) (a := i) rfl rfl ky36 Tryz.underlying225 PC ?_
  refine nx <| mv rfl rfl <| mv rfl rfl <| nc rfl rfl <| fa rfl rfl fa227_0 <| L_val rfl (v_loadL rfl ty224 HS rfl (by exact rfl)) ?_
  refine L_pur rfl (p_makeFunc (.cons rfl .nil)) <| L_op <| xc fc296 (.cons rfl (.cons rfl .nil)) rfl (deletefunc296 (xs := xs) (enc := encI) (q := isI i) (C := blk b3 36 (encI i)) Tryz.func297 nm297 bd297 (fun l' c hc => clo297 hc) PC HS encI_one encI_len) <| JR fun a23 c23 hw23 hl23 hm23 hz23 => nc rfl rfl <| fa rfl rfl fa227_0 <| L_op <| x_storeL rfl rfl ty224 rfl SM SM rfl RO rfl PT ?_
  refine nx <| ag rfl rfl <| nq <| J_ret <| J_lsS (b := b) (o := o) (xs := xs.filter fun c => !isI i c) _ _ _ PX (hw.drop i) ?_
  refine J_return (()) Tryz.results240 (.tmp rfl .nil) ?_ ?_
  · simp [one, hi]
  · exact SU
theorem lPop {E : World} {l m : List As}{b o : Nat} {xs : List ID} (hp : Pick (lsA b o xs) l m) (hb : xs.length ≤ 100000) :
  Con Tryz.prog 241 #[.pointer (some ⟨b, o, none⟩)] E l (fun _ : Unit => .tuple #[.agg (encI (xs.headD (0, 0))).toArray, .bool (!xs.isEmpty)]) (fun _ => lsA b o xs.tail :: m) := by
 rcases xs with _ | ⟨x, r⟩
 ·
  refine Con.body (vs := [.pointer (some ⟨b, o, none⟩)]) (n := 22) Tryz.func241 rfl rfl [(0, .pointer (some ⟨b, o, none⟩))] (env_ok 1 rfl) <| J_pick hp <| J_lsO fun v ob ps hw => J_row (.there .here) fun hwf a cap hv h1 h2 h3 => ?_
  subst hv
  refine sr <| L_op <| x_alloc ty36 rfl fun b2 => ag rfl rfl <| nxx <| mv rfl rfl <| nc rfl rfl <| fa rfl rfl fa227_0 ?_
  refine L_val rfl (v_loadL rfl ty224 HS rfl (by exact rfl)) ?_
  refine L_pur rfl (p_len rfl Tryz.underlying224) <| L_pur rfl (p_eql rfl rfl) <| nq <| J_bool (t := 10) (c := true) rfl (by simp) <| C_true rfl <| sr <| L_pur rfl (bld36 .nil (by repeat constructor)) <| L_op <| x_store rfl rfl ty36 rfl SM SM RO PT ?_
  refine ag rfl rfl <| nq <| J_ret <| Q_then_ret <| J_lsS (b := b) (o := o) (xs := []) _ _ _ PX (hw) ?_
  exact J_return (()) Tryz.results241 (.cellA rfl ty36 HS CT (.tmp rfl .nil)) rfl SU
 ·
  refine Con.body (vs := [.pointer (some ⟨b, o, none⟩)]) (n := 22) Tryz.func241 rfl rfl [(0, .pointer (some ⟨b, o, none⟩))] (env_ok 1 rfl) <| J_pick hp <| J_lsO fun v ob ps hw => ?_
  have hnd := hw.1
  refine J_row (.there .here) fun hwf a cap hv h1 h2 h3 => ?_
  obtain ⟨bi, oi, rfl⟩ := h3 (by simp)
  subst hv
  refine sr <| L_op <| x_alloc ty36 rfl fun b2 => ag rfl rfl <| nxx <| mv rfl rfl <| nc rfl rfl <| fa rfl rfl fa227_0 ?_
  refine L_val rfl (v_loadL rfl ty224 HS rfl (by exact rfl)) ?_
  refine L_pur rfl (p_len rfl Tryz.underlying224) <| L_pur rfl (p_eql rfl rfl) <| nq <| J_bool (t := 10) (c := false) rfl (by simp; omega) <| C_false rfl <| J_skip <| qx <| mv rfl rfl ?_
  refine nc rfl rfl <| fa rfl rfl fa227_0 <| L_val rfl (v_loadL rfl ty224 HS rfl (by exact rfl)) ?_
  refine L_pur rfl (p_indexAddr rfl rfl Tryz.underlying224 ty36 (by omega) (by simp)) <| L_val rfl (v_loadE rfl ty36 HS (by rfl)) ?_
  refine L_op <| x_alloc ty36 rfl fun b4 => L_op <| x_store rfl rfl ty36 rfl SM SM RO PT ?_
  refine nx <| J_lsS (b := b) (o := o) (xs := x :: r) _ _ _ PX (hw) ?_
  refine mv rfl rfl <| L_val rfl (v_loadA rfl ty36 HS CT) ?_
  refine L_op <| xc fc240 (.cons rfl (.cons rfl .nil)) rfl (lDrop (i := x) PC (by omega)) fun _ => ?_
  refine J_asTo (B := lsA b o r) (by rw [ldrop_head hnd]) <| nx <| L_val rfl (v_loadA rfl ty36 HS CT) ?_
  refine L_op <| x_store rfl rfl ty36 rfl SM SM RO PT ?_
  refine ag rfl rfl <| nq <| J_ret ?_
  exact J_return (()) Tryz.results241 (.cellA rfl ty36 HS CT (.tmp rfl .nil)) rfl SU
abbrev orb (w x : Int) : Int := bits .or .u32 w x
def woke (w : Int) (xs : List ID) (x : Int) : Bool := !decide (orb w x = 0) && !xs.isEmpty
def sigI (w : Int) (xs : List ID) (x : Int) : ID := if woke w xs x then xs.headD (0, 0) else (0, 0)
def sigV (w : Int) (xs : List ID) (x : Int) : Int := if woke w xs x then orb w x else 0
def sigW (w : Int) (xs : List ID) (x : Int) : Int := if woke w xs x then 0 else orb w x
def sigL (w : Int) (xs : List ID) (x : Int) : List ID := if woke w xs x then xs.tail else xs
def waitL (w : Int) (xs : List ID) (i : ID) : List ID := if w = 0 then lpush xs i else xs
theorem sigL_len (w : Int) (xs : List ID) (x : Int) : (sigL w xs x).length ≤ xs.length := by unfold sigL; split <;> simp
theorem waitL_len (w : Int) (xs : List ID) (i : ID) : (waitL w xs i).length ≤ xs.length + 1 := by
  unfold waitL; split
  · exact lpush_len xs i
  · omega
theorem ntDropC {E : World} {l m : List As} {b o : Nat} {w : Int} {xs : List ID} (hp : Pick (ntA b o w xs) l m) (hb : xs.length ≤ 100000) {i : ID} :
    Con Tryz.prog 171 #[.pointer (some ⟨b, o, none⟩), .agg (encI i).toArray] E l (fun _ : Unit => .bool (decide (i ∈ xs))) (fun _ => ntA b o w (ldrop xs i) :: m) := by
  refine Con.body (vs := [.pointer (some ⟨b, o, none⟩), .agg (encI i).toArray]) (n := 10) Tryz.func171 rfl rfl [(0, .pointer (some ⟨b, o, none⟩)), (1, .agg (encI i).toArray)] (env_ok 2 rfl) <| J_pick hp <| J_ntO fun _ _ => sr <| L_op <| x_box rfl rfl rfl fun b3 => ag rfl rfl <| nq ?_
  refine J_seq <| J_drawT 4 mixed (by kernel_rfl) <| sm rfl rfl <| sp rfl (p_nilCheck rfl) <| sp rfl (p_fieldAddr rfl fa229_1) <| S_val rfl (v_loadA rfl ty36 HS CT) ?_
  refine S_nil <| L_op <| xc fc240 (.cons rfl (.cons rfl .nil)) rfl (lDrop (xs := xs) (i := i) PC (by omega)) fun _ => ?_
  refine ag rfl rfl <| nq <| J_ret <| J_ntS (b := b) (o := o) (w := w) (xs := ldrop xs i) PX trivial ?_
  exact J_return (()) Tryz.results171 (.tmp rfl .nil) rfl SU
theorem ntSignal {E : World} {l m : List As} {b o : Nat} {w : Int} {xs : List ID} (hp : Pick (ntA b o w xs) l m) (hb : xs.length ≤ 100000) {x : Int} :
    Con Tryz.prog 178 #[.pointer (some ⟨b, o, none⟩), .int .u32 x] E l (fun _ : Unit => .tuple #[.agg (encI (sigI w xs x)).toArray, .int .u32 (sigV w xs x), .bool (woke w xs x)]) (fun _ => ntA b o (sigW w xs x) (sigL w xs x) :: m) := by
  refine Con.body (vs := [.pointer (some ⟨b, o, none⟩), .int .u32 x]) (n := 43) Tryz.func178 rfl rfl [(0, .pointer (some ⟨b, o, none⟩)), (1, .int .u32 x)] (env_ok 2 rfl) <| J_pick hp <| J_ntO fun _ _ => sr <| L_op <| x_alloc ty36 rfl fun b4 => ag rfl rfl <| ag rfl rfl ?_
  refine nx <| mv rfl rfl <| nc rfl rfl <| fa rfl rfl fa229_0 <| L_val rfl (v_loadL rfl ty22 HS rfl (by exact rfl)) ?_
  refine mv rfl rfl <| L_pur rfl (p_or rfl rfl) <| nc rfl rfl <| fa rfl rfl fa229_0 <| L_op <| x_storeL rfl rfl ty22 rfl SM SM rfl RO rfl PT ?_
  refine nxx <| mv rfl rfl <| nc rfl rfl <| fa rfl rfl fa229_0 <| L_val rfl (v_loadL rfl ty22 HS rfl (by exact rfl)) ?_
  refine L_pur rfl (p_eql rfl rfl) <| nq ?_
  refine C_dec rfl (fun h22 => ?_) (fun h22 => ?_)
  have h22' : orb w x = 0 := h22
  have hwk : woke w xs x = false := by simp [woke, h22']
  have e1 : sigI w xs x = (0, 0) := by simp [sigI, hwk]
  have e2 : sigV w xs x = 0 := by simp [sigV, hwk]
  have e3 : sigW w xs x = orb w x := by simp [sigW, hwk]
  have e4 : sigL w xs x = xs := by simp [sigL, hwk]
  refine sr <| L_pur rfl (bld36 .nil (by repeat constructor)) <| L_op <| x_store rfl rfl ty36 rfl SM SM RO PT ?_
  refine ag rfl rfl <| ag rfl rfl <| nq <| J_ret <| Q_then_ret <| J_ntS (b := b) (o := o) (w := orb w x) (xs := xs) PX trivial ?_
  refine J_asTo (B := ntA b o (sigW w xs x) (sigL w xs x)) (by first | (rw [e3, e4]; done) | (rw [e3, e4]; rfl)) ?_
  refine J_return (()) Tryz.results178 (.cellA rfl ty36 HS CT (.tmp rfl (.tmp rfl .nil))) ?_ ?_
  · rw [e1, e2, hwk]; rfl
  · exact SU
  have h22' : ¬ orb w x = 0 := h22
  refine J_skip <| qx <| mv rfl rfl <| nc rfl rfl <| fa rfl rfl fa229_1 <| L_op <| xc fc241 (.cons rfl .nil) rfl (lPop (xs := xs) PC (by omega)) fun _ => ?_
  refine mv rfl rfl <| L_pur rfl (p_extract rfl rfl) <| L_pur rfl (p_extract rfl rfl) <| L_op <| x_alloc ty36 rfl fun b7 => L_op <| x_store rfl rfl ty36 rfl SM SM RO PT ?_
  refine ag rfl rfl <| nxx <| mv rfl rfl <| L_pur rfl (p_not rfl) <| nq ?_
  refine C_split rfl (fun h32 => ?_) (fun h32 => ?_)
  have hnil : xs = [] := by simpa using h32
  subst hnil
  have hwk : woke w [] x = false := by simp [woke, h22']
  have e1 : sigI w [] x = (0, 0) := by simp [sigI, hwk]
  have e2 : sigV w [] x = 0 := by simp [sigV, hwk]
  have e3 : sigW w [] x = orb w x := by simp [sigW, hwk]
  have e4 : sigL w [] x = [] := by simp [sigL, hwk]
  refine sr <| L_pur rfl (bld36 .nil (by repeat constructor)) <| L_op <| x_store rfl rfl ty36 rfl SM SM RO PT ?_
  refine ag rfl rfl <| ag rfl rfl <| nq <| J_ret <| Q_then_ret <| J_ntS (b := b) (o := o) (w := orb w x) (xs := List.tail []) PX trivial ?_
  refine J_asTo (B := ntA b o (sigW w [] x) (sigL w [] x)) (by first | (rw [e3, e4]; done) | (rw [e3, e4]; rfl)) ?_
  refine J_return (()) Tryz.results178 (.cellA rfl ty36 HS CT (.tmp rfl (.tmp rfl .nil))) ?_ ?_
  · rw [e1, e2, hwk]; rfl
  · exact SU
  have hne : xs.isEmpty = false := by simpa using h32
  have hwk : woke w xs x = true := by simp [woke, h22', hne]
  have e1 : sigI w xs x = xs.headD (0, 0) := by simp [sigI, hwk]
  have e2 : sigV w xs x = orb w x := by simp [sigV, hwk]
  have e3 : sigW w xs x = 0 := by simp [sigW, hwk]
  have e4 : sigL w xs x = xs.tail := by simp [sigL, hwk]
  refine J_skip <| qx <| mv rfl rfl <| nc rfl rfl <| fa rfl rfl fa229_0 <| L_val rfl (v_loadL rfl ty22 HS rfl (by exact rfl)) ?_
  refine ag rfl rfl <| nx <| mv rfl rfl <| nc rfl rfl <| fa rfl rfl fa229_0 <| L_op <| x_storeL rfl rfl ty22 rfl SM SM rfl RO rfl PT ?_
  refine nx <| L_val rfl (v_loadA rfl ty36 HS CT) ?_
  refine mv rfl rfl <| L_op <| x_store rfl rfl ty36 rfl SM SM RO PT ?_
  refine ag rfl rfl <| ag rfl rfl <| nq <| J_ret <| J_ntS (b := b) (o := o) (w := 0) (xs := xs.tail) PX trivial ?_
  refine J_asTo (B := ntA b o (sigW w xs x) (sigL w xs x)) (by first | (rw [e3, e4]; done) | (rw [e3, e4]; rfl)) ?_
  refine J_return (()) Tryz.results178 (.cellA rfl ty36 HS CT (.tmp rfl (.tmp rfl .nil))) ?_ ?_
  · rw [e1, e2, hwk]; rfl
  · exact SU
def isM (i : ID) (m : Msg) : Bool := decide (m.1.1 = i.1 ∧ m.1.2 = i.2)
def isR (i : ID) (r : Rcv) : Bool := decide (r.1.1 = i.1 ∧ r.1.2 = i.2)
theorem isR_eq (i : ID) (c : Rcv) : isR i c = decide (c.1 = i) := by unfold isR; rw [decide_eq_decide]; exact Prod.ext_iff.symm
abbrev mdrop (xs : List Msg) (i : ID) : List Msg := xs.filter fun c => !isM i c
abbrev rdrop (xs : List Rcv) (i : ID) : List Rcv := xs.filter fun c => !isR i c
theorem encM_one (c : Msg) : ones (encM c) = true := rfl
theorem encM_len (c : Msg) : (encM c).length = 5 := rfl
theorem encR_one (c : Rcv) : ones (encR c) = true := rfl
theorem encR_len (c : Rcv) : (encR c).length = 3 := rfl
theorem encT_one (c : Tm) : ones (encT c) = true := rfl
theorem encT_len (c : Tm) : (encT c).length = 3 := rfl
def isTm (i : ID) (c : Tm) : Bool := decide (c.2.1 = i.1 ∧ c.2.2 = i.2)
theorem isTm_eq (i : ID) (c : Tm) : isTm i c = decide (c.2 = i) := by unfold isTm; rw [decide_eq_decide]; exact Prod.ext_iff.symm
abbrev tdrop (xs : List Tm) (i : ID) : List Tm := xs.filter fun c => !isTm i c
theorem indexfunc294 {E : World} {l : List As} {v : Value} {α : Type} {enc : α → List Value} {xs : List α} {g : FuncId} {caps : Array Value} {fn : Func} (hf : Tryz.prog.funcs[g]? = some fn) (hn : (fn.name == "runtime.NumGoroutine") = false) (hb : fn.body.isNone = false) {q : α → Bool} {C : As} (hg : ∀ (l' : List As) (c : α), Has C l' → Con Tryz.prog g (#[.agg (enc c).toArray] ++ caps) E l' (fun _ : Unit => .bool (q c)) (fun _ => l')) (hv : Has (row 374 5 v (xs.map enc)) l) (hc : Has C l) :
    Con Tryz.prog 294 #[v, .func (.func g) #[] caps] E l (fun _ : Unit => .int .i64 (idx q xs)) (fun _ => l) := by
  refine Con.body (vs := [v, .func (.func g) #[] caps]) (n := 19) Tryz.func294 rfl rfl [(0, v), (1, .func (.func g) #[] caps)] (env_ok 2 rfl) <| J_row hv fun hw a cap hv h1 h2 h3 => ?_
  subst hv
  have hm : cap ≤ 9223372036854775807 := h2
  have hml : (xs.map enc).length = xs.length := List.length_map _
  refine sr <| ag rfl rfl <| nxx <| mv rfl rfl <| L_pur rfl (p_len rfl Tryz.underlying220) <| mv rfl rfl <| nq <| J_block ?_
  refine J_loop (α := Nat) (fun i => i ≤ xs.length ∧ ∀ c ∈ xs.take i, q c = false) (fun _ => l) (fun i => [(8, .int .i64 (i : Int)), (7, .int .i64 (xs.map enc).length), (0, .slice a (xs.map enc).length cap), (1, .func (.func g) #[] caps)]) (fun i => xs.length - i) 0 ⟨by omega, by simp⟩ SU KE ?_
  intro i ⟨hi, hq⟩
  refine sr <| L_pur rfl (p_lss rfl rfl) <| nq <| J_seq ?_
  refine C_dec rfl (fun h9 => ?_) (fun h9 => ?_)
  have hlt : i < xs.length := by omega
  obtain ⟨b, o, rfl⟩ := h3 (by intro h; rw [h] at hml; simp at hml; omega)
  obtain ⟨c, hcc⟩ : ∃ c, xs[i]? = some c := ⟨_, List.getElem?_eq_getElem hlt⟩
  refine J_skip <| Q_then <| J_seq <| J_block <| sr <| mv rfl rfl <| ag rfl rfl <| nx ?_
  refine mv rfl rfl <| mv rfl rfl <| mv rfl rfl <| L_pur rfl (p_indexAddr rfl rfl Tryz.underlying220 ty374 (by omega) (by omega)) ?_
  refine L_val rfl (v_loadE rfl ty374 HS (by simp only [Int.toNat_natCast, List.getElem?_map, hcc]; rfl)) ?_
  refine L_op <| x_callc rfl hf hn hb (.cons rfl .nil) rfl (hg _ c hc) fun _ => nq ?_
  refine C_split rfl (fun h16 => ?_) (fun h16 => ?_)
  have hidx := idx_here hq hcc h16
  refine sr <| mv rfl rfl <| ag rfl rfl <| nq <| J_ret <| Q_blk_ret <| Q_then_ret <| Q_then_ret ?_
  refine Q_blk_ret <| Q_then_ret ?_
  refine J_return (()) Tryz.results294 (.tmp rfl .nil) ?_ ?_
  · simp [one, hidx]
  · exact SU
  refine J_skip <| Q_blk_normal <| qr <| L_pur rfl (p_add64 rfl rfl (by omega)) <| mv rfl rfl <| nq ?_
  exact J_again (i + 1) (by omega) (⟨by omega, take_false_succ hq hcc h16⟩) SU KE
  have hix : i = xs.length := by omega
  rw [hix, List.take_length] at hq
  have hidx := idx_none hq
  refine J_exit <| Q_then_exit <| Q_then_exit <| Q_blk_this <| qx <| ag rfl rfl <| nq <| J_ret ?_
  refine J_return (()) Tryz.results294 (.tmp rfl .nil) ?_ ?_
  · simp [one, hidx]
  · exact SU
theorem indexfunc295 {E : World} {l : List As} {v : Value} {α : Type} {enc : α → List Value} {xs : List α} {g : FuncId} {caps : Array Value} {fn : Func} (hf : Tryz.prog.funcs[g]? = some fn) (hn : (fn.name == "runtime.NumGoroutine") = false) (hb : fn.body.isNone = false) {q : α → Bool} {C : As} (hg : ∀ (l' : List As) (c : α), Has C l' → Con Tryz.prog g (#[.agg (enc c).toArray] ++ caps) E l' (fun _ : Unit => .bool (q c)) (fun _ => l')) (hv : Has (row 246 3 v (xs.map enc)) l) (hc : Has C l) :
    Con Tryz.prog 295 #[v, .func (.func g) #[] caps] E l (fun _ : Unit => .int .i64 (idx q xs)) (fun _ => l) := by
  refine Con.body (vs := [v, .func (.func g) #[] caps]) (n := 19) Tryz.func295 rfl rfl [(0, v), (1, .func (.func g) #[] caps)] (env_ok 2 rfl) <| J_row hv fun hw a cap hv h1 h2 h3 => ?_
  subst hv
  have hm : cap ≤ 9223372036854775807 := h2
  have hml : (xs.map enc).length = xs.length := List.length_map _
  refine sr <| ag rfl rfl <| nxx <| mv rfl rfl <| L_pur rfl (p_len rfl Tryz.underlying114) <| mv rfl rfl <| nq <| J_block ?_
  refine J_loop (α := Nat) (fun i => i ≤ xs.length ∧ ∀ c ∈ xs.take i, q c = false) (fun _ => l) (fun i => [(8, .int .i64 (i : Int)), (7, .int .i64 (xs.map enc).length), (0, .slice a (xs.map enc).length cap), (1, .func (.func g) #[] caps)]) (fun i => xs.length - i) 0 ⟨by omega, by simp⟩ SU KE ?_
  intro i ⟨hi, hq⟩
  refine sr <| L_pur rfl (p_lss rfl rfl) <| nq <| J_seq ?_
  refine C_dec rfl (fun h9 => ?_) (fun h9 => ?_)
  have hlt : i < xs.length := by omega
  obtain ⟨b, o, rfl⟩ := h3 (by intro h; rw [h] at hml; simp at hml; omega)
  obtain ⟨c, hcc⟩ : ∃ c, xs[i]? = some c := ⟨_, List.getElem?_eq_getElem hlt⟩
  refine J_skip <| Q_then <| J_seq <| J_block <| sr <| mv rfl rfl <| ag rfl rfl <| nx ?_
  refine mv rfl rfl <| mv rfl rfl <| mv rfl rfl <| L_pur rfl (p_indexAddr rfl rfl Tryz.underlying114 ty246 (by omega) (by omega)) ?_
  refine L_val rfl (v_loadE rfl ty246 HS (by simp only [Int.toNat_natCast, List.getElem?_map, hcc]; rfl)) ?_
  refine L_op <| x_callc rfl hf hn hb (.cons rfl .nil) rfl (hg _ c hc) fun _ => nq ?_
  refine C_split rfl (fun h16 => ?_) (fun h16 => ?_)
  have hidx := idx_here hq hcc h16
  refine sr <| mv rfl rfl <| ag rfl rfl <| nq <| J_ret <| Q_blk_ret <| Q_then_ret <| Q_then_ret ?_
  refine Q_blk_ret <| Q_then_ret ?_
  refine J_return (()) Tryz.results295 (.tmp rfl .nil) ?_ ?_
  · simp [one, hidx]
  · exact SU
  refine J_skip <| Q_blk_normal <| qr <| L_pur rfl (p_add64 rfl rfl (by omega)) <| mv rfl rfl <| nq ?_
  exact J_again (i + 1) (by omega) (⟨by omega, take_false_succ hq hcc h16⟩) SU KE
  have hix : i = xs.length := by omega
  rw [hix, List.take_length] at hq
  have hidx := idx_none hq
  refine J_exit <| Q_then_exit <| Q_then_exit <| Q_blk_this <| qx <| ag rfl rfl <| nq <| J_ret ?_
  refine J_return (()) Tryz.results295 (.tmp rfl .nil) ?_ ?_
  · simp [one, hidx]
  · exact SU
theorem deletefunc236 {E : World} {l m : List As} {v : Value} {α : Type} {enc : α → List Value} {xs : List α} {g : FuncId} {caps : Array Value} {fn : Func} (hf : Tryz.prog.funcs[g]? = some fn) (hn : (fn.name == "runtime.NumGoroutine") = false) (hb : fn.body.isNone = false) {q : α → Bool} {C : As} (hg : ∀ (l' : List As) (c : α), Has C l' → Con Tryz.prog g (#[.agg (enc c).toArray] ++ caps) E l' (fun _ : Unit => .bool (q c)) (fun _ => l')) (hv : Pick (row 374 5 v (xs.map enc)) l m) (hc : Has C m) (hone : ∀ c, ones (enc c) = true) (hlen : ∀ c, (enc c).length = 5) :
  Con Tryz.prog 236 #[v, .func (.func g) #[] caps] E l (fun v' : Value => v') (fun v' => row 374 5 v' ((xs.filter fun c => !q c).map enc) :: m) := by
 rcases idx_cases q xs with ⟨hi0, hall⟩ | ⟨i0, hi0, hlt0, hpre, c0, hc0, hq0⟩
 ·
  refine Con.body (vs := [v, .func (.func g) #[] caps]) (n := 42) Tryz.func236 rfl rfl [(0, v), (1, .func (.func g) #[] caps)] (env_ok 2 rfl) <| J_pick hv <| sr <| ag rfl rfl <| nx <| mv rfl rfl <| mv rfl rfl <| L_op <| xc fc294 (.cons rfl (.cons rfl .nil)) rfl (indexfunc294 hf hn hb hg .here (.there hc)) fun _ => ?_
  refine ag rfl rfl <| nxx <| mv rfl rfl <| L_pur rfl (p_eql rfl rfl) <| nq <| J_bool (t := 12) (c := true) rfl (by simp [hi0]) <| C_true rfl <| sr ?_
  refine J_rowEq (ys := (xs.filter fun c => !q c).map enc) (by rw [List.filter_eq_self.2 (fun c hc => by simp [hall c hc])]) <| mv rfl rfl <| ag rfl rfl <| nq <| J_ret <| Q_then_ret ?_
  exact J_return (_) Tryz.results236 (.tmp rfl .nil) rfl SU
 ·
  refine Con.body (vs := [v, .func (.func g) #[] caps]) (n := 42) Tryz.func236 rfl rfl [(0, v), (1, .func (.func g) #[] caps)] (env_ok 2 rfl) <| J_pick hv <| J_row .here fun hw a cap hv h1 h2 h3 => ?_
  obtain ⟨b, o, rfl⟩ := h3 (by intro h; have := congrArg List.length h; simp at this; subst this; simp at hlt0)
  subst hv
  have hm : cap ≤ 9223372036854775807 := h2
  have hml : (xs.map enc).length = xs.length := List.length_map _
  have hk0 : kept q xs (i0 + 1) = xs.take i0 := kept_first hpre hc0 hq0
  have hl0 : (xs.take i0).length = i0 := by simp; omega
  refine sr <| ag rfl rfl <| nx <| mv rfl rfl <| mv rfl rfl <| L_op <| xc fc294 (.cons rfl (.cons rfl .nil)) rfl (indexfunc294 hf hn hb hg .here (.there hc)) fun _ => J_slot (t := 10) (v := .int .i64 (i0 : Int)) rfl (by rw [hi0]) ?_
  refine ag rfl rfl <| nxx <| mv rfl rfl <| L_pur rfl (p_eql rfl rfl) <| nq <| J_bool (t := 12) (c := false) rfl (by simp) <| C_false rfl <| J_skip ?_
  refine Q_then <| J_seq <| sr <| mv rfl rfl <| L_pur rfl (p_add64 rfl rfl (by omega)) <| ag rfl rfl <| nq <| J_block ?_
  refine J_rowEq (ys := (kept q xs (i0 + 1) ++ xs.drop (kept q xs (i0 + 1)).length).map enc) (by rw [hk0, hl0, List.take_append_drop]) <| J_slot (t := 5) (v := .int .i64 ((kept q xs (i0 + 1)).length : Int)) rfl (by rw [hk0, hl0]) <| J_loop (α := Nat) (fun j => j ≤ xs.length) (fun j => row 374 5 (.slice (some ⟨b, o, none⟩) (xs.map enc).length cap) ((kept q xs j ++ xs.drop (kept q xs j).length).map enc) :: m) (fun j => [(6, .int .i64 (j : Int)), (5, .int .i64 ((kept q xs j).length : Int)), (0, .slice (some ⟨b, o, none⟩) (xs.map enc).length cap), (1, .func (.func g) #[] caps)]) (fun j => xs.length - j) (i0 + 1) (by omega) SU KE ?_
  intro j hj
  have hkl := kept_le q xs j
  refine J_seq <| sr <| mv rfl rfl <| mv rfl rfl <| L_pur rfl (p_len rfl Tryz.underlying220) <| L_pur rfl (p_lss rfl rfl) <| nq ?_
  refine C_dec rfl (fun h19 => ?_) (fun h19 => ?_)
  have hlt : j < xs.length := by omega
  obtain ⟨c, hcc⟩ : ∃ c, xs[j]? = some c := ⟨_, List.getElem?_eq_getElem hlt⟩
  refine J_skip <| Q_then <| J_seq <| J_block <| sr <| mv rfl rfl <| mv rfl rfl <| L_pur rfl (p_indexAddr rfl rfl Tryz.underlying220 ty374 (by omega) (by omega)) ?_
  refine L_val rfl (v_loadE rfl ty374 HS (by simp only [Int.toNat_natCast, List.getElem?_map, kept_get, hcc]; rfl)) ?_
  refine L_op <| x_alloc ty374 rfl fun b7 => L_op <| x_store rfl rfl ty374 rfl SM SM RO PT ?_
  refine nx <| mv rfl rfl <| L_val rfl (v_loadA rfl ty374 HS CT) ?_
  refine L_op <| x_callc rfl hf hn hb (.cons rfl .nil) rfl (hg _ c (.there (.there hc))) fun _ => L_pur rfl (p_not rfl) <| nq ?_
  refine C_split rfl (fun h29 => ?_) (fun h29 => ?_)
  have hqc : q c = false := by simpa using h29
  have hks := kept_set hcc hqc
  have hkl1 : (kept q xs (j + 1)).length = (kept q xs j).length + 1 := by rw [kept_succ hcc, hqc]; simp
  refine sr <| mv rfl rfl <| mv rfl rfl <| L_val rfl (v_loadA rfl ty374 HS CT) ?_
  refine L_pur rfl (p_indexAddr rfl rfl Tryz.underlying220 ty374 (by omega) (by omega)) <| L_op <| x_storeE (vs := enc c) rfl rfl ty374 rfl (hlen c) (hone c) PC (OM) ?_
  refine J_rowEq (ys := (kept q xs (j + 1) ++ xs.drop (kept q xs (j + 1)).length).map enc) (by rw [← hks, List.map_set]; simp) <| ny <| mv rfl rfl <| L_pur rfl (p_add64 rfl rfl (by omega)) <| ag rfl rfl <| L_nil <| Q_blk_normal <| qr ?_
  refine mv rfl rfl <| L_pur rfl (p_add64 rfl rfl (by omega)) <| ag rfl rfl <| nq <| J_slot (t := 5) (v := .int .i64 ((kept q xs (j + 1)).length : Int)) rfl (by rw [hkl1]; rfl) ?_
  exact J_again (j + 1) (by omega) (by omega) SU KE
  have hqc : q c = true := by simpa using h29
  have hks : kept q xs (j + 1) = kept q xs j := by rw [kept_succ hcc, hqc]; simp
  refine J_skip <| Q_blk_normal <| qr <| mv rfl rfl <| L_pur rfl (p_add64 rfl rfl (by omega)) <| ag rfl rfl <| nq <| J_slot (t := 5) (v := .int .i64 ((kept q xs (j + 1)).length : Int)) rfl (by rw [hks]) ?_
  refine J_pick (A := row 374 5 (.slice (some ⟨b, o, none⟩) (xs.map enc).length cap) ((kept q xs j ++ xs.drop (kept q xs j).length).map enc)) PC ?_
  refine J_rowEq (ys := (kept q xs (j + 1) ++ xs.drop (kept q xs (j + 1)).length).map enc) (by rw [hks]) ?_
  exact J_again (j + 1) (by omega) (by omega) SU KE
  have hjx : j = xs.length := by omega
  have hka : kept q xs j = xs.filter fun c => !q c := kept_all (by omega)
  refine J_exit <| Q_then_exit <| Q_then_exit <| Q_blk_this <| qx <| mv rfl rfl <| mv rfl rfl <| L_pur rfl (p_slice rfl Tryz.underlying220 ty374 rfl rfl (by omega) (by omega) (by omega)) ?_
  refine L_op <| x_clear (len := (xs.map enc).length) rfl Tryz.underlying220 ty374 rfl rfl PC (OM) ?_
  refine nx <| mv rfl rfl <| mv rfl rfl <| L_pur rfl (p_slice rfl Tryz.underlying220 ty374 rfl rfl (by omega) (by omega) (by omega)) <| J_take (k := (kept q xs j).length) (OM) <| J_rowTo (v' := .slice (some ⟨b, o, none⟩) (kept q xs j).length cap) (ys := (xs.filter fun c => !q c).map enc) (by simp [hka]) rfl <| J_slot (t := 41) (v := .slice (some ⟨b, o, none⟩) (kept q xs j).length cap) rfl (by simp [Addr.add]) <| ag rfl rfl ?_
  refine nq <| J_ret ?_
  exact J_return (_) Tryz.results236 (.tmp rfl .nil) rfl SU
theorem deletefunc238 {E : World} {l m : List As} {v : Value} {α : Type} {enc : α → List Value} {xs : List α} {g : FuncId} {caps : Array Value} {fn : Func} (hf : Tryz.prog.funcs[g]? = some fn) (hn : (fn.name == "runtime.NumGoroutine") = false) (hb : fn.body.isNone = false) {q : α → Bool} {C : As} (hg : ∀ (l' : List As) (c : α), Has C l' → Con Tryz.prog g (#[.agg (enc c).toArray] ++ caps) E l' (fun _ : Unit => .bool (q c)) (fun _ => l')) (hv : Pick (row 246 3 v (xs.map enc)) l m) (hc : Has C m) (hone : ∀ c, ones (enc c) = true) (hlen : ∀ c, (enc c).length = 3) :
  Con Tryz.prog 238 #[v, .func (.func g) #[] caps] E l (fun v' : Value => v') (fun v' => row 246 3 v' ((xs.filter fun c => !q c).map enc) :: m) := by
 rcases idx_cases q xs with ⟨hi0, hall⟩ | ⟨i0, hi0, hlt0, hpre, c0, hc0, hq0⟩
 ·
  refine Con.body (vs := [v, .func (.func g) #[] caps]) (n := 42) Tryz.func238 rfl rfl [(0, v), (1, .func (.func g) #[] caps)] (env_ok 2 rfl) <| J_pick hv <| sr <| ag rfl rfl <| nx <| mv rfl rfl <| mv rfl rfl <| L_op <| xc fc295 (.cons rfl (.cons rfl .nil)) rfl (indexfunc295 hf hn hb hg .here (.there hc)) fun _ => ?_
  refine ag rfl rfl <| nxx <| mv rfl rfl <| L_pur rfl (p_eql rfl rfl) <| nq <| J_bool (t := 12) (c := true) rfl (by simp [hi0]) <| C_true rfl <| sr ?_
  refine J_rowEq (ys := (xs.filter fun c => !q c).map enc) (by rw [List.filter_eq_self.2 (fun c hc => by simp [hall c hc])]) <| mv rfl rfl <| ag rfl rfl <| nq <| J_ret <| Q_then_ret ?_
  exact J_return (_) Tryz.results238 (.tmp rfl .nil) rfl SU
 ·
  refine Con.body (vs := [v, .func (.func g) #[] caps]) (n := 42) Tryz.func238 rfl rfl [(0, v), (1, .func (.func g) #[] caps)] (env_ok 2 rfl) <| J_pick hv <| J_row .here fun hw a cap hv h1 h2 h3 => ?_
  obtain ⟨b, o, rfl⟩ := h3 (by intro h; have := congrArg List.length h; simp at this; subst this; simp at hlt0)
  subst hv
  have hm : cap ≤ 9223372036854775807 := h2
  have hml : (xs.map enc).length = xs.length := List.length_map _
  have hk0 : kept q xs (i0 + 1) = xs.take i0 := kept_first hpre hc0 hq0
  have hl0 : (xs.take i0).length = i0 := by simp; omega
  refine sr <| ag rfl rfl <| nx <| mv rfl rfl <| mv rfl rfl <| L_op <| xc fc295 (.cons rfl (.cons rfl .nil)) rfl (indexfunc295 hf hn hb hg .here (.there hc)) fun _ => J_slot (t := 10) (v := .int .i64 (i0 : Int)) rfl (by rw [hi0]) ?_
  refine ag rfl rfl <| nxx <| mv rfl rfl <| L_pur rfl (p_eql rfl rfl) <| nq <| J_bool (t := 12) (c := false) rfl (by simp) <| C_false rfl <| J_skip ?_
  refine Q_then <| J_seq <| sr <| mv rfl rfl <| L_pur rfl (p_add64 rfl rfl (by omega)) <| ag rfl rfl <| nq <| J_block ?_
  refine J_rowEq (ys := (kept q xs (i0 + 1) ++ xs.drop (kept q xs (i0 + 1)).length).map enc) (by rw [hk0, hl0, List.take_append_drop]) <| J_slot (t := 5) (v := .int .i64 ((kept q xs (i0 + 1)).length : Int)) rfl (by rw [hk0, hl0]) <| J_loop (α := Nat) (fun j => j ≤ xs.length) (fun j => row 246 3 (.slice (some ⟨b, o, none⟩) (xs.map enc).length cap) ((kept q xs j ++ xs.drop (kept q xs j).length).map enc) :: m) (fun j => [(6, .int .i64 (j : Int)), (5, .int .i64 ((kept q xs j).length : Int)), (0, .slice (some ⟨b, o, none⟩) (xs.map enc).length cap), (1, .func (.func g) #[] caps)]) (fun j => xs.length - j) (i0 + 1) (by omega) SU KE ?_
  intro j hj
  have hkl := kept_le q xs j
  refine J_seq <| sr <| mv rfl rfl <| mv rfl rfl <| L_pur rfl (p_len rfl Tryz.underlying114) <| L_pur rfl (p_lss rfl rfl) <| nq ?_
  refine C_dec rfl (fun h19 => ?_) (fun h19 => ?_)
  have hlt : j < xs.length := by omega
  obtain ⟨c, hcc⟩ : ∃ c, xs[j]? = some c := ⟨_, List.getElem?_eq_getElem hlt⟩
  refine J_skip <| Q_then <| J_seq <| J_block <| sr <| mv rfl rfl <| mv rfl rfl <| L_pur rfl (p_indexAddr rfl rfl Tryz.underlying114 ty246 (by omega) (by omega)) ?_
  refine L_val rfl (v_loadE rfl ty246 HS (by simp only [Int.toNat_natCast, List.getElem?_map, kept_get, hcc]; rfl)) ?_
  refine L_op <| x_alloc ty246 rfl fun b7 => L_op <| x_store rfl rfl ty246 rfl SM SM RO PT ?_
  refine nx <| mv rfl rfl <| L_val rfl (v_loadA rfl ty246 HS CT) ?_
  refine L_op <| x_callc rfl hf hn hb (.cons rfl .nil) rfl (hg _ c (.there (.there hc))) fun _ => L_pur rfl (p_not rfl) <| nq ?_
  refine C_split rfl (fun h29 => ?_) (fun h29 => ?_)
  have hqc : q c = false := by simpa using h29
  have hks := kept_set hcc hqc
  have hkl1 : (kept q xs (j + 1)).length = (kept q xs j).length + 1 := by rw [kept_succ hcc, hqc]; simp
  refine sr <| mv rfl rfl <| mv rfl rfl <| L_val rfl (v_loadA rfl ty246 HS CT) ?_
  refine L_pur rfl (p_indexAddr rfl rfl Tryz.underlying114 ty246 (by omega) (by omega)) <| L_op <| x_storeE (vs := enc c) rfl rfl ty246 rfl (hlen c) (hone c) PC (OM) ?_
  refine J_rowEq (ys := (kept q xs (j + 1) ++ xs.drop (kept q xs (j + 1)).length).map enc) (by rw [← hks, List.map_set]; simp) <| ny <| mv rfl rfl <| L_pur rfl (p_add64 rfl rfl (by omega)) <| ag rfl rfl <| L_nil <| Q_blk_normal <| qr ?_
  refine mv rfl rfl <| L_pur rfl (p_add64 rfl rfl (by omega)) <| ag rfl rfl <| nq <| J_slot (t := 5) (v := .int .i64 ((kept q xs (j + 1)).length : Int)) rfl (by rw [hkl1]; rfl) ?_
  exact J_again (j + 1) (by omega) (by omega) SU KE
  have hqc : q c = true := by simpa using h29
  have hks : kept q xs (j + 1) = kept q xs j := by rw [kept_succ hcc, hqc]; simp
  refine J_skip <| Q_blk_normal <| qr <| mv rfl rfl <| L_pur rfl (p_add64 rfl rfl (by omega)) <| ag rfl rfl <| nq <| J_slot (t := 5) (v := .int .i64 ((kept q xs (j + 1)).length : Int)) rfl (by rw [hks]) ?_
  refine J_pick (A := row 246 3 (.slice (some ⟨b, o, none⟩) (xs.map enc).length cap) ((kept q xs j ++ xs.drop (kept q xs j).length).map enc)) PC ?_
  refine J_rowEq (ys := (kept q xs (j + 1) ++ xs.drop (kept q xs (j + 1)).length).map enc) (by rw [hks]) ?_
  exact J_again (j + 1) (by omega) (by omega) SU KE
  have hjx : j = xs.length := by omega
  have hka : kept q xs j = xs.filter fun c => !q c := kept_all (by omega)
  refine J_exit <| Q_then_exit <| Q_then_exit <| Q_blk_this <| qx <| mv rfl rfl <| mv rfl rfl <| L_pur rfl (p_slice rfl Tryz.underlying114 ty246 rfl rfl (by omega) (by omega) (by omega)) ?_
  refine L_op <| x_clear (len := (xs.map enc).length) rfl Tryz.underlying114 ty246 rfl rfl PC (OM) ?_
  refine nx <| mv rfl rfl <| mv rfl rfl <| L_pur rfl (p_slice rfl Tryz.underlying114 ty246 rfl rfl (by omega) (by omega) (by omega)) <| J_take (k := (kept q xs j).length) (OM) <| J_rowTo (v' := .slice (some ⟨b, o, none⟩) (kept q xs j).length cap) (ys := (xs.filter fun c => !q c).map enc) (by simp [hka]) rfl <| J_slot (t := 41) (v := .slice (some ⟨b, o, none⟩) (kept q xs j).length cap) rfl (by simp [Addr.add]) <| ag rfl rfl ?_
  refine nq <| J_ret ?_
  exact J_return (_) Tryz.results238 (.tmp rfl .nil) rfl SU
theorem clo237 {E : World} {l : List As} {bc : Nat} {i : ID} {c : Msg} (hc : Has (blk bc 36 (encI i)) l) :
    Con Tryz.prog 237 #[.agg (encM c).toArray, .pointer (some ⟨bc, 0, none⟩)] E l (fun _ : Unit => .bool (isM i c)) (fun _ => l) := by
  refine Con.body (vs := [.agg (encM c).toArray, .pointer (some ⟨bc, 0, none⟩)]) (n := 8) Tryz.func237 rfl rfl [(0, .agg (encM c).toArray), (1, .pointer (some ⟨bc, 0, none⟩))] (env_ok 2 rfl) <| sr <| L_op <| x_box rfl rfl rfl fun b2 => ag rfl rfl <| nx <| fa rfl rfl fa374_0 <| L_val rfl (v_loadA rfl ty36 HS CT) ?_
  refine L_val rfl (v_loadA rfl ty36 HS CT) ?_
  refine L_pur rfl (p_eqv rfl rfl (fun w => eg36 _ _ _ _ _ w) (fun w => eqv36 _ _ _ _ w)) <| ag rfl rfl <| nq <| J_ret ?_
  exact J_return (()) Tryz.results237 (.tmp rfl .nil) rfl SU
theorem clo239 {E : World} {l : List As} {bc : Nat} {i : ID} {c : Rcv} (hc : Has (blk bc 36 (encI i)) l) :
    Con Tryz.prog 239 #[.agg (encR c).toArray, .pointer (some ⟨bc, 0, none⟩)] E l (fun _ : Unit => .bool (isR i c)) (fun _ => l) := by
  refine Con.body (vs := [.agg (encR c).toArray, .pointer (some ⟨bc, 0, none⟩)]) (n := 8) Tryz.func239 rfl rfl [(0, .agg (encR c).toArray), (1, .pointer (some ⟨bc, 0, none⟩))] (env_ok 2 rfl) <| sr <| L_op <| x_box rfl rfl rfl fun b2 => ag rfl rfl <| nx <| fa rfl rfl fa246_0 <| L_val rfl (v_loadA rfl ty36 HS CT) ?_
  refine L_val rfl (v_loadA rfl ty36 HS CT) ?_
  refine L_pur rfl (p_eqv rfl rfl (fun w => eg36 _ _ _ _ _ w) (fun w => eqv36 _ _ _ _ w)) <| ag rfl rfl <| nq <| J_ret ?_
  exact J_return (()) Tryz.results239 (.tmp rfl .nil) rfl SU
theorem epDropC {E : World} {l m : List As} {b : Nat} {out : List Msg} {inn : List Rcv} (hp : Pick (epA b out inn) l m) (hbo : out.length ≤ 100000) (hbi : inn.length ≤ 100000) {i : ID} :
    Con Tryz.prog 169 #[.pointer (some ⟨b, 0, none⟩), .agg (encI i).toArray] E l (fun _ : Unit => .bool (decide ((mdrop out i).length + (rdrop inn i).length < out.length + inn.length))) (fun _ => epA b (mdrop out i) (rdrop inn i) :: m) := by
  refine Con.body (vs := [.pointer (some ⟨b, 0, none⟩), .agg (encI i).toArray]) (n := 48) Tryz.func169 rfl rfl [(0, .pointer (some ⟨b, 0, none⟩)), (1, .agg (encI i).toArray)] (env_ok 2 rfl) <| J_pick hp <| J_epO fun vo vi _ => J_row (.there .here) fun hw a cap hv h1 h2 h3 => ?_
  subst hv
  refine J_row (.there (.there .here)) fun hw' a' cap' hv h1' h2' h3' => ?_
  subst hv
  refine sr <| L_op <| x_box rfl rfl rfl fun b3 => ag rfl rfl <| nq <| J_seq <| J_drawS mixed (by kernel_rfl) <| sm rfl rfl ?_
  refine sp rfl (p_nilCheck rfl) <| sp rfl (p_fieldAddr rfl fa222_0) <| S_val rfl (v_load rfl ty220 HS (by exact rfl)) ?_
  refine sp rfl (p_len rfl Tryz.underlying220) <| sm rfl rfl <| sp rfl (p_nilCheck rfl) <| sp rfl (p_fieldAddr rfl fa222_1) <| S_val rfl (v_load rfl ty114 HS (by exact rfl)) ?_
  refine sp rfl (p_len rfl Tryz.underlying114) <| sp rfl (p_add64 rfl rfl (by simp; omega)) <| sp rfl (p_assign rfl) <| sq <| sr <| mv rfl rfl <| mv rfl rfl <| nc rfl rfl ?_
  refine fa rfl rfl fa222_0 <| L_val rfl (v_load rfl ty220 HS (by exact rfl)) ?_
  refine L_pur rfl (p_makeFunc (.cons rfl .nil)) <| L_op <| xc fc236 (.cons rfl (.cons rfl .nil)) rfl (deletefunc236 (xs := out) (enc := encM) (q := isM i) (C := blk b3 36 (encI i)) Tryz.func237 nm237 bd237 (fun l' c hc => clo237 hc) PC HS encM_one encM_len) <| JR fun a23 c23 hw23 hl23 hm23 hz23 => nc rfl rfl <| fa rfl rfl fa222_0 <| L_op <| x_store rfl rfl ty220 rfl SM SM RO PT ?_
  refine nx <| mv rfl rfl <| mv rfl rfl <| nc rfl rfl <| fa rfl rfl fa222_1 <| L_val rfl (v_load rfl ty114 HS (by exact rfl)) ?_
  refine L_pur rfl (p_makeFunc (.cons rfl .nil)) <| L_op <| xc fc238 (.cons rfl (.cons rfl .nil)) rfl (deletefunc238 (xs := inn) (enc := encR) (q := isR i) (C := blk b3 36 (encI i)) Tryz.func239 nm239 bd239 (fun l' c hc => clo239 hc) PC HS encR_one encR_len) <| JR fun a32 c32 hw32 hl32 hm32 hz32 => nc rfl rfl <| fa rfl rfl fa222_1 <| L_op <| x_store rfl rfl ty114 rfl SM SM RO PT ?_
  refine nq <| J_seq <| J_drawS mixed (by kernel_rfl) <| sm rfl rfl <| sp rfl (p_nilCheck rfl) <| sp rfl (p_fieldAddr rfl fa222_0) <| S_val rfl (v_load rfl ty220 HS (by exact rfl)) ?_
  refine sp rfl (p_len rfl Tryz.underlying220) <| sm rfl rfl <| sp rfl (p_nilCheck rfl) <| sp rfl (p_fieldAddr rfl fa222_1) <| S_val rfl (v_load rfl ty114 HS (by exact rfl)) ?_
  refine sp rfl (p_len rfl Tryz.underlying114) <| sp rfl (p_add64 rfl rfl (by have := List.length_filter_le (fun c => !isM i c) out; have := List.length_filter_le (fun c => !isR i c) inn; simp; omega)) <| sm rfl rfl <| sp rfl (p_lss rfl rfl) <| sp rfl (p_assign rfl) <| sq <| J_ret <| J_epS (b := b) (out := (mdrop out i)) (inn := (rdrop inn i)) _ _ PX trivial ?_
  refine J_return (()) Tryz.results169 (.tmp rfl .nil) ?_ ?_
  · simp only [one, List.length_map, mdrop, rdrop]; congr 1; rw [decide_eq_decide]; omega
  · exact SU
theorem indexfunc293 {E : World} {l : List As} {v : Value} {α : Type} {enc : α → List Value} {xs : List α} {g : FuncId} {caps : Array Value} {fn : Func} (hf : Tryz.prog.funcs[g]? = some fn) (hn : (fn.name == "runtime.NumGoroutine") = false) (hb : fn.body.isNone = false) {q : α → Bool} {C : As} (hg : ∀ (l' : List As) (c : α), Has C l' → Con Tryz.prog g (#[.agg (enc c).toArray] ++ caps) E l' (fun _ : Unit => .bool (q c)) (fun _ => l')) (hv : Has (row 308 3 v (xs.map enc)) l) (hc : Has C l) :
    Con Tryz.prog 293 #[v, .func (.func g) #[] caps] E l (fun _ : Unit => .int .i64 (idx q xs)) (fun _ => l) := by
  refine Con.body (vs := [v, .func (.func g) #[] caps]) (n := 19) Tryz.func293 rfl rfl [(0, v), (1, .func (.func g) #[] caps)] (env_ok 2 rfl) <| J_row hv fun hw a cap hv h1 h2 h3 => ?_
  subst hv
  have hm : cap ≤ 9223372036854775807 := h2
  have hml : (xs.map enc).length = xs.length := List.length_map _
  refine sr <| ag rfl rfl <| nxx <| mv rfl rfl <| L_pur rfl (p_len rfl Tryz.underlying139) <| mv rfl rfl <| nq <| J_block ?_
  refine J_loop (α := Nat) (fun i => i ≤ xs.length ∧ ∀ c ∈ xs.take i, q c = false) (fun _ => l) (fun i => [(8, .int .i64 (i : Int)), (7, .int .i64 (xs.map enc).length), (0, .slice a (xs.map enc).length cap), (1, .func (.func g) #[] caps)]) (fun i => xs.length - i) 0 ⟨by omega, by simp⟩ SU KE ?_
  intro i ⟨hi, hq⟩
  refine sr <| L_pur rfl (p_lss rfl rfl) <| nq <| J_seq ?_
  refine C_dec rfl (fun h9 => ?_) (fun h9 => ?_)
  have hlt : i < xs.length := by omega
  obtain ⟨b, o, rfl⟩ := h3 (by intro h; rw [h] at hml; simp at hml; omega)
  obtain ⟨c, hcc⟩ : ∃ c, xs[i]? = some c := ⟨_, List.getElem?_eq_getElem hlt⟩
  refine J_skip <| Q_then <| J_seq <| J_block <| sr <| mv rfl rfl <| ag rfl rfl <| nx ?_
  refine mv rfl rfl <| mv rfl rfl <| mv rfl rfl <| L_pur rfl (p_indexAddr rfl rfl Tryz.underlying139 ty308 (by omega) (by omega)) ?_
  refine L_val rfl (v_loadE rfl ty308 HS (by simp only [Int.toNat_natCast, List.getElem?_map, hcc]; rfl)) ?_
  refine L_op <| x_callc rfl hf hn hb (.cons rfl .nil) rfl (hg _ c hc) fun _ => nq ?_
  refine C_split rfl (fun h16 => ?_) (fun h16 => ?_)
  have hidx := idx_here hq hcc h16
  refine sr <| mv rfl rfl <| ag rfl rfl <| nq <| J_ret <| Q_blk_ret <| Q_then_ret <| Q_then_ret ?_
  refine Q_blk_ret <| Q_then_ret ?_
  refine J_return (()) Tryz.results293 (.tmp rfl .nil) ?_ ?_
  · simp [one, hidx]
  · exact SU
  refine J_skip <| Q_blk_normal <| qr <| L_pur rfl (p_add64 rfl rfl (by omega)) <| mv rfl rfl <| nq ?_
  exact J_again (i + 1) (by omega) (⟨by omega, take_false_succ hq hcc h16⟩) SU KE
  have hix : i = xs.length := by omega
  rw [hix, List.take_length] at hq
  have hidx := idx_none hq
  refine J_exit <| Q_then_exit <| Q_then_exit <| Q_blk_this <| qx <| ag rfl rfl <| nq <| J_ret ?_
  refine J_return (()) Tryz.results293 (.tmp rfl .nil) ?_ ?_
  · simp [one, hidx]
  · exact SU
theorem deletefunc234 {E : World} {l m : List As} {v : Value} {α : Type} {enc : α → List Value} {xs : List α} {g : FuncId} {caps : Array Value} {fn : Func} (hf : Tryz.prog.funcs[g]? = some fn) (hn : (fn.name == "runtime.NumGoroutine") = false) (hb : fn.body.isNone = false) {q : α → Bool} {C : As} (hg : ∀ (l' : List As) (c : α), Has C l' → Con Tryz.prog g (#[.agg (enc c).toArray] ++ caps) E l' (fun _ : Unit => .bool (q c)) (fun _ => l')) (hv : Pick (row 308 3 v (xs.map enc)) l m) (hc : Has C m) (hone : ∀ c, ones (enc c) = true) (hlen : ∀ c, (enc c).length = 3) :
  Con Tryz.prog 234 #[v, .func (.func g) #[] caps] E l (fun v' : Value => v') (fun v' => row 308 3 v' ((xs.filter fun c => !q c).map enc) :: m) := by
 rcases idx_cases q xs with ⟨hi0, hall⟩ | ⟨i0, hi0, hlt0, hpre, c0, hc0, hq0⟩
 ·
  refine Con.body (vs := [v, .func (.func g) #[] caps]) (n := 42) Tryz.func234 rfl rfl [(0, v), (1, .func (.func g) #[] caps)] (env_ok 2 rfl) <| J_pick hv <| sr <| ag rfl rfl <| nx <| mv rfl rfl <| mv rfl rfl <| L_op <| xc fc293 (.cons rfl (.cons rfl .nil)) rfl (indexfunc293 hf hn hb hg .here (.there hc)) fun _ => ?_
  refine ag rfl rfl <| nxx <| mv rfl rfl <| L_pur rfl (p_eql rfl rfl) <| nq <| J_bool (t := 12) (c := true) rfl (by simp [hi0]) <| C_true rfl <| sr ?_
  refine J_rowEq (ys := (xs.filter fun c => !q c).map enc) (by rw [List.filter_eq_self.2 (fun c hc => by simp [hall c hc])]) <| mv rfl rfl <| ag rfl rfl <| nq <| J_ret <| Q_then_ret ?_
  exact J_return (_) Tryz.results234 (.tmp rfl .nil) rfl SU
 ·
  refine Con.body (vs := [v, .func (.func g) #[] caps]) (n := 42) Tryz.func234 rfl rfl [(0, v), (1, .func (.func g) #[] caps)] (env_ok 2 rfl) <| J_pick hv <| J_row .here fun hw a cap hv h1 h2 h3 => ?_
  obtain ⟨b, o, rfl⟩ := h3 (by intro h; have := congrArg List.length h; simp at this; subst this; simp at hlt0)
  subst hv
  have hm : cap ≤ 9223372036854775807 := h2
  have hml : (xs.map enc).length = xs.length := List.length_map _
  have hk0 : kept q xs (i0 + 1) = xs.take i0 := kept_first hpre hc0 hq0
  have hl0 : (xs.take i0).length = i0 := by simp; omega
  refine sr <| ag rfl rfl <| nx <| mv rfl rfl <| mv rfl rfl <| L_op <| xc fc293 (.cons rfl (.cons rfl .nil)) rfl (indexfunc293 hf hn hb hg .here (.there hc)) fun _ => J_slot (t := 10) (v := .int .i64 (i0 : Int)) rfl (by rw [hi0]) ?_
  refine ag rfl rfl <| nxx <| mv rfl rfl <| L_pur rfl (p_eql rfl rfl) <| nq <| J_bool (t := 12) (c := false) rfl (by simp) <| C_false rfl <| J_skip ?_
  refine Q_then <| J_seq <| sr <| mv rfl rfl <| L_pur rfl (p_add64 rfl rfl (by omega)) <| ag rfl rfl <| nq <| J_block ?_
  refine J_rowEq (ys := (kept q xs (i0 + 1) ++ xs.drop (kept q xs (i0 + 1)).length).map enc) (by rw [hk0, hl0, List.take_append_drop]) <| J_slot (t := 5) (v := .int .i64 ((kept q xs (i0 + 1)).length : Int)) rfl (by rw [hk0, hl0]) <| J_loop (α := Nat) (fun j => j ≤ xs.length) (fun j => row 308 3 (.slice (some ⟨b, o, none⟩) (xs.map enc).length cap) ((kept q xs j ++ xs.drop (kept q xs j).length).map enc) :: m) (fun j => [(6, .int .i64 (j : Int)), (5, .int .i64 ((kept q xs j).length : Int)), (0, .slice (some ⟨b, o, none⟩) (xs.map enc).length cap), (1, .func (.func g) #[] caps)]) (fun j => xs.length - j) (i0 + 1) (by omega) SU KE ?_
  intro j hj
  have hkl := kept_le q xs j
  refine J_seq <| sr <| mv rfl rfl <| mv rfl rfl <| L_pur rfl (p_len rfl Tryz.underlying139) <| L_pur rfl (p_lss rfl rfl) <| nq ?_
  refine C_dec rfl (fun h19 => ?_) (fun h19 => ?_)
  have hlt : j < xs.length := by omega
  obtain ⟨c, hcc⟩ : ∃ c, xs[j]? = some c := ⟨_, List.getElem?_eq_getElem hlt⟩
  refine J_skip <| Q_then <| J_seq <| J_block <| sr <| mv rfl rfl <| mv rfl rfl <| L_pur rfl (p_indexAddr rfl rfl Tryz.underlying139 ty308 (by omega) (by omega)) ?_
  refine L_val rfl (v_loadE rfl ty308 HS (by simp only [Int.toNat_natCast, List.getElem?_map, kept_get, hcc]; rfl)) ?_
  refine L_op <| x_alloc ty308 rfl fun b7 => L_op <| x_store rfl rfl ty308 rfl SM SM RO PT ?_
  refine nx <| mv rfl rfl <| L_val rfl (v_loadA rfl ty308 HS CT) ?_
  refine L_op <| x_callc rfl hf hn hb (.cons rfl .nil) rfl (hg _ c (.there (.there hc))) fun _ => L_pur rfl (p_not rfl) <| nq ?_
  refine C_split rfl (fun h29 => ?_) (fun h29 => ?_)
  have hqc : q c = false := by simpa using h29
  have hks := kept_set hcc hqc
  have hkl1 : (kept q xs (j + 1)).length = (kept q xs j).length + 1 := by rw [kept_succ hcc, hqc]; simp
  refine sr <| mv rfl rfl <| mv rfl rfl <| L_val rfl (v_loadA rfl ty308 HS CT) ?_
  refine L_pur rfl (p_indexAddr rfl rfl Tryz.underlying139 ty308 (by omega) (by omega)) <| L_op <| x_storeE (vs := enc c) rfl rfl ty308 rfl (hlen c) (hone c) PC (OM) ?_
  refine J_rowEq (ys := (kept q xs (j + 1) ++ xs.drop (kept q xs (j + 1)).length).map enc) (by rw [← hks, List.map_set]; simp) <| ny <| mv rfl rfl <| L_pur rfl (p_add64 rfl rfl (by omega)) <| ag rfl rfl <| L_nil <| Q_blk_normal <| qr ?_
  refine mv rfl rfl <| L_pur rfl (p_add64 rfl rfl (by omega)) <| ag rfl rfl <| nq <| J_slot (t := 5) (v := .int .i64 ((kept q xs (j + 1)).length : Int)) rfl (by rw [hkl1]; rfl) ?_
  exact J_again (j + 1) (by omega) (by omega) SU KE
  have hqc : q c = true := by simpa using h29
  have hks : kept q xs (j + 1) = kept q xs j := by rw [kept_succ hcc, hqc]; simp
  refine J_skip <| Q_blk_normal <| qr <| mv rfl rfl <| L_pur rfl (p_add64 rfl rfl (by omega)) <| ag rfl rfl <| nq <| J_slot (t := 5) (v := .int .i64 ((kept q xs (j + 1)).length : Int)) rfl (by rw [hks]) ?_
  refine J_pick (A := row 308 3 (.slice (some ⟨b, o, none⟩) (xs.map enc).length cap) ((kept q xs j ++ xs.drop (kept q xs j).length).map enc)) PC ?_
  refine J_rowEq (ys := (kept q xs (j + 1) ++ xs.drop (kept q xs (j + 1)).length).map enc) (by rw [hks]) ?_
  exact J_again (j + 1) (by omega) (by omega) SU KE
  have hjx : j = xs.length := by omega
  have hka : kept q xs j = xs.filter fun c => !q c := kept_all (by omega)
  refine J_exit <| Q_then_exit <| Q_then_exit <| Q_blk_this <| qx <| mv rfl rfl <| mv rfl rfl <| L_pur rfl (p_slice rfl Tryz.underlying139 ty308 rfl rfl (by omega) (by omega) (by omega)) ?_
  refine L_op <| x_clear (len := (xs.map enc).length) rfl Tryz.underlying139 ty308 rfl rfl PC (OM) ?_
  refine nx <| mv rfl rfl <| mv rfl rfl <| L_pur rfl (p_slice rfl Tryz.underlying139 ty308 rfl rfl (by omega) (by omega) (by omega)) <| J_take (k := (kept q xs j).length) (OM) <| J_rowTo (v' := .slice (some ⟨b, o, none⟩) (kept q xs j).length cap) (ys := (xs.filter fun c => !q c).map enc) (by simp [hka]) rfl <| J_slot (t := 41) (v := .slice (some ⟨b, o, none⟩) (kept q xs j).length cap) rfl (by simp [Addr.add]) <| ag rfl rfl ?_
  refine nq <| J_ret ?_
  exact J_return (_) Tryz.results234 (.tmp rfl .nil) rfl SU
theorem clo235 {E : World} {l : List As} {bc : Nat} {i : ID} {c : Tm} (hc : Has (blk bc 36 (encI i)) l) :
    Con Tryz.prog 235 #[.agg (encT c).toArray, .pointer (some ⟨bc, 0, none⟩)] E l (fun _ : Unit => .bool (isTm i c)) (fun _ => l) := by
  refine Con.body (vs := [.agg (encT c).toArray, .pointer (some ⟨bc, 0, none⟩)]) (n := 8) Tryz.func235 rfl rfl [(0, .agg (encT c).toArray), (1, .pointer (some ⟨bc, 0, none⟩))] (env_ok 2 rfl) <| sr <| L_op <| x_box rfl rfl rfl fun b2 => ag rfl rfl <| nx <| fa rfl rfl fa308_1 <| L_val rfl (v_loadA rfl ty36 HS CT) ?_
  refine L_val rfl (v_loadA rfl ty36 HS CT) ?_
  refine L_pur rfl (p_eqv rfl rfl (fun w => eg36 _ _ _ _ _ w) (fun w => eqv36 _ _ _ _ w)) <| ag rfl rfl <| nq <| J_ret ?_
  exact J_return (()) Tryz.results235 (.tmp rfl .nil) rfl SU
theorem tmrDropC {E : World} {l m : List As} {b o : Nat} {xs : List Tm} (hp : Pick (tmrA b o xs) l m) (hb : xs.length ≤ 100000) {i : ID} :
    Con Tryz.prog 168 #[.pointer (some ⟨b, o, none⟩), .agg (encI i).toArray] E l (fun _ : Unit => .bool (decide ((tdrop xs i).length < xs.length))) (fun _ => tmrA b o (tdrop xs i) :: m) := by
  refine Con.body (vs := [.pointer (some ⟨b, o, none⟩), .agg (encI i).toArray]) (n := 27) Tryz.func168 rfl rfl [(0, .pointer (some ⟨b, o, none⟩)), (1, .agg (encI i).toArray)] (env_ok 2 rfl) <| J_pick hp <| J_tmrO fun v _ => J_row (.there .here) fun hw a cap hv h1 h2 h3 => ?_
  subst hv
  have hm : cap ≤ 9223372036854775807 := h2
  have hml : (xs.map encT).length = xs.length := List.length_map _
  refine sr <| L_op <| x_box rfl rfl rfl fun b3 => ag rfl rfl <| nx <| mv rfl rfl <| nc rfl rfl <| fa rfl rfl fa141_0 ?_
  refine L_val rfl (v_loadL rfl ty139 HS rfl (by exact rfl)) ?_
  refine L_pur rfl (p_len rfl Tryz.underlying139) <| ag rfl rfl <| nx <| mv rfl rfl <| mv rfl rfl <| nc rfl rfl <| fa rfl rfl fa141_0 <| L_val rfl (v_loadL rfl ty139 HS rfl (by exact rfl)) ?_
  refine L_pur rfl (p_makeFunc (.cons rfl .nil)) <| L_op <| xc fc234 (.cons rfl (.cons rfl .nil)) rfl (deletefunc234 (xs := xs) (enc := encT) (q := isTm i) (C := blk b3 36 (encI i)) Tryz.func235 nm235 bd235 (fun l' c hc => clo235 hc) PC HS encT_one encT_len) <| JR fun a17 c17 hw17 hl17 hm17 hz17 => nc rfl rfl <| fa rfl rfl fa141_0 <| L_op <| x_storeL rfl rfl ty139 rfl SM SM rfl RO rfl PT ?_
  refine nx <| mv rfl rfl <| nc rfl rfl <| fa rfl rfl fa141_0 <| L_val rfl (v_loadL rfl ty139 HS rfl (by exact rfl)) ?_
  refine L_pur rfl (p_len rfl Tryz.underlying139) <| mv rfl rfl <| L_pur rfl (p_lss rfl rfl) <| ag rfl rfl <| nq <| J_ret <| J_tmrS (b := b) (o := o) (xs := tdrop xs i) _ PX trivial ?_
  refine J_return (()) Tryz.results168 (.tmp rfl .nil) ?_ ?_
  · simp [one]
  · exact SU
def cDrop (c : ID × Bool) (i : ID) : ID × Bool := if c.2 = true ∧ c.1 = i then ((0, 0), false) else c
theorem rpDropC {E : World} {l m : List As} {b : Nat} {c : ID × Bool} (hp : Pick (rpA b c) l m) {i : ID} :
    Con Tryz.prog 173 #[.pointer (some ⟨b, 0, none⟩), .agg (encI i).toArray] E l (fun _ : Unit => .bool (decide (c.2 = true ∧ c.1 = i))) (fun _ => rpA b (cDrop c i) :: m) := by
  refine Con.body (vs := [.pointer (some ⟨b, 0, none⟩), .agg (encI i).toArray]) (n := 21) Tryz.func173 rfl rfl [(0, .pointer (some ⟨b, 0, none⟩)), (1, .agg (encI i).toArray)] (env_ok 2 rfl) <| J_pick hp <| J_asTo (B := blk b 243 [.int .i64 c.1.1, .int .i64 c.1.2, .bool c.2]) (by rfl) <| sr <| L_op <| x_box rfl rfl rfl fun b3 => ag rfl rfl <| nq ?_
  refine J_seq <| J_seq <| J_drawS mixed (by kernel_rfl) <| sm rfl rfl <| sp rfl (p_nilCheck rfl) <| sp rfl (p_fieldAddr rfl fa243_1) <| S_val rfl (v_load rfl ty4 HS (by exact rfl)) ?_
  refine sp rfl (p_not rfl) <| sm rfl rfl ?_
  refine J_gsplit (t := 10) rfl (fun h10 => ?_) (fun h10 => ?_)
  have hno : ¬ (c.2 = true ∧ c.1 = i) := fun e => by rw [e.1] at h10; simp at h10
  refine S_off rfl rfl rfl rfl rfl <| S_off rfl rfl rfl rfl rfl <| S_off rfl rfl rfl rfl rfl <| S_off rfl rfl rfl rfl rfl <| S_off rfl rfl rfl rfl rfl <| S_off rfl rfl rfl rfl rfl <| sp rfl (p_pick_t rfl rfl) <| sq ?_
  refine C_true rfl <| sr <| ag rfl rfl <| nq <| J_ret <| Q_then_ret <| J_pick (A := blk b _ _) PC ?_
  refine J_asTo (B := rpA b (cDrop c i)) (by rw [cDrop, if_neg hno]; rfl) ?_
  refine J_return (()) Tryz.results173 (.tmp rfl .nil) ?_ ?_
  · simp [one, hno]
  · exact SU
  refine S_on rfl rfl rfl rfl (Pur.vl (p_move rfl)) <| S_on rfl rfl rfl rfl (Pur.vl (p_nilCheck rfl)) <| S_on rfl rfl rfl rfl (Pur.vl (p_fieldAddr rfl fa243_0)) <| S_on rfl rfl rfl rfl (v_loadA rfl ty36 HS CT) ?_
  refine S_on rfl rfl rfl rfl (v_loadA rfl ty36 HS CT) ?_
  refine S_on rfl rfl rfl rfl (Pur.vl (p_nev rfl rfl (fun w => eg36 _ _ _ _ _ w) (fun w => nev36 _ _ _ _ w))) <| sp rfl (p_pick_f rfl rfl) <| sq ?_
  refine C_split rfl (fun h17 => ?_) (fun h17 => ?_)
  have hno : ¬ (c.2 = true ∧ c.1 = i) := fun e => by rw [← e.2] at h17; simp at h17
  refine sr <| ag rfl rfl <| nq <| J_ret <| Q_then_ret <| J_pick (A := blk b _ _) PC ?_
  refine J_asTo (B := rpA b (cDrop c i)) (by rw [cDrop, if_neg hno]; rfl) ?_
  refine J_return (()) Tryz.results173 (.tmp rfl .nil) ?_ ?_
  · simp [one, hno]
  · exact SU
  have hyes : c.2 = true ∧ c.1 = i := ⟨by simpa using h10, by simp at h17; exact Prod.ext h17.1 h17.2⟩
  refine J_skip <| qx <| mv rfl rfl <| L_pur rfl (bld243 .nil (by repeat constructor)) <| nc rfl rfl <| L_op <| x_store rfl rfl ty243 rfl SM SM RO PT ?_
  refine nx <| ag rfl rfl <| nq <| J_ret <| J_pick (A := blk b _ _) PC ?_
  refine J_asTo (B := rpA b (cDrop c i)) (by rw [cDrop, if_pos hyes]; rfl) ?_
  refine J_return (()) Tryz.results173 (.tmp rfl .nil) ?_ ?_
  · simp [one, hyes]
  · exact SU
end Go.Pse
namespace Go.Pse
open Go.RowKit Go.Proofs
theorem p_buildA {P : Program} {t el : TypeId} {F : Env} {n len sz by1 sz2 by2 : Nat} {ag : Bool} {dst : Option Tmp} {T : TypeId} {p : String} {e : Array Edge} {g : Option (Nat × Bool)} {parts : Array (Nat × Operand)} {ps : List (Nat × Value)} {zt zs : List Value} {cs : Array Value} (hT : Ty P t sz2 by2 true zt) (hu : P.underlying t = some (.array len el)) (hE : Ty P el sz by1 ag zs)
    (hps : Parts F parts.toList ps) (h : Instr.fill (fun i => some (i * sz, sz)) zt.toArray ps = some cs) : Pur P ⟨dst, .build t parts, T, p, e, g⟩ F n (.agg cs) := fun a hF w => by
  obtain ⟨z, hz, hzs⟩ := hT.zero w
  have hp : (parts.map fun (i, x) => (i, a.eval x)).toList = ps := by
    rw [Array.toList_map]; exact hps.map hF
  have hzc : z.cells = zt.toArray := by rw [← hzs]
  have : (Instr.build t (parts.map fun (i, x) => (i, a.eval x))).run P w = .ok (.agg cs) w := by
    simp only [Instr.build, Sem.run_bind, hz, Result.andThen_ok, run_underlying hu, hE.sizeOf, hp, hzc, h]
    rfl
  simp only [execOp, Sem.run_bind, this, Result.andThen_ok]
  rfl
theorem p_index {P : Program} {t el : TypeId} {F : Env} {n len sz by1 : Nat} {ag : Bool} {dst : Option Tmp} {T : TypeId} {p : String} {e : Array Edge} {g : Option (Nat × Bool)} {x y : Operand} {cs : Array Value} {i : Nat} {zs : List Value} {v : Value} (hx : evl F x = some (.agg cs)) (hy : evl F y = some (.int .i64 (i : Int))) (hu : P.underlying t = some (.array len el)) (hE : Ty P el sz by1 ag zs) (hi : i < len)
    (hv : ∀ w, (part el cs (i * sz)).run P w = .ok v w) : Pur P ⟨dst, .index t x y, T, p, e, g⟩ F n v := fun a hF w => by
  have h0 : (0 : Int) ≤ (i : Int) ∧ (i : Int) < (len : Int) := ⟨by omega, by omega⟩
  simp [execOp, hF.evl hx, hF.evl hy, Instr.index, asIntOf, run_underlying hu, hE.sizeOf, hi, hv]
/-! ### plain: entries as bytes -/
def checkE (e : Sqe) : Bool := decide (1 ≤ e.op) && decide (e.op ≤ 20) && decide (0 ≤ e.flags) && decide (e.flags ≤ 15) && !decide (bits .and .i64 e.flags 3 = 3)
def wordE (e : Sqe) (i : Nat) : Int := if i = 0 then e.tag else if i = 1 then e.cap else if i = 2 then e.a else if i = 3 then e.b else if i = 4 then e.c else e.time
def partE (e : Sqe) : Nat → List Int
  | 0 => e.op % 256 :: e.flags % 256 :: List.replicate 30 0
  | i + 1 => putB (partE e i) (4 + 4 * i) (le4 (wordE e i))
def bytesE (e : Sqe) : List Int := e.op % 256 :: e.flags % 256 :: 0 :: 0 :: (le4 e.tag ++ (le4 e.cap ++ (le4 e.a ++ (le4 e.b ++ (le4 e.c ++ (le4 e.time ++ [0, 0, 0, 0]))))))
def rawE (e : Sqe) : List Int := if checkE e then bytesE e else []
def readE (bs : List Int) : Sqe := ⟨byteAt bs 0, byteAt bs 1, getN bs 4 4, getN bs 8 4, getN bs 12 4, getN bs 16 4, getN bs 20 4, getN bs 24 4⟩
def goodE (bs : List Int) : Bool := checkE (readE bs) && (decide (byteAt bs 2 = 0) && (decide (byteAt bs 3 = 0) && (decide (byteAt bs 28 = 0) && (decide (byteAt bs 29 = 0) && (decide (byteAt bs 30 = 0) && decide (byteAt bs 31 = 0))))))
theorem le4_get {bs : List Int} (h : Bytes bs) (a : Nat) : le4 (getN bs a 4) = [byteAt bs a, byteAt bs (a + 1), byteAt bs (a + 2), byteAt bs (a + 3)] := by
  have h0 := byteAt_is h a
  have h1 := byteAt_is h (a + 1)
  have h2 := byteAt_is h (a + 2)
  have h3 := byteAt_is h (a + 3)
  have e : getN bs a 4 = byteAt bs a + byteAt bs (a + 1) * 256 + byteAt bs (a + 2) * 65536 + byteAt bs (a + 3) * 16777216 := by
    simp only [getN, Nat.add_zero]; omega
  unfold le4
  rw [e]
  refine List.cons_eq_cons.2 ⟨by omega, List.cons_eq_cons.2 ⟨by omega, List.cons_eq_cons.2 ⟨by omega, List.cons_eq_cons.2 ⟨by omega, rfl⟩⟩⟩⟩
theorem bytes_all {bs : List Int} (hl : bs.length = 32) : bs = (List.range 32).map (byteAt bs) := by
  refine List.ext_getElem? fun i => ?_
  rw [List.getElem?_map]
  by_cases h : i < 32
  · rw [List.getElem?_range h, List.getElem?_eq_getElem (by omega)]
    simp [byteAt, List.getElem?_eq_getElem (show i < bs.length by omega)]
  · rw [List.getElem?_eq_none (by omega), List.getElem?_eq_none (by simp; omega)]; rfl
theorem good_is {bs : List Int} (hl : bs.length = 32) (hB : Bytes bs) : decide (rawE (readE bs) = bs) = goodE bs := by
  have hne : ([] : List Int) ≠ bs := fun e => by rw [← e] at hl; cases hl
  unfold rawE goodE
  cases hc : checkE (readE bs) with
  | false => rw [if_neg (by decide), decide_eq_false hne, Bool.false_and]
  | true =>
    rw [if_pos rfl, Bool.true_and, Bool.eq_iff_iff]
    simp only [Bool.and_eq_true, decide_eq_true_eq]
    have e1 : bytesE (readE bs) = byteAt bs 0 % 256 :: byteAt bs 1 % 256 :: 0 :: 0 :: ((List.range 24).map (fun i => byteAt bs (4 + i)) ++ [0, 0, 0, 0]) := by
      unfold bytesE readE
      simp only [le4_get hB]
      rfl
    have e2 : bs = byteAt bs 0 :: byteAt bs 1 :: byteAt bs 2 :: byteAt bs 3 :: ((List.range 24).map (fun i => byteAt bs (4 + i)) ++ [byteAt bs 28, byteAt bs 29, byteAt bs 30, byteAt bs 31]) := bytes_all hl
    have h0 := byteAt_is hB 0
    have h1 := byteAt_is hB 1
    constructor
    · intro h
      rw [e1] at h
      have h := h.trans e2
      simp only [List.cons.injEq, List.append_cancel_left_eq] at h
      obtain ⟨_, _, g2, g3, g4, g5, g6, g7, _⟩ := h
      exact ⟨g2.symm, g3.symm, g4.symm, g5.symm, g6.symm, g7.symm⟩
    · rintro ⟨g2, g3, g4, g5, g6, g7⟩
      rw [e1]
      conv => rhs; rw [e2, g2, g3, g4, g5, g6, g7]
      rw [show byteAt bs 0 % 256 = byteAt bs 0 by omega, show byteAt bs 1 % 256 = byteAt bs 1 by omega]
def entE (bs : List Int) : Sqe := if goodE bs then readE bs else ⟨0, 0, 0, 0, 0, 0, 0, 0⟩
def deadE (e : Sqe) (now : Int) : Option Int := if bits .and .i64 e.flags 8 ≠ 0 then some e.time else if e.time ≠ 0 then some (IntKind.u64.wrap (now + e.time)) else none
theorem partE_len (e : Sqe) : ∀ i, i ≤ 6 → (partE e i).length = 32
  | 0, _ => rfl
  | i + 1, h => by rw [partE, putB_len (by rw [partE_len e i (by omega)]; simp [le4]; omega), partE_len e i (by omega)]
theorem rawE_len (e : Sqe) : (rawE e).length ≤ 32 := by
  unfold rawE; split
  · exact Nat.le_of_eq (partE_len e 6 (by omega))
  · simp
theorem partE_bytes (e : Sqe) : ∀ i, Bytes (partE e i)
  | 0 => fun x hx => by
    rcases List.mem_cons.1 hx with rfl | hx
    · omega
    · rcases List.mem_cons.1 hx with rfl | hx
      · omega
      · rw [(List.mem_replicate.1 hx).2]; omega
  | i + 1 => putB_bytes (partE_bytes e i) (le4_bytes _)
theorem checkEC {E : World} {l : List As} {e : Sqe} :
    Con Tryz.prog 265 #[.agg #[.int .i64 e.op, .int .i64 e.flags, .int .u32 e.tag, .int .u32 e.cap, .int .u32 e.a, .int .u32 e.b, .int .u32 e.c, .int .u32 e.time]] E l (fun _ : Unit => .bool (checkE e)) (fun _ => l) := by
  refine Con.body (vs := [.agg #[.int .i64 e.op, .int .i64 e.flags, .int .u32 e.tag, .int .u32 e.cap, .int .u32 e.a, .int .u32 e.b, .int .u32 e.c, .int .u32 e.time]]) (n := 27) Tryz.func265 rfl rfl [(0, .agg #[.int .i64 e.op, .int .i64 e.flags, .int .u32 e.tag, .int .u32 e.cap, .int .u32 e.a, .int .u32 e.b, .int .u32 e.c, .int .u32 e.time])] (env_ok 1 rfl) <| sr <| L_op <| x_box rfl rfl rfl fun b1 => ag rfl rfl <| nx <| fa rfl rfl fa34_0 <| L_val rfl (v_load rfl ty3 HS (by exact rfl)) ?_
  refine L_pur rfl (p_geq rfl rfl) <| mv rfl rfl ?_
  refine J_gsplit (t := 6) rfl (fun h6 => ?_) (fun h6 => ?_)
  refine L_op <| G_on rfl rfl rfl <| J_pur (p_fieldAddr rfl fa34_0) rfl rfl rfl <| L_op <| G_on rfl rfl rfl <| J_val (v_load rfl ty3 HS (by exact rfl)) rfl rfl rfl ?_
  refine L_op <| G_on rfl rfl rfl <| J_pur (p_leq rfl rfl) rfl rfl rfl <| L_pur rfl (p_pick_t rfl rfl) <| mv rfl rfl ?_
  refine J_gsplit (t := 11) rfl (fun h11 => ?_) (fun h11 => ?_)
  refine L_op <| G_on rfl rfl rfl <| J_pur (p_fieldAddr rfl fa34_1) rfl rfl rfl <| L_op <| G_on rfl rfl rfl <| J_val (v_load rfl ty3 HS (by exact rfl)) rfl rfl rfl ?_
  refine L_op <| G_on rfl rfl rfl <| J_pur (p_geq rfl rfl) rfl rfl rfl <| L_pur rfl (p_pick_t rfl rfl) <| mv rfl rfl ?_
  refine J_gsplit (t := 16) rfl (fun h16 => ?_) (fun h16 => ?_)
  refine L_op <| G_on rfl rfl rfl <| J_pur (p_fieldAddr rfl fa34_1) rfl rfl rfl <| L_op <| G_on rfl rfl rfl <| J_val (v_load rfl ty3 HS (by exact rfl)) rfl rfl rfl ?_
  refine L_op <| G_on rfl rfl rfl <| J_pur (p_leq rfl rfl) rfl rfl rfl <| L_pur rfl (p_pick_t rfl rfl) <| mv rfl rfl ?_
  refine J_gsplit (t := 21) rfl (fun h21 => ?_) (fun h21 => ?_)
  refine L_op <| G_on rfl rfl rfl <| J_pur (p_fieldAddr rfl fa34_1) rfl rfl rfl <| L_op <| G_on rfl rfl rfl <| J_val (v_load rfl ty3 HS (by exact rfl)) rfl rfl rfl ?_
  refine L_op <| G_on rfl rfl rfl <| J_pur (p_and rfl rfl) rfl rfl rfl <| L_op <| G_on rfl rfl rfl <| J_pur (p_neq rfl rfl) rfl rfl rfl <| L_pur rfl (p_pick_t rfl rfl) <| ag rfl rfl ?_
  refine nq <| J_ret ?_
  refine J_return (()) Tryz.results265 (.tmp rfl .nil) ?_ ?_
  · first | rfl | (simp_all [one, checkE]; done) | (simp_all [one, checkE] <;> omega)
  · exact SU
  refine L_op <| G_off rfl rfl rfl rfl rfl rfl <| L_op <| G_off rfl rfl rfl rfl rfl rfl <| L_op <| G_off rfl rfl rfl rfl rfl rfl <| L_op <| G_off rfl rfl rfl rfl rfl rfl ?_
  refine L_pur rfl (p_pick_f rfl rfl) <| ag rfl rfl <| nq <| J_ret ?_
  refine J_return (()) Tryz.results265 (.tmp rfl .nil) ?_ ?_
  · first | rfl | (simp_all [one, checkE]; done) | (simp_all [one, checkE] <;> omega)
  · exact SU
  refine L_op <| G_off rfl rfl rfl rfl rfl rfl <| L_op <| G_off rfl rfl rfl rfl rfl rfl <| L_op <| G_off rfl rfl rfl rfl rfl rfl <| L_pur rfl (p_pick_f rfl rfl) <| mv rfl rfl ?_
  refine L_op <| G_off rfl rfl rfl rfl rfl rfl <| L_op <| G_off rfl rfl rfl rfl rfl rfl <| L_op <| G_off rfl rfl rfl rfl rfl rfl <| L_op <| G_off rfl rfl rfl rfl rfl rfl ?_
  refine L_pur rfl (p_pick_f rfl rfl) <| ag rfl rfl <| nq <| J_ret ?_
  refine J_return (()) Tryz.results265 (.tmp rfl .nil) ?_ ?_
  · first | rfl | (simp_all [one, checkE]; done) | (simp_all [one, checkE] <;> omega)
  · exact SU
  refine L_op <| G_off rfl rfl rfl rfl rfl rfl <| L_op <| G_off rfl rfl rfl rfl rfl rfl <| L_op <| G_off rfl rfl rfl rfl rfl rfl <| L_pur rfl (p_pick_f rfl rfl) <| mv rfl rfl ?_
  refine L_op <| G_off rfl rfl rfl rfl rfl rfl <| L_op <| G_off rfl rfl rfl rfl rfl rfl <| L_op <| G_off rfl rfl rfl rfl rfl rfl <| L_pur rfl (p_pick_f rfl rfl) <| mv rfl rfl ?_
  refine L_op <| G_off rfl rfl rfl rfl rfl rfl <| L_op <| G_off rfl rfl rfl rfl rfl rfl <| L_op <| G_off rfl rfl rfl rfl rfl rfl <| L_op <| G_off rfl rfl rfl rfl rfl rfl ?_
  refine L_pur rfl (p_pick_f rfl rfl) <| ag rfl rfl <| nq <| J_ret ?_
  refine J_return (()) Tryz.results265 (.tmp rfl .nil) ?_ ?_
  · first | rfl | (simp_all [one, checkE]; done) | (simp_all [one, checkE] <;> omega)
  · exact SU
  refine L_op <| G_off rfl rfl rfl rfl rfl rfl <| L_op <| G_off rfl rfl rfl rfl rfl rfl <| L_op <| G_off rfl rfl rfl rfl rfl rfl <| L_pur rfl (p_pick_f rfl rfl) <| mv rfl rfl ?_
  refine L_op <| G_off rfl rfl rfl rfl rfl rfl <| L_op <| G_off rfl rfl rfl rfl rfl rfl <| L_op <| G_off rfl rfl rfl rfl rfl rfl <| L_pur rfl (p_pick_f rfl rfl) <| mv rfl rfl ?_
  refine L_op <| G_off rfl rfl rfl rfl rfl rfl <| L_op <| G_off rfl rfl rfl rfl rfl rfl <| L_op <| G_off rfl rfl rfl rfl rfl rfl <| L_pur rfl (p_pick_f rfl rfl) <| mv rfl rfl ?_
  refine L_op <| G_off rfl rfl rfl rfl rfl rfl <| L_op <| G_off rfl rfl rfl rfl rfl rfl <| L_op <| G_off rfl rfl rfl rfl rfl rfl <| L_op <| G_off rfl rfl rfl rfl rfl rfl ?_
  refine L_pur rfl (p_pick_f rfl rfl) <| ag rfl rfl <| nq <| J_ret ?_
  refine J_return (()) Tryz.results265 (.tmp rfl .nil) ?_ ?_
  · first | rfl | (simp_all [one, checkE]; done) | (simp_all [one, checkE] <;> omega)
  · exact SU
theorem arr_at (e : Sqe) {i : Nat} (hi : i < 6) (w : World) : (part 404 #[.int .i64 4, .int .u32 e.tag, .int .i64 8, .int .u32 e.cap, .int .i64 12, .int .u32 e.a, .int .i64 16, .int .u32 e.b, .int .i64 20, .int .u32 e.c, .int .i64 24, .int .u32 e.time] (i * 2)).run Tryz.prog w = .ok (.agg #[.int .i64 ((4 + 4 * i : Nat) : Int), .int .u32 (wordE e i)]) w := by
  have : i = 0 ∨ i = 1 ∨ i = 2 ∨ i = 3 ∨ i = 4 ∨ i = 5 := by omega
  rcases this with rfl | rfl | rfl | rfl | rfl | rfl <;> simp [part, ty404.isAgg, ty404.sizeOf, wordE]
theorem bytesEC {E : World} {l : List As} {e : Sqe} :
  Con Tryz.prog 197 #[.agg #[.int .i64 e.op, .int .i64 e.flags, .int .u32 e.tag, .int .u32 e.cap, .int .u32 e.a, .int .u32 e.b, .int .u32 e.c, .int .u32 e.time]] E l (fun v : Value => v) (fun v => row 5 1 v ((rawE e).map encU) :: l) := by
 refine Con.body (vs := [.agg #[.int .i64 e.op, .int .i64 e.flags, .int .u32 e.tag, .int .u32 e.cap, .int .u32 e.a, .int .u32 e.b, .int .u32 e.c, .int .u32 e.time]]) (n := 50) Tryz.func197 rfl rfl [(0, .agg #[.int .i64 e.op, .int .i64 e.flags, .int .u32 e.tag, .int .u32 e.cap, .int .u32 e.a, .int .u32 e.b, .int .u32 e.c, .int .u32 e.time])] (env_ok 1 rfl) <| sr <| L_op <| x_box rfl rfl rfl fun b1 => ag rfl rfl <| nxx <| L_val rfl (v_loadA rfl ty34 HS CT) ?_
 refine L_op <| xc fc265 (.cons rfl .nil) rfl (checkEC (e := e)) fun _ => L_pur rfl (p_not rfl) <| nq ?_
 refine C_split rfl (fun h8 => ?_) (fun h8 => ?_)
 have hck : rawE e = [] := by unfold rawE; rw [if_neg (by simpa using h8)]
 refine J_nil (el := 5) (sz := 1) <| J_rowEq (ys := (rawE e).map encU) (by rw [hck]; rfl) <| sr <| ag rfl rfl <| nq <| J_ret <| Q_then_ret ?_
 exact J_return (_) Tryz.results197 (.tmp rfl .nil) rfl SU
 have hc1 : checkE e = true := by simpa using h8
 have hck : rawE e = bytesE e := if_pos hc1
 refine J_skip <| qx <| L_op <| x_make (len := 32) rfl rfl Tryz.underlying73 ty5 rfl rfl (by simp) (by simp) rfl rfl <| JE ((List.replicate 32 (0 : Int)).map encU) (by rfl) fun a9 c9 hw9 hl9 hm9 hz9 => ?_
 obtain ⟨bq, oq, rfl⟩ := hz9 (by simp)
 refine ag rfl rfl <| nq ?_
 refine J_cut (α := Value) (fun v : Value => row 5 1 v ((partE e 0).map encU) :: blk b1 34 [.int .i64 e.op, .int .i64 e.flags, .int .u32 e.tag, .int .u32 e.cap, .int .u32 e.a, .int .u32 e.b, .int .u32 e.c, .int .u32 e.time] :: l) (fun v : Value => [(3, v), (1, .pointer (some ⟨b1, 0, none⟩))]) ?_ ?_
 refine J_drawI none [blk b1 34 [.int .i64 e.op, .int .i64 e.flags, .int .u32 e.tag, .int .u32 e.cap, .int .u32 e.a, .int .u32 e.b, .int .u32 e.c, .int .u32 e.time]] mixed <| ip 0 rfl rfl rfl rfl (p_move rfl) <| ip 1 rfl rfl rfl rfl (p_move rfl) <| ip 2 rfl rfl rfl rfl (p_fieldAddr rfl fa34_0) <| iv 3 rfl rfl rfl rfl (fun _ => v_load rfl ty3 HS (by exact rfl)) ?_
 refine ip 4 rfl rfl rfl rfl (p_conv rfl Tryz.underlying3 Tryz.underlying5) <| ip 5 rfl rfl rfl rfl (p_fieldAddr rfl fa34_1) <| iv 6 rfl rfl rfl rfl (fun _ => v_load rfl ty3 HS (by exact rfl)) ?_
 refine ip 7 rfl rfl rfl rfl (p_conv rfl Tryz.underlying3 Tryz.underlying5) <| ip 8 rfl rfl rfl rfl (p_indexAddr rfl rfl Tryz.underlying73 ty5 (by omega) (by simp)) <| i1 9 rfl <| x_storeE rfl rfl ty5 rfl SM SM PC (by simp) ?_
 refine ip 10 rfl rfl rfl rfl (p_indexAddr rfl rfl Tryz.underlying73 ty5 (by omega) (by simp)) <| i1 11 rfl <| x_storeE rfl rfl ty5 rfl SM SM PC (by simp) ?_
 refine i0 <| Q_then <| J_pick (A := row 5 1 _ _) PC ?_
 refine J_rowEq (ys := (partE e 0).map encU) (by simp only [wrap_u8]; rfl) ?_
 exact J_at (L := (fun v : Value => row 5 1 v ((partE e 0).map encU) :: blk b1 34 [.int .i64 e.op, .int .i64 e.flags, .int .u32 e.tag, .int .u32 e.cap, .int .u32 e.a, .int .u32 e.b, .int .u32 e.c, .int .u32 e.time] :: l)) (G := (fun v : Value => [(3, v), (1, .pointer (some ⟨b1, 0, none⟩))])) _ SU KE
 intro v
 refine J_seq <| sr <| fa rfl rfl fa34_2 <| L_val rfl (v_load rfl ty22 HS (by exact rfl)) ?_
 refine L_pur rfl (bld404 (.cons rfl (.cons rfl .nil)) (by repeat constructor)) <| fa rfl rfl fa34_3 <| L_val rfl (v_load rfl ty22 HS (by exact rfl)) ?_
 refine L_pur rfl (bld404 (.cons rfl (.cons rfl .nil)) (by repeat constructor)) <| fa rfl rfl fa34_4 <| L_val rfl (v_load rfl ty22 HS (by exact rfl)) ?_
 refine L_pur rfl (bld404 (.cons rfl (.cons rfl .nil)) (by repeat constructor)) <| fa rfl rfl fa34_5 <| L_val rfl (v_load rfl ty22 HS (by exact rfl)) ?_
 refine L_pur rfl (bld404 (.cons rfl (.cons rfl .nil)) (by repeat constructor)) <| fa rfl rfl fa34_6 <| L_val rfl (v_load rfl ty22 HS (by exact rfl)) ?_
 refine L_pur rfl (bld404 (.cons rfl (.cons rfl .nil)) (by repeat constructor)) <| fa rfl rfl fa34_7 <| L_val rfl (v_load rfl ty22 HS (by exact rfl)) ?_
 refine L_pur rfl (bld404 (.cons rfl (.cons rfl .nil)) (by repeat constructor)) <| L_pur rfl (p_buildA ty405 Tryz.underlying405 ty404 (.cons rfl (.cons rfl (.cons rfl (.cons rfl (.cons rfl (.cons rfl .nil)))))) (cs := #[.int .i64 4, .int .u32 e.tag, .int .i64 8, .int .u32 e.cap, .int .i64 12, .int .u32 e.a, .int .i64 16, .int .u32 e.b, .int .i64 20, .int .u32 e.c, .int .i64 24, .int .u32 e.time]) (by kernel_rfl)) <| mv rfl rfl <| nq <| J_block <| J_loop2 (fun k v => k ≤ 6) (fun k v => row 5 1 v ((partE e k).map encU) :: blk b1 34 [.int .i64 e.op, .int .i64 e.flags, .int .u32 e.tag, .int .u32 e.cap, .int .u32 e.a, .int .u32 e.b, .int .u32 e.c, .int .u32 e.time] :: l) (fun k v => [(39, .int .i64 (k : Int)), (3, v), (38, .agg #[.int .i64 4, .int .u32 e.tag, .int .i64 8, .int .u32 e.cap, .int .i64 12, .int .u32 e.a, .int .i64 16, .int .u32 e.b, .int .i64 20, .int .u32 e.c, .int .i64 24, .int .u32 e.time]), (1, .pointer (some ⟨b1, 0, none⟩))]) (fun k v => 6 - k) 0 v (by omega) SU KE ?_
 intro k v hk
 refine sr <| L_pur rfl (p_lss rfl rfl) <| nq <| J_seq ?_
 refine C_dec rfl (fun h40 => ?_) (fun h40 => ?_)
 have hpl := partE_len e k (by omega)
 refine J_skip <| Q_then <| J_seq <| J_block <| sr <| L_pur rfl (p_index rfl rfl Tryz.underlying405 ty404 (by omega) (arr_at e (by omega))) <| L_op <| x_alloc ty404 rfl fun b5 => ?_
 refine L_op <| x_store rfl rfl ty404 rfl SM SM RO PT ?_
 refine ny <| mv rfl rfl <| fa rfl rfl fa404_0 <| L_val rfl (v_load rfl ty3 HS (by exact rfl)) ?_
 refine fa rfl rfl fa404_1 <| L_val rfl (v_load rfl ty22 HS (by exact rfl)) ?_
 refine L_op <| xc fc264 (.cons rfl (.cons rfl (.cons rfl .nil))) rfl (put32C (a := 4 + 4 * k) (bs := partE e k) (fun w H => sep_reads (xs := (partE e k).map encU) HS H) (by omega) (by omega)) <| JE ((partE e (k + 1)).map encU) (by rfl) fun a47 c47 hw47 hl47 hm47 hz47 => ag rfl rfl <| L_nil <| Q_blk_normal <| qr <| L_pur rfl (p_add64 rfl rfl (by omega)) ?_
 refine mv rfl rfl <| nq ?_
 exact J_again2 (k + 1) _ (by omega) (by omega) SU KE
 have hk6 : k = 6 := by omega
 subst hk6
 refine J_pick (A := row 5 1 _ _) PC ?_
 refine J_rowEq (ys := (rawE e).map encU) (by rw [hck]; rfl) <| J_exit <| Q_then_exit <| Q_then_exit <| Q_blk_this <| qx <| mv rfl rfl <| ag rfl rfl ?_
 refine nq <| J_ret ?_
 exact J_return (_) Tryz.results197 (.tmp rfl .nil) rfl SU
theorem equalC {E : World} {l : List As} {v u : Value} {xs ys : List Int} (hr : ∀ w, Sep E w l → Reads w 1 v (xs.map encU)) (hs : ∀ w, Sep E w l → Reads w 1 u (ys.map encU)) (hb : xs.length ≤ 1000000) (hb2 : ys.length ≤ 1000000) :
    Con Tryz.prog 196 #[v, u] E l (fun _ : Unit => .bool (decide (xs = ys))) (fun _ => l) := by
  refine Con.body (vs := [v, u]) (n := 26) Tryz.func196 rfl rfl [(0, v), (1, u)] (env_ok 2 rfl) <| J_readsB hr fun hw a cap hv h1 h2 h3 => ?_
  subst hv
  refine J_readsB hs fun hw' a' cap' hv h1' h2' h3' => ?_
  subst hv
  have hm : cap ≤ 9223372036854775807 := h2
  have hm' : cap' ≤ 9223372036854775807 := h2'
  have hml : (xs.map encU).length = xs.length := List.length_map _
  have hml' : (ys.map encU).length = ys.length := List.length_map _
  refine sr <| ag rfl rfl <| nxx <| mv rfl rfl <| L_pur rfl (p_len rfl Tryz.underlying73) <| mv rfl rfl <| L_pur rfl (p_len rfl Tryz.underlying73) <| L_pur rfl (p_neq rfl rfl) ?_
  refine nq ?_
  refine C_dec rfl (fun h10 => ?_) (fun h10 => ?_)
  have hne : ¬ xs = ys := fun e => by subst e; exact absurd h10 (by simp)
  refine sr <| ag rfl rfl <| nq <| J_ret <| Q_then_ret ?_
  refine J_return (()) Tryz.results196 (.tmp rfl .nil) ?_ ?_
  · rw [decide_eq_false hne]; rfl
  · exact SU
  have hle : xs.length = ys.length := by simp at h10; omega
  refine J_skip <| Q_then <| J_seq <| sr <| mv rfl rfl <| L_pur rfl (p_len rfl Tryz.underlying73) <| mv rfl rfl <| nq ?_
  refine J_block <| J_loop (α := Nat) (fun k => k ≤ xs.length ∧ xs.take k = ys.take k) (fun _ => l) (fun k => [(13, .int .i64 (k : Int)), (12, .int .i64 (xs.map encU).length), (0, .slice a (xs.map encU).length cap), (1, .slice a' (ys.map encU).length cap')]) (fun k => xs.length - k) 0 ⟨by omega, rfl⟩ SU KE ?_
  intro k ⟨hk, hq⟩
  refine sr <| L_pur rfl (p_lss rfl rfl) <| nq <| J_seq ?_
  refine C_dec rfl (fun h14 => ?_) (fun h14 => ?_)
  have hlt : k < xs.length := by omega
  obtain ⟨bx, ox, rfl⟩ := h3 (by intro h; rw [h] at hml; simp at hml; omega)
  obtain ⟨by', oy, rfl⟩ := h3' (by intro h; rw [h] at hml'; simp at hml'; omega)
  obtain ⟨c, hcc⟩ : ∃ c, xs[k]? = some c := ⟨_, List.getElem?_eq_getElem hlt⟩
  obtain ⟨d, hcd⟩ : ∃ d, ys[k]? = some d := ⟨_, List.getElem?_eq_getElem (by omega)⟩
  refine J_skip <| Q_then <| J_seq <| J_block <| sr <| mv rfl rfl <| ag rfl rfl <| nq ?_
  refine J_seq <| J_drawS mixed (by kernel_rfl) <| sm rfl rfl <| sm rfl rfl <| sp rfl (p_indexAddr rfl rfl Tryz.underlying73 ty5 (by omega) (by omega)) ?_
  refine S_val rfl (v_loadR1 rfl ty5 (fun w H => hr w (Sub.sep SU H)) (by simp only [Int.toNat_natCast, List.getElem?_map, hcc]; rfl)) ?_
  refine sm rfl rfl <| sm rfl rfl <| sp rfl (p_indexAddr rfl rfl Tryz.underlying73 ty5 (by omega) (by omega)) ?_
  refine S_val rfl (v_loadR1 rfl ty5 (fun w H => hs w (Sub.sep SU H)) (by simp only [Int.toNat_natCast, List.getElem?_map, hcd]; rfl)) ?_
  refine sp rfl (p_neq rfl rfl) <| sq ?_
  refine C_dec rfl (fun h24 => ?_) (fun h24 => ?_)
  have hne : ¬ xs = ys := fun e => by subst e; rw [hcc] at hcd; cases hcd; exact absurd h24 (by simp)
  refine sr <| ag rfl rfl <| nq <| J_ret <| Q_blk_ret <| Q_then_ret <| Q_then_ret <| Q_blk_ret ?_
  refine Q_then_ret ?_
  refine J_return (()) Tryz.results196 (.tmp rfl .nil) ?_ ?_
  · rw [decide_eq_false hne]; rfl
  · exact SU
  refine J_skip <| Q_blk_normal <| qr <| L_pur rfl (p_add64 rfl rfl (by omega)) <| mv rfl rfl <| nq ?_
  exact J_again (k + 1) (by omega) (⟨by omega, by rw [List.take_add_one, List.take_add_one, hcc, hcd, hq, show c = d from by simpa using h24]⟩) SU KE
  have hke : k = xs.length := by omega
  subst hke
  have heq : xs = ys := by rw [List.take_length] at hq; rw [hq, hle, List.take_length]
  refine J_exit <| Q_then_exit <| Q_then_exit <| Q_blk_this <| qx <| ag rfl rfl <| nq <| J_ret ?_
  refine J_return (()) Tryz.results196 (.tmp rfl .nil) ?_ ?_
  · rw [decide_eq_true heq]; rfl
  · exact SU
theorem deadEC {E : World} {l : List As} {e : Sqe} {now : Int} (ht : 0 ≤ e.time ∧ e.time < 4294967296) :
    Con Tryz.prog 140 #[.agg #[.int .i64 e.op, .int .i64 e.flags, .int .u32 e.tag, .int .u32 e.cap, .int .u32 e.a, .int .u32 e.b, .int .u32 e.c, .int .u32 e.time], .int .u64 now] E l (fun _ : Unit => .tuple #[.int .u64 ((deadE e now).getD 0), .bool (deadE e now).isSome]) (fun _ => l) := by
  refine Con.body (vs := [.agg #[.int .i64 e.op, .int .i64 e.flags, .int .u32 e.tag, .int .u32 e.cap, .int .u32 e.a, .int .u32 e.b, .int .u32 e.c, .int .u32 e.time], .int .u64 now]) (n := 23) Tryz.func140 rfl rfl [(0, .agg #[.int .i64 e.op, .int .i64 e.flags, .int .u32 e.tag, .int .u32 e.cap, .int .u32 e.a, .int .u32 e.b, .int .u32 e.c, .int .u32 e.time]), (1, .int .u64 now)] (env_ok 2 rfl) <| sr <| L_op <| x_box rfl rfl rfl fun b2 => ag rfl rfl <| ag rfl rfl <| nq <| J_seq ?_
  refine J_block <| sr <| fa rfl rfl fa34_1 <| L_val rfl (v_load rfl ty3 HS (by exact rfl)) ?_
  refine L_pur rfl (p_and rfl rfl) <| L_pur rfl (p_neq rfl rfl) <| ag rfl rfl <| nq ?_
  refine C_dec rfl (fun h6 => ?_) (fun h6 => ?_)
  refine sr <| fa rfl rfl fa34_7 <| L_val rfl (v_load rfl ty22 HS (by exact rfl)) ?_
  refine L_pur rfl (p_conv rfl Tryz.underlying22 Tryz.underlying102) <| ag rfl rfl <| ag rfl rfl <| nq <| J_ret <| Q_blk_ret <| Q_then_ret ?_
  refine J_return (()) Tryz.results140 (.tmp rfl (.tmp rfl .nil)) ?_ ?_
  · rw [show deadE e now = some e.time from if_pos h6]; simp [one, wrap64u_of (a := e.time) ⟨by omega, by omega⟩]
  · exact SU
  refine sr <| fa rfl rfl fa34_7 <| L_val rfl (v_load rfl ty22 HS (by exact rfl)) ?_
  refine L_pur rfl (p_neq rfl rfl) <| ag rfl rfl <| nq ?_
  refine C_dec rfl (fun h14 => ?_) (fun h14 => ?_)
  refine sr <| mv rfl rfl <| fa rfl rfl fa34_7 <| L_val rfl (v_load rfl ty22 HS (by exact rfl)) ?_
  refine L_pur rfl (p_conv rfl Tryz.underlying22 Tryz.underlying102) <| L_pur rfl (p_add rfl rfl) <| ag rfl rfl <| ag rfl rfl <| nq <| J_ret <| Q_blk_ret <| Q_then_ret ?_
  refine J_return (()) Tryz.results140 (.tmp rfl (.tmp rfl .nil)) ?_ ?_
  · rw [show deadE e now = some (IntKind.u64.wrap (now + e.time)) from by unfold deadE; rw [if_neg h6, if_pos h14]]; simp [one, wrap64u_of (a := e.time) ⟨by omega, by omega⟩]
  · exact SU
  refine J_skip <| Q_blk_normal <| qx <| ag rfl rfl <| ag rfl rfl <| nq <| J_ret ?_
  refine J_return (()) Tryz.results140 (.tmp rfl (.tmp rfl .nil)) ?_ ?_
  · rw [show deadE e now = none from by unfold deadE; rw [if_neg h6, if_neg h14]]; rfl
  · exact SU
theorem readEC {E : World} {l : List As} {v : Value} {bs : List Int} (hr : ∀ w, Sep E w l → Reads w 1 v (bs.map encU)) (hl : bs.length = 32) (hB : Bytes bs) :
    Con Tryz.prog 137 #[v] E l (fun _ : Unit => .tuple #[.agg #[.int .i64 (entE bs).op, .int .i64 (entE bs).flags, .int .u32 (entE bs).tag, .int .u32 (entE bs).cap, .int .u32 (entE bs).a, .int .u32 (entE bs).b, .int .u32 (entE bs).c, .int .u32 (entE bs).time], .bool (goodE bs)]) (fun _ => l) := by
  refine Con.body (vs := [v]) (n := 37) Tryz.func137 rfl rfl [(0, v)] (env_ok 1 rfl) <| J_readsB hr fun hw a cap hv hv1 hv2 hv3 => ?_
  subst hv
  have hml : (bs.map encU).length = bs.length := List.length_map _
  obtain ⟨bx, ox, rfl⟩ := hv3 (by intro h; rw [h] at hml; simp at hml; omega)
  obtain ⟨c0_, h0⟩ : ∃ c, bs[0]? = some c := ⟨_, List.getElem?_eq_getElem (by omega)⟩
  obtain ⟨c1_, h1⟩ : ∃ c, bs[1]? = some c := ⟨_, List.getElem?_eq_getElem (by omega)⟩
  have hcap : cap ≤ 9223372036854775807 := hv2
  have hb0 : IntKind.i64.wrap c0_ = (readE bs).op := by rw [wrap64_of (by have := hB c0_ (List.mem_of_getElem? h0); omega)]; show _ = byteAt bs 0; unfold byteAt; rw [h0]; rfl
  have hb1 : IntKind.i64.wrap c1_ = (readE bs).flags := by rw [wrap64_of (by have := hB c1_ (List.mem_of_getElem? h1); omega)]; show _ = byteAt bs 1; unfold byteAt; rw [h1]; rfl
  refine sr <| L_op <| x_alloc ty34 rfl fun b2 => ag rfl rfl <| nxx <| mv rfl rfl <| L_pur rfl (p_len rfl Tryz.underlying73) <| L_pur rfl (p_neq rfl rfl) ?_
  refine nq <| J_bool (t := 7) (c := false) rfl (by simp; omega) <| C_false rfl <| J_skip <| Q_then <| J_seq <| J_drawP .nil ?_
  refine' Pa.det [] rfl rfl rfl rfl (by kernel_rfl) (by decide) ?_ ?_ ?_
  rotate_left
  intro γ Rr X K k
  refine J_pur (p_move rfl) rfl rfl rfl ?_
  exact k
  · exact fun _ _ _ => rfl
  refine' Pa.det [] rfl rfl rfl rfl (by kernel_rfl) (by decide) ?_ ?_ ?_
  rotate_left
  intro γ Rr X K k
  refine J_pur (p_indexAddr rfl rfl Tryz.underlying73 ty5 (by omega) (by simp; omega)) rfl rfl rfl ?_
  exact k
  · exact fun _ _ _ => rfl
  refine' Pa.det [] rfl rfl rfl rfl (by kernel_rfl) (by decide) ?_ ?_ ?_
  rotate_left
  intro γ Rr X K k
  refine J_val (v_loadR1 rfl ty5 (fun w H => hr w (Sub.sep SU H)) (by show (bs.map encU)[0]? = _; rw [List.getElem?_map, h0]; rfl)) rfl rfl rfl ?_
  exact k
  · exact fun _ _ _ => rfl
  refine' Pa.det [] rfl rfl rfl rfl (by kernel_rfl) (by decide) ?_ ?_ ?_
  rotate_left
  intro γ Rr X K k
  refine J_pur (p_conv rfl Tryz.underlying5 Tryz.underlying3) rfl rfl rfl ?_
  exact k
  · exact fun _ _ _ => rfl
  refine' Pa.det [] rfl rfl rfl rfl (by kernel_rfl) (by decide) ?_ ?_ ?_
  rotate_left
  intro γ Rr X K k
  refine J_pur (p_move rfl) rfl rfl rfl ?_
  exact k
  · exact fun _ _ _ => rfl
  refine' Pa.det [] rfl rfl rfl rfl (by kernel_rfl) (by decide) ?_ ?_ ?_
  rotate_left
  intro γ Rr X K k
  refine J_pur (p_indexAddr rfl rfl Tryz.underlying73 ty5 (by omega) (by simp; omega)) rfl rfl rfl ?_
  exact k
  · exact fun _ _ _ => rfl
  refine' Pa.det [] rfl rfl rfl rfl (by kernel_rfl) (by decide) ?_ ?_ ?_
  rotate_left
  intro γ Rr X K k
  refine J_val (v_loadR1 rfl ty5 (fun w H => hr w (Sub.sep SU H)) (by show (bs.map encU)[1]? = _; rw [List.getElem?_map, h1]; rfl)) rfl rfl rfl ?_
  exact k
  · exact fun _ _ _ => rfl
  refine' Pa.det [] rfl rfl rfl rfl (by kernel_rfl) (by decide) ?_ ?_ ?_
  rotate_left
  intro γ Rr X K k
  refine J_pur (p_conv rfl Tryz.underlying5 Tryz.underlying3) rfl rfl rfl ?_
  exact k
  · exact fun _ _ _ => rfl
  refine' Pa.det [] rfl rfl rfl rfl (by kernel_rfl) (by decide) ?_ ?_ ?_
  rotate_left
  intro γ Rr X K k
  refine J_pur (p_move rfl) rfl rfl rfl ?_
  exact k
  · exact fun _ _ _ => rfl
  refine' Pa.det [] rfl rfl rfl rfl (by kernel_rfl) (by decide) ?_ ?_ ?_
  rotate_left
  intro γ Rr X K k
  refine xc fc139 (.cons rfl (.cons rfl .nil)) rfl (u32C (a := 4) (bs := bs) (fun w H => hr w (Sub.sep SU H)) (by omega) (by omega) hB) fun _ => ?_
  exact k
  · exact fun _ _ _ => rfl
  refine' Pa.det [] rfl rfl rfl rfl (by kernel_rfl) (by decide) ?_ ?_ ?_
  rotate_left
  intro γ Rr X K k
  refine J_pur (p_move rfl) rfl rfl rfl ?_
  exact k
  · exact fun _ _ _ => rfl
  refine' Pa.det [] rfl rfl rfl rfl (by kernel_rfl) (by decide) ?_ ?_ ?_
  rotate_left
  intro γ Rr X K k
  refine xc fc139 (.cons rfl (.cons rfl .nil)) rfl (u32C (a := 8) (bs := bs) (fun w H => hr w (Sub.sep SU H)) (by omega) (by omega) hB) fun _ => ?_
  exact k
  · exact fun _ _ _ => rfl
  refine' Pa.det [] rfl rfl rfl rfl (by kernel_rfl) (by decide) ?_ ?_ ?_
  rotate_left
  intro γ Rr X K k
  refine J_pur (p_move rfl) rfl rfl rfl ?_
  exact k
  · exact fun _ _ _ => rfl
  refine' Pa.det [] rfl rfl rfl rfl (by kernel_rfl) (by decide) ?_ ?_ ?_
  rotate_left
  intro γ Rr X K k
  refine xc fc139 (.cons rfl (.cons rfl .nil)) rfl (u32C (a := 12) (bs := bs) (fun w H => hr w (Sub.sep SU H)) (by omega) (by omega) hB) fun _ => ?_
  exact k
  · exact fun _ _ _ => rfl
  refine' Pa.det [] rfl rfl rfl rfl (by kernel_rfl) (by decide) ?_ ?_ ?_
  rotate_left
  intro γ Rr X K k
  refine J_pur (p_move rfl) rfl rfl rfl ?_
  exact k
  · exact fun _ _ _ => rfl
  refine' Pa.det [] rfl rfl rfl rfl (by kernel_rfl) (by decide) ?_ ?_ ?_
  rotate_left
  intro γ Rr X K k
  refine xc fc139 (.cons rfl (.cons rfl .nil)) rfl (u32C (a := 16) (bs := bs) (fun w H => hr w (Sub.sep SU H)) (by omega) (by omega) hB) fun _ => ?_
  exact k
  · exact fun _ _ _ => rfl
  refine' Pa.det [] rfl rfl rfl rfl (by kernel_rfl) (by decide) ?_ ?_ ?_
  rotate_left
  intro γ Rr X K k
  refine J_pur (p_move rfl) rfl rfl rfl ?_
  exact k
  · exact fun _ _ _ => rfl
  refine' Pa.det [] rfl rfl rfl rfl (by kernel_rfl) (by decide) ?_ ?_ ?_
  rotate_left
  intro γ Rr X K k
  refine xc fc139 (.cons rfl (.cons rfl .nil)) rfl (u32C (a := 20) (bs := bs) (fun w H => hr w (Sub.sep SU H)) (by omega) (by omega) hB) fun _ => ?_
  exact k
  · exact fun _ _ _ => rfl
  refine' Pa.det [] rfl rfl rfl rfl (by kernel_rfl) (by decide) ?_ ?_ ?_
  rotate_left
  intro γ Rr X K k
  refine J_pur (p_move rfl) rfl rfl rfl ?_
  exact k
  · exact fun _ _ _ => rfl
  refine' Pa.det [] rfl rfl rfl rfl (by kernel_rfl) (by decide) ?_ ?_ ?_
  rotate_left
  intro γ Rr X K k
  refine xc fc139 (.cons rfl (.cons rfl .nil)) rfl (u32C (a := 24) (bs := bs) (fun w H => hr w (Sub.sep SU H)) (by omega) (by omega) hB) fun _ => ?_
  exact k
  · exact fun _ _ _ => rfl
  refine' Pa.det [] rfl rfl rfl rfl (by kernel_rfl) (by decide) ?_ ?_ ?_
  rotate_left
  intro γ Rr X K k
  refine J_pur (bld34 (.cons rfl (.cons rfl (.cons rfl (.cons rfl (.cons rfl (.cons rfl (.cons rfl (.cons rfl .nil)))))))) (by repeat constructor)) rfl rfl rfl ?_
  exact k
  · exact fun _ _ _ => rfl
  refine' Pa.nat [] rfl rfl rfl rfl (by kernel_rfl) (by decide) ?_ ?_ ?_
  rotate_left 2
  intro γ Rr X K k
  refine x_alloc ty34 rfl fun b4 => ?_
  exact k b4
  · exact fun _ _ _ => ⟨rfl, rfl⟩
  refine Pa.fin 23 1 rfl rfl mixed rfl (by kernel_rfl) SU (fun _ _ _ _ _ h => h) fun γ => ?_
  generalize (γ 4).1 = b4
  refine A_one (i := 22) (by kernel_rfl) rfl <| x_store rfl rfl ty34 rfl SM SM RO PT ?_
  refine A_done (by kernel_rfl) <| Q_then <| J_seq <| J_seq <| J_pick (A := blk b4 _ _) PC ?_
  refine J_asTo (B := blk b4 34 [.int .i64 (readE bs).op, .int .i64 (readE bs).flags, .int .u32 (readE bs).tag, .int .u32 (readE bs).cap, .int .u32 (readE bs).a, .int .u32 (readE bs).b, .int .u32 (readE bs).c, .int .u32 (readE bs).time]) (by rw [hb0, hb1]; rfl) <| J_region <| L_val rfl (v_loadA rfl ty34 HS CT) ?_
  refine L_op <| xc fc197 (.cons rfl .nil) rfl (bytesEC (e := readE bs)) <| JR fun a31 c31 hw31 hl31 hm31 hz31 => mv rfl rfl <| L_op <| xc fc196 (.cons rfl (.cons rfl .nil)) rfl (equalC (xs := rawE (readE bs)) (ys := bs) (fun w H => sep_reads (xs := (rawE (readE bs)).map encU) HS H) (fun w H => hr w (Sub.sep SU H)) (by have := rawE_len (readE bs); omega) (by omega)) fun _ => ?_
  refine L_pur rfl (p_not rfl) <| nq ?_
  refine C_split rfl (fun h34 => ?_) (fun h34 => ?_)
  have hg : goodE bs = false := by rw [← good_is hl hB]; simpa using h34
  have he : entE bs = ⟨0, 0, 0, 0, 0, 0, 0, 0⟩ := by unfold entE; rw [hg]; rfl
  refine sr <| L_pur rfl (bld34 .nil (by repeat constructor)) <| L_op <| x_store rfl rfl ty34 rfl SM SM RO PT ?_
  refine ag rfl rfl <| nq <| J_ret <| Q_then_ret ?_
  refine J_return (()) Tryz.results137 (.cellA rfl ty34 HS CT (.tmp rfl .nil)) ?_ ?_
  · rw [he, hg]; rfl
  · exact SU
  have hg : goodE bs = true := by rw [← good_is hl hB]; simpa using h34
  have he : entE bs = readE bs := if_pos hg
  refine J_skip <| qx <| L_val rfl (v_loadA rfl ty34 HS CT) ?_
  refine L_op <| x_store rfl rfl ty34 rfl SM SM RO PT ?_
  refine ag rfl rfl <| nq <| J_ret ?_
  refine J_return (()) Tryz.results137 (.cellA rfl ty34 HS CT (.tmp rfl .nil)) ?_ ?_
  · rw [he, hg]; rfl
  · exact SU
end Go.Pse
namespace Go.Pse
open Go.RowKit Go.Proofs
/-! ### plain: rings, entered -/
def rgNear (r : Rg) (ms : List (List Int)) : Int := IntKind.u32.wrap (getN (rowAt ms r.sq) 4 4 - r.head)
def rgWaitOk (r : Rg) (ms : List (List Int)) : Bool := !decide (rgNear r ms > 2 ^ r.sb.toNat)
def rgWait (r : Rg) (ms : List (List Int)) : Int := if rgWaitOk r ms then rgNear r ms else 0
def rgRoomOk (r : Rg) (ms : List (List Int)) : Bool := !decide (rgFar r ms > 2 ^ r.cb.toNat)
def rgValid (r : Rg) (ms : List (List Int)) : Bool := rgWaitOk r ms && rgRoomOk r ms
def fetchB (r : Rg) (ms : List (List Int)) (i : Nat) : List Int := ((rowAt ms r.sq).drop (16 + IntKind.u32.wrap (r.head + IntKind.u32.wrap (i : Int)) % 2 ^ r.sb.toNat * 32).toNat).take 32
def advR (r : Rg) (n : Int) : Rg := { r with head := IntKind.u32.wrap (r.head + IntKind.u32.wrap n) }
def advM (r : Rg) (ms : List (List Int)) (n : Int) : List (List Int) := ms.set (r.sq - 1).toNat (putB (rowAt ms r.sq) 0 (le4 (advR r n).head))
def flushX (r : Rg) (ms : List (List Int)) : List Cqe → Rg × List (List Int)
  | [] => ({ r with over := [] }, ms)
  | c :: cs => if rgWrOk r ms then flushX (rgUp r) (ms.set (r.cq - 1).toNat (rgRow r ms c)) cs else ({ r with over := c :: cs }, ms)
def flushR (r : Rg) (ms : List (List Int)) : Rg × List (List Int) := flushX r ms r.over
theorem pow_sb {k : Int} (h : 0 ≤ k ∧ k ≤ 3) : (1 : Int) ≤ 2 ^ k.toNat ∧ (2 : Int) ^ k.toNat ≤ 8 ∧ IntKind.u32.wrap (1 * 2 ^ k.toNat) = 2 ^ k.toNat := by
  have : k = 0 ∨ k = 1 ∨ k = 2 ∨ k = 3 := by omega
  rcases this with rfl | rfl | rfl | rfl <;> decide
theorem rgWait_in {r : Rg} {ms : List (List Int)} (h : RgOk r) : 0 ≤ rgWait r ms ∧ rgWait r ms ≤ 8 := by
  have h1 := pow_sb h.sb
  have h2 := wrap32_in (getN (rowAt ms r.sq) 4 4 - r.head)
  unfold rgWait rgWaitOk rgNear
  split
  · rename_i h3
    simp only [Bool.not_eq_true', decide_eq_false_iff_not] at h3
    omega
  · omega
theorem advR_ok {r : Rg} (h : RgOk r) (n : Int) : RgOk (advR r n) := ⟨h.sq, h.cq, h.cb, h.tail, h.sb, wrap32_in _⟩
theorem advM_ok {r : Rg} {ms : List (List Int)} (h : RgOk r) (hM : MemOk ms) (n : Int) : MemOk (advM r ms n) := by
  obtain ⟨_, h2, h3⟩ := hM.at h.sq
  exact hM.put ⟨by rw [putB_len (by simp [le4]; omega), h2], putB_bytes h3 (le4_bytes _)⟩
theorem wrM_ok {r : Rg} {ms : List (List Int)} (h : RgOk r) (hM : MemOk ms) (c : Cqe) : MemOk (ms.set (r.cq - 1).toNat (rgRow r ms c)) := hM.put (rgRow_ok h hM c)
theorem flush_ok : ∀ (cs : List Cqe) {r : Rg} {ms : List (List Int)}, RgOk r → MemOk ms → RgOk (flushX r ms cs).1 ∧ MemOk (flushX r ms cs).2 ∧ (flushX r ms cs).1.over.length ≤ cs.length
  | [], r, ms, h, hM => ⟨⟨h.sq, h.cq, h.cb, h.tail, h.sb, h.head⟩, hM, Nat.le_refl _⟩
  | c :: cs, r, ms, h, hM => by
    unfold flushX
    split
    · have h1 := flush_ok cs h.up (wrM_ok h hM c)
      exact ⟨h1.1, h1.2.1, Nat.le_succ_of_le h1.2.2⟩
    · exact ⟨⟨h.sq, h.cq, h.cb, h.tail, h.sb, h.head⟩, hM, Nat.le_refl _⟩
theorem ringWait {E : World} {l m : List As} {b mb : Nat} {v : Value} {r : Rg} {ms : List (List Int)} (hp : Picks [blk b 217 [.pointer (some ⟨mb, 0, none⟩), .int .i64 r.sq, .int .i64 r.cq, .int .i64 r.sb, .int .i64 r.cb, .int .u32 r.head, .int .u32 r.tail, v], memA mb ms] l m) (hR : RgOk r) (hM : MemOk ms) :
    Con Tryz.prog 46 #[.pointer (some ⟨b, 0, none⟩)] E l (fun _ : Unit => .tuple #[.int .i64 (rgWait r ms), .bool (rgWaitOk r ms)]) (fun _ => blk b 217 [.pointer (some ⟨mb, 0, none⟩), .int .i64 r.sq, .int .i64 r.cq, .int .i64 r.sb, .int .i64 r.cb, .int .u32 r.head, .int .u32 r.tail, v] :: memA mb ms :: m) := by
  refine Con.body (vs := [.pointer (some ⟨b, 0, none⟩)]) (n := 27) Tryz.func46 rfl rfl [(0, .pointer (some ⟨b, 0, none⟩))] (env_ok 1 rfl) <| J_picks2 hp ?_
  obtain ⟨hu, hxl, hB⟩ := hM.at hR.sq
  obtain ⟨x, hx⟩ : ∃ x, x = rowAt ms r.sq := ⟨_, rfl⟩
  obtain ⟨u, huq⟩ : ∃ u : Nat, r.sq = (u : Int) + 1 := ⟨(r.sq - 1).toNat, by have := hR.sq; omega⟩
  have hu1 : (r.sq - 1).toNat = u := by omega
  rw [← hx, hu1] at hu
  rw [← hx] at hxl hB
  have hsb := pow_sb hR.sb
  have hsr := hR.sb
  refine sr <| ag rfl rfl <| ag rfl rfl <| nq <| J_seq <| J_drawL none mixed <| ip 0 rfl rfl rfl rfl (p_move rfl) <| ip 1 rfl rfl rfl rfl (p_move rfl) ?_
  refine ip 2 rfl rfl rfl rfl (p_nilCheck rfl) <| ip 3 rfl rfl rfl rfl (p_fieldAddr rfl fa217_1) <| iv 4 rfl rfl rfl rfl (fun _ => v_load rfl ty3 HS (by exact rfl)) ?_
  refine J_slot (t := 10) (v := .int .i64 ((u : Int) + 1)) rfl (by rw [huq]) <| ip 6 rfl rfl rfl rfl (p_move rfl) <| ip 7 rfl rfl rfl rfl (p_nilCheck rfl) <| ip 8 rfl rfl rfl rfl (p_fieldAddr rfl fa217_5) <| iv 9 rfl rfl rfl rfl (fun _ => v_load rfl ty22 HS (by exact rfl)) ?_
  refine ip 11 rfl rfl rfl rfl (p_move rfl) <| ip 12 rfl rfl rfl rfl (p_nilCheck rfl) <| ip 13 rfl rfl rfl rfl (p_fieldAddr rfl fa217_3) <| iv 14 rfl rfl rfl rfl (fun _ => v_load rfl ty3 HS (by exact rfl)) ?_
  refine ip 15 rfl rfl rfl rfl (p_shl rfl rfl (by omega) (by have : (IntKind.u32.bits : Int) = 32 := rfl; omega)) <| J_slot (t := 21) (v := .int .u32 (2 ^ r.sb.toNat)) rfl (by rw [hsb.2.2]) <| i1 5 rfl <| xc fc95 (.cons rfl (.cons rfl (.cons rfl .nil))) rfl (ringWord (r := r) (ms := ms) (x := x) (u := u) (at_ := 4) PX (by omega) hM.len hu hxl hB) fun _ => ?_
  refine i1 10 rfl <| xc fc94 (.cons rfl (.cons rfl .nil)) rfl (distC) fun _ => J_slot (t := 16) (v := .int .u32 (rgNear r ms)) rfl (by unfold rgNear; rw [← hx]) <| ip 16 rfl rfl rfl rfl (p_assign rfl) <| ip 17 rfl rfl rfl rfl (p_assign rfl) <| i0 <| Q_then <| J_seq ?_
  refine sr <| mv rfl rfl <| mv rfl rfl <| L_pur rfl (p_gtr rfl rfl) <| nq ?_
  refine C_dec rfl (fun h24 => ?_) (fun h24 => ?_)
  have hno : rgWaitOk r ms = false := by unfold rgWaitOk; rw [decide_eq_true h24]; rfl
  have hwt : rgWait r ms = 0 := by unfold rgWait; rw [hno]; rfl
  refine sr <| ag rfl rfl <| ag rfl rfl <| nq <| J_ret <| Q_then_ret ?_
  refine J_return (()) Tryz.results46 (.tmp rfl (.tmp rfl .nil)) ?_ ?_
  · rw [hwt, hno]; rfl
  · exact SU
  have hok : rgWaitOk r ms = true := by unfold rgWaitOk; rw [decide_eq_false h24]; rfl
  have hwt : rgWait r ms = rgNear r ms := by unfold rgWait; rw [hok]; rfl
  have hnr := wrap32_in (getN (rowAt ms r.sq) 4 4 - r.head)
  have hnd : rgNear r ms = IntKind.u32.wrap (getN (rowAt ms r.sq) 4 4 - r.head) := rfl
  refine J_skip <| qx <| mv rfl rfl <| L_pur rfl (p_conv rfl Tryz.underlying22 Tryz.underlying3) <| J_slot (t := 26) (v := .int .i64 (rgNear r ms)) rfl (by rw [wrap64_of (by omega)]) <| ag rfl rfl <| ag rfl rfl <| nq ?_
  refine J_ret ?_
  refine J_return (()) Tryz.results46 (.tmp rfl (.tmp rfl .nil)) ?_ ?_
  · rw [hwt, hok]; rfl
  · exact SU
theorem ringValid {E : World} {l m : List As} {b mb : Nat} {v : Value} {r : Rg} {ms : List (List Int)} (hp : Picks [blk b 217 [.pointer (some ⟨mb, 0, none⟩), .int .i64 r.sq, .int .i64 r.cq, .int .i64 r.sb, .int .i64 r.cb, .int .u32 r.head, .int .u32 r.tail, v], memA mb ms] l m) (hR : RgOk r) (hM : MemOk ms) :
    Con Tryz.prog 88 #[.pointer (some ⟨b, 0, none⟩)] E l (fun _ : Unit => .bool (rgValid r ms)) (fun _ => blk b 217 [.pointer (some ⟨mb, 0, none⟩), .int .i64 r.sq, .int .i64 r.cq, .int .i64 r.sb, .int .i64 r.cb, .int .u32 r.head, .int .u32 r.tail, v] :: memA mb ms :: m) := by
  refine Con.body (vs := [.pointer (some ⟨b, 0, none⟩)]) (n := 21) Tryz.func88 rfl rfl [(0, .pointer (some ⟨b, 0, none⟩))] (env_ok 1 rfl) <| J_picks2 hp <| sr <| ag rfl rfl <| nx <| mv rfl rfl <| L_op <| xc fc46 (.cons rfl .nil) rfl (ringWait (r := r) (ms := ms) PX hR hM) fun _ => ?_
  refine mv rfl rfl <| L_pur rfl (p_extract rfl rfl) <| L_pur rfl (p_extract rfl rfl) <| ag rfl rfl <| ag rfl rfl <| nx <| mv rfl rfl <| L_op <| xc fc49 (.cons rfl .nil) rfl (ringRoom (r := r) (ms := ms) PX hR hM) fun _ => ?_
  refine mv rfl rfl <| L_pur rfl (p_extract rfl rfl) <| L_pur rfl (p_extract rfl rfl) <| ag rfl rfl <| ag rfl rfl <| nx <| mv rfl rfl <| mv rfl rfl ?_
  refine J_gsplit (t := 18) rfl (fun h18 => ?_) (fun h18 => ?_)
  refine L_op <| G_on rfl rfl rfl <| J_pur (p_move rfl) rfl rfl rfl <| L_pur rfl (p_pick_t rfl rfl) <| ag rfl rfl <| nq <| J_ret ?_
  refine J_return (()) Tryz.results88 (.tmp rfl .nil) ?_ ?_
  · first | rfl | (simp_all [one, rgValid, rgRoomOk]; done)
  · exact SU
  refine L_op <| G_off rfl rfl rfl rfl rfl rfl <| L_pur rfl (p_pick_f rfl rfl) <| ag rfl rfl <| nq <| J_ret ?_
  refine J_return (()) Tryz.results88 (.tmp rfl .nil) ?_ ?_
  · first | rfl | (simp_all [one, rgValid, rgRoomOk]; done)
  · exact SU
theorem ringFetch {E : World} {l m : List As} {b mb : Nat} {v0 : Value} {r : Rg} {ms : List (List Int)} (hp : Picks [blk b 217 [.pointer (some ⟨mb, 0, none⟩), .int .i64 r.sq, .int .i64 r.cq, .int .i64 r.sb, .int .i64 r.cb, .int .u32 r.head, .int .u32 r.tail, v0], memA mb ms] l m) {i : Nat} (hi : i ≤ 1000) (hR : RgOk r) (hM : MemOk ms) :
  Con Tryz.prog 135 #[.pointer (some ⟨b, 0, none⟩), .int .i64 (i : Int)] E l (fun v : Value => v) (fun v => row 5 1 v ((fetchB r ms i).map encU) :: blk b 217 [.pointer (some ⟨mb, 0, none⟩), .int .i64 r.sq, .int .i64 r.cq, .int .i64 r.sb, .int .i64 r.cb, .int .u32 r.head, .int .u32 r.tail, v0] :: memA mb ms :: m) := by
 refine Con.body (vs := [.pointer (some ⟨b, 0, none⟩), .int .i64 (i : Int)]) (n := 32) Tryz.func135 rfl rfl [(0, .pointer (some ⟨b, 0, none⟩)), (1, .int .i64 (i : Int))] (env_ok 2 rfl) <| J_picks2 hp ?_
 obtain ⟨hu, hxl, hB⟩ := hM.at hR.sq
 obtain ⟨x, hx⟩ : ∃ x, x = rowAt ms r.sq := ⟨_, rfl⟩
 obtain ⟨u, huq⟩ : ∃ u : Nat, r.sq = (u : Int) + 1 := ⟨(r.sq - 1).toNat, by have := hR.sq; omega⟩
 have hu1 : (r.sq - 1).toNat = u := by omega
 rw [← hx, hu1] at hu
 rw [← hx] at hxl hB
 have hsb := pow_sb hR.sb
 have hsr := hR.sb
 obtain ⟨h0, hh0⟩ : ∃ h0, h0 = IntKind.u32.wrap (r.head + IntKind.u32.wrap (i : Int)) := ⟨_, rfl⟩
 have hin := wrap32_in (r.head + IntKind.u32.wrap (i : Int))
 rw [← hh0] at hin
 have hms := mod_small (n := h0) (k := r.sb.toNat) (by omega)
 obtain ⟨off, hoff⟩ : ∃ off : Nat, 16 + h0 % 2 ^ r.sb.toNat * 32 = (off : Int) := ⟨(16 + h0 % 2 ^ r.sb.toNat * 32).toNat, by omega⟩
 have hm8 : h0 % 2 ^ r.sb.toNat ≤ 7 := by have := Int.emod_lt_of_pos h0 (b := 2 ^ r.sb.toNat) (by omega); omega
 refine sr <| ag rfl rfl <| nq <| J_seq <| J_drawL none mixed <| ip 0 rfl rfl rfl rfl (p_move rfl) <| ip 1 rfl rfl rfl rfl (p_nilCheck rfl) <| ip 2 rfl rfl rfl rfl (p_fieldAddr rfl fa217_0) ?_
 refine iv 3 rfl rfl rfl rfl (fun _ => v_load rfl ty75 HS (by exact rfl)) ?_
 refine ip 4 rfl rfl rfl rfl (p_move rfl) <| ip 5 rfl rfl rfl rfl (p_nilCheck rfl) <| ip 6 rfl rfl rfl rfl (p_fieldAddr rfl fa217_1) <| iv 7 rfl rfl rfl rfl (fun _ => v_load rfl ty3 HS (by exact rfl)) ?_
 refine J_slot (t := 15) (v := .int .i64 ((u : Int) + 1)) rfl (by rw [huq]) <| ip 8 rfl rfl rfl rfl (p_move rfl) <| ip 9 rfl rfl rfl rfl (p_nilCheck rfl) <| ip 10 rfl rfl rfl rfl (p_fieldAddr rfl fa217_5) <| iv 11 rfl rfl rfl rfl (fun _ => v_load rfl ty22 HS (by exact rfl)) ?_
 refine ip 12 rfl rfl rfl rfl (p_move rfl) <| ip 13 rfl rfl rfl rfl (p_conv rfl Tryz.underlying3 Tryz.underlying22) <| ip 14 rfl rfl rfl rfl (p_add rfl rfl) <| J_slot (t := 22) (v := .int .u32 h0) rfl (by rw [hh0]) <| ip 15 rfl rfl rfl rfl (p_move rfl) <| ip 16 rfl rfl rfl rfl (p_nilCheck rfl) <| ip 17 rfl rfl rfl rfl (p_fieldAddr rfl fa217_3) <| iv 18 rfl rfl rfl rfl (fun _ => v_load rfl ty3 HS (by exact rfl)) ?_
 refine J_slot (t := 26) (v := .int .i64 (r.sb.toNat : Int)) rfl (by rw [Int.toNat_of_nonneg hsr.1]) <| i1 19 rfl <| xc fc193 (.cons rfl (.cons rfl (.cons rfl .nil))) rfl (placeC (k := r.sb.toNat) (n := h0) (.inr rfl) (by omega) hin) fun _ => J_slot (t := 27) (v := .int .i64 (off : Int)) rfl (by rw [← hoff]) <| i1 20 rfl <| xc fc50 (.cons rfl (.cons rfl (.cons rfl (.cons rfl .nil)))) rfl (readC (ms := ms) (u := u) (off := off) (n := 32) PC hM.len hu hxl (by omega)) fun x28 => ?_
 refine ip 21 rfl rfl rfl rfl (p_move rfl) <| ip 22 rfl rfl rfl rfl (p_extract rfl rfl) <| ip 23 rfl rfl rfl rfl (p_extract rfl rfl) <| ip 24 rfl rfl rfl rfl (p_assign rfl) <| ip 25 rfl rfl rfl rfl (p_assign rfl) <| i0 <| qx <| mv rfl rfl ?_
 refine ag rfl rfl <| nq <| J_ret <| J_pick (A := row 5 1 x28 _) PC ?_
 refine J_rowEq (ys := (fetchB r ms i).map encU) (by unfold fetchB; rw [← hx, ← hh0, hoff, Int.toNat_natCast]) ?_
 exact J_return (x28) Tryz.results135 (.tmp rfl .nil) rfl SU
theorem ringAdv {E : World} {l m : List As} {b mb : Nat} {v : Value} {r : Rg} {ms : List (List Int)} (hp : Picks [blk b 217 [.pointer (some ⟨mb, 0, none⟩), .int .i64 r.sq, .int .i64 r.cq, .int .i64 r.sb, .int .i64 r.cb, .int .u32 r.head, .int .u32 r.tail, v], memA mb ms] l m) {n : Int} (hR : RgOk r) (hM : MemOk ms) :
  Con Tryz.prog 136 #[.pointer (some ⟨b, 0, none⟩), .int .i64 n] E l (fun _ : Unit => .tuple #[]) (fun _ => blk b 217 [.pointer (some ⟨mb, 0, none⟩), .int .i64 (advR r n).sq, .int .i64 (advR r n).cq, .int .i64 (advR r n).sb, .int .i64 (advR r n).cb, .int .u32 (advR r n).head, .int .u32 (advR r n).tail, v] :: memA mb (advM r ms n) :: m) := by
 refine Con.body (vs := [.pointer (some ⟨b, 0, none⟩), .int .i64 n]) (n := 23) Tryz.func136 rfl rfl [(0, .pointer (some ⟨b, 0, none⟩)), (1, .int .i64 n)] (env_ok 2 rfl) <| J_picks2 hp ?_
 obtain ⟨hu, hxl, hB⟩ := hM.at hR.sq
 obtain ⟨x, hx⟩ : ∃ x, x = rowAt ms r.sq := ⟨_, rfl⟩
 obtain ⟨u, huq⟩ : ∃ u : Nat, r.sq = (u : Int) + 1 := ⟨(r.sq - 1).toNat, by have := hR.sq; omega⟩
 have hu1 : (r.sq - 1).toNat = u := by omega
 rw [← hx, hu1] at hu
 rw [← hx] at hxl hB
 have hsb := pow_sb hR.sb
 have hsr := hR.sb
 refine sr <| mv rfl rfl <| nc rfl rfl <| fa rfl rfl fa217_5 <| L_val rfl (v_load rfl ty22 HS (by exact rfl)) ?_
 refine mv rfl rfl <| L_pur rfl (p_conv rfl Tryz.underlying3 Tryz.underlying22) <| L_pur rfl (p_add rfl rfl) <| nc rfl rfl <| fa rfl rfl fa217_5 <| L_op <| x_store rfl rfl ty22 rfl SM SM RO PT ?_
 refine J_pick (A := blk b _ _) PC ?_
 refine J_asTo (B := blk b 217 [.pointer (some ⟨mb, 0, none⟩), .int .i64 (advR r n).sq, .int .i64 (advR r n).cq, .int .i64 (advR r n).sb, .int .i64 (advR r n).cb, .int .u32 (advR r n).head, .int .u32 (advR r n).tail, v]) (by rfl) <| nq <| J_drawT 9 mixed (by kernel_rfl) <| sm rfl rfl <| sm rfl rfl <| sp rfl (p_nilCheck rfl) <| sp rfl (p_fieldAddr rfl fa217_1) <| S_val rfl (v_load rfl ty3 HS (by exact rfl)) ?_
 refine J_slot (t := 17) (v := .int .i64 ((u : Int) + 1)) rfl (by rw [← huq]; rfl) <| sm rfl rfl <| sp rfl (p_nilCheck rfl) <| sp rfl (p_fieldAddr rfl fa217_5) <| S_val rfl (v_load rfl ty22 HS (by exact rfl)) ?_
 refine S_nil <| L_op <| xc fc195 (.cons rfl (.cons rfl (.cons rfl (.cons rfl .nil)))) rfl (ringPuts (r := advR r n) (ms := ms) (x := x) (u := u) (n := (advR r n).head) (at_ := 0) PX (by omega) hM.len hu hxl) fun _ => ?_
 refine L_nil <| J_endnormal <| J_pick (A := memA mb _) PC ?_
 refine J_asTo (B := memA mb (advM r ms n)) (by unfold advM; rw [hu1, ← hx]) ?_
 exact J_return (()) Tryz.results136 .nil rfl SU
theorem delete134 {E : World} {l m : List As} {v : Value} {c : List Value} {xs : List (List Value)} (hp : Pick (row 93 4 v (c :: xs)) l m) :
  Con Tryz.prog 134 #[v, .int .i64 0, .int .i64 1] E l (fun v' : Value => v') (fun v' => row 93 4 v' xs :: m) := by
 refine Con.body (vs := [v, .int .i64 0, .int .i64 1]) (n := 33) Tryz.func134 rfl rfl [(0, v), (1, .int .i64 0), (2, .int .i64 1)] (env_ok 3 rfl) <| J_pick hp <| J_row .here fun hw a cap hv h1 h2 h3 => ?_
 obtain ⟨b, o, rfl⟩ := h3 (by simp)
 subst hv
 have hl : (c :: xs).length = xs.length + 1 := rfl
 have hm : cap ≤ 9223372036854775807 := h2
 refine sr <| ag rfl rfl <| nx <| mv rfl rfl <| mv rfl rfl <| mv rfl rfl <| mv rfl rfl <| L_pur rfl (p_len rfl Tryz.underlying88) ?_
 refine L_pur rfl (p_slice3 rfl Tryz.underlying88 ty93 rfl rfl rfl (by omega) (by omega) (by omega) (by omega)) <| nxx <| mv rfl rfl <| mv rfl rfl <| L_pur rfl (p_eql rfl rfl) <| nq <| J_bool (t := 16) (c := false) rfl (by decide) <| C_false rfl ?_
 refine J_skip <| qx <| mv rfl rfl <| L_pur rfl (p_len rfl Tryz.underlying88) <| ag rfl rfl <| nq <| J_seq <| J_drawT 6 mixed (by kernel_rfl) ?_
 refine sm rfl rfl <| sm rfl rfl <| sp rfl (p_slice rfl Tryz.underlying88 ty93 rfl rfl (by omega) (by omega) (by omega)) <| J_slot (t := 22) (v := .slice (some ⟨b, o, none⟩) 0 cap) rfl (by simp [Addr.add]) <| sm rfl rfl <| sm rfl rfl <| sp rfl (p_slice rfl Tryz.underlying88 ty93 rfl rfl (by omega) (by omega) (by omega)) <| S_nil ?_
 refine L_op <| x_appIn (ys := xs) (len := (c :: xs).length) rfl rfl Tryz.underlying88 ty93 PC (fun w H => (sep_reads HS H).drop (lo := 1) (by omega)) (by omega) rfl ?_
 refine ag rfl rfl <| nx <| mv rfl rfl <| mv rfl rfl <| L_pur rfl (p_len rfl Tryz.underlying88) <| mv rfl rfl <| L_pur rfl (p_slice rfl Tryz.underlying88 ty93 rfl rfl (by omega) (by omega) (by omega)) <| L_op <| x_clear (len := (c :: xs).length) rfl Tryz.underlying88 ty93 rfl rfl PC (by simp) ?_
 refine J_take (k := 0 + xs.length) (by simp) <| J_rowEq (ys := xs) (by simp) <| nx <| mv rfl rfl <| ag rfl rfl <| nq <| J_ret ?_
 exact J_return (_) Tryz.results134 (.tmp rfl .nil) rfl SU
theorem clone96 {E : World} {l : List As} {v : Value} {xs : List (List Value)} (hr : ∀ w, Sep E w l → Reads w 4 v xs) (hb : xs.length ≤ 1000000) :
    Con Tryz.prog 96 #[v] E l (fun v' : Value => v') (fun v' => row 93 4 v' xs :: l) := by
  refine Con.body (vs := [v]) (n := 8) Tryz.func96 rfl rfl [(0, v)] (env_ok 1 rfl) <| J_reads hr fun hw a cap hv h1 h2 h3 => ?_
  subst hv
  refine sr <| ag rfl rfl <| nxx <| mv rfl rfl <| L_pur rfl (p_eqnil Tryz.underlying88 rfl) <| nq ?_
  refine C_split rfl (fun h4 => ?_) (fun h4 => ?_)
  obtain rfl : a = none := by simpa using h4
  obtain ⟨rfl, rfl⟩ := h3 rfl
  refine J_nil (el := 93) (sz := 4) <| sr <| ag rfl rfl <| nq <| J_ret <| Q_then_ret ?_
  exact J_return (_) Tryz.results96 (.tmp rfl .nil) rfl SU
  refine J_skip <| qx <| L_op <| x_lit (vals := []) Tryz.underlying88 ty93 rfl .nil .nil Wf.nil rfl (by decide) rfl rfl <| JR fun a5 c5 hw5 hl5 hm5 hz5 => mv rfl rfl <| L_op <| x_app rfl rfl Tryz.underlying88 ty93 rfl rfl PC (fun w H => hr w H.tail) (OM) (OM) rfl ?_
  refine JR fun a7 c7 hw7 hl7 hm7 hz7 => ag rfl rfl <| nq <| J_ret ?_
  exact J_return (_) Tryz.results96 (.tmp rfl .nil) rfl SU
end Go.Pse
namespace Go.Pse
open Go.RowKit Go.Proofs
theorem rgaWait {E : World} {l m : List As} {b mb : Nat} {r : Rg} {ms : List (List Int)} (hp : Picks [rgA b mb r, memA mb ms] l m) (hR : RgOk r) (hM : MemOk ms) :
    Con Tryz.prog 46 #[.pointer (some ⟨b, 0, none⟩)] E l (fun _ : Unit => .tuple #[.int .i64 (rgWait r ms), .bool (rgWaitOk r ms)]) (fun _ => rgA b mb r :: memA mb ms :: m) := fun w H => by
  refine (?_ : Jk E l 0 [] fun _ w => Calls Tryz.prog 46 #[.pointer (some ⟨b, 0, none⟩)] w fun e w' => ∃ x, e = .returned ((fun _ : Unit => .tuple #[.int .i64 (rgWait r ms), .bool (rgWaitOk r ms)]) x) ∧ Sep E w' ((fun _ : Unit => rgA b mb r :: memA mb ms :: m) x)) w _ H fr0
  refine J_picks2 hp <| J_rgO fun v _ => J_con (ringWait (r := r) (ms := ms) PX hR hM) fun x => ?_
  refine J_pick (A := row 93 4 v _) PC ?_
  refine J_rowEq (ys := (r).over.map encX) (by rfl) <| J_rgS (b := b) (mb := mb) (r := r) v PX trivial ?_
  exact J_end SU
theorem rgaValid {E : World} {l m : List As} {b mb : Nat} {r : Rg} {ms : List (List Int)} (hp : Picks [rgA b mb r, memA mb ms] l m) (hR : RgOk r) (hM : MemOk ms) :
    Con Tryz.prog 88 #[.pointer (some ⟨b, 0, none⟩)] E l (fun _ : Unit => .bool (rgValid r ms)) (fun _ => rgA b mb r :: memA mb ms :: m) := fun w H => by
  refine (?_ : Jk E l 0 [] fun _ w => Calls Tryz.prog 88 #[.pointer (some ⟨b, 0, none⟩)] w fun e w' => ∃ x, e = .returned ((fun _ : Unit => .bool (rgValid r ms)) x) ∧ Sep E w' ((fun _ : Unit => rgA b mb r :: memA mb ms :: m) x)) w _ H fr0
  refine J_picks2 hp <| J_rgO fun v _ => J_con (ringValid (r := r) (ms := ms) PX hR hM) fun x => ?_
  refine J_pick (A := row 93 4 v _) PC ?_
  refine J_rowEq (ys := (r).over.map encX) (by rfl) <| J_rgS (b := b) (mb := mb) (r := r) v PX trivial ?_
  exact J_end SU
theorem rgaFetch {E : World} {l m : List As} {b mb : Nat} {r : Rg} {ms : List (List Int)} (hp : Picks [rgA b mb r, memA mb ms] l m) {i : Nat} (hi : i ≤ 1000) (hR : RgOk r) (hM : MemOk ms) :
    Con Tryz.prog 135 #[.pointer (some ⟨b, 0, none⟩), .int .i64 (i : Int)] E l (fun x : Value => x) (fun x => row 5 1 x ((fetchB r ms i).map encU) :: rgA b mb r :: memA mb ms :: m) := fun w H => by
  refine (?_ : Jk E l 0 [] fun _ w => Calls Tryz.prog 135 #[.pointer (some ⟨b, 0, none⟩), .int .i64 (i : Int)] w fun e w' => ∃ x, e = .returned ((fun x : Value => x) x) ∧ Sep E w' ((fun x : Value => row 5 1 x ((fetchB r ms i).map encU) :: rgA b mb r :: memA mb ms :: m) x)) w _ H fr0
  refine J_picks2 hp <| J_rgO fun v _ => J_con (ringFetch (r := r) (ms := ms) (i := i) PX hi hR hM) fun x => ?_
  refine J_pick (A := row 93 4 v _) PC ?_
  refine J_rowEq (ys := (r).over.map encX) (by rfl) <| J_rgS (b := b) (mb := mb) (r := r) v PX trivial ?_
  exact J_end SU
theorem rgaAdv {E : World} {l m : List As} {b mb : Nat} {r : Rg} {ms : List (List Int)} (hp : Picks [rgA b mb r, memA mb ms] l m) {n : Int} (hR : RgOk r) (hM : MemOk ms) :
    Con Tryz.prog 136 #[.pointer (some ⟨b, 0, none⟩), .int .i64 n] E l (fun _ : Unit => .tuple #[]) (fun _ => rgA b mb (advR r n) :: memA mb (advM r ms n) :: m) := fun w H => by
  refine (?_ : Jk E l 0 [] fun _ w => Calls Tryz.prog 136 #[.pointer (some ⟨b, 0, none⟩), .int .i64 n] w fun e w' => ∃ x, e = .returned ((fun _ : Unit => .tuple #[]) x) ∧ Sep E w' ((fun _ : Unit => rgA b mb (advR r n) :: memA mb (advM r ms n) :: m) x)) w _ H fr0
  refine J_picks2 hp <| J_rgO fun v _ => J_con (ringAdv (r := r) (ms := ms) (n := n) PX hR hM) fun x => ?_
  refine J_pick (A := row 93 4 v _) PC ?_
  refine J_rowEq (ys := ((advR r n)).over.map encX) (by rfl) <| J_rgS (b := b) (mb := mb) (r := (advR r n)) v PX trivial ?_
  exact J_end SU
theorem rgaOver {E : World} {l m : List As} {b mb : Nat} {r : Rg} (hp : Pick (rgA b mb r) l m) (hl : r.over.length ≤ 100000) :
    Con Tryz.prog 48 #[.pointer (some ⟨b, 0, none⟩)] E l (fun v : Value => v) (fun v => row 93 4 v (r.over.map encX) :: rgA b mb r :: m) := by
  refine Con.body (vs := [.pointer (some ⟨b, 0, none⟩)]) (n := 8) Tryz.func48 rfl rfl [(0, .pointer (some ⟨b, 0, none⟩))] (env_ok 1 rfl) <| J_pick hp <| J_rgO fun v _ => sr <| ag rfl rfl <| nx <| mv rfl rfl <| nc rfl rfl ?_
  refine fa rfl rfl fa217_7 <| L_val rfl (v_load rfl ty88 HS (by exact rfl)) ?_
  refine L_op <| xc fc96 (.cons rfl .nil) rfl (clone96 (xs := r.over.map encX) (fun w H => sep_reads (xs := r.over.map encX) HS H) (by simp; omega)) <| JR fun a7 c7 hw7 hl7 hm7 hz7 => ag rfl rfl <| nq <| J_ret <| J_rgS (b := b) (mb := mb) (r := r) v PX trivial ?_
  exact J_return (_) Tryz.results48 (.tmp rfl .nil) rfl SU
theorem rgaFlush {E : World} {l m : List As} {b mb : Nat} {r : Rg} {ms : List (List Int)} (hp : Picks [rgA b mb r, memA mb ms] l m) (hl : r.over.length ≤ 100000) (hR : RgOk r) (hM : MemOk ms) :
  Con Tryz.prog 89 #[.pointer (some ⟨b, 0, none⟩)] E l (fun x : Nat => .int .i64 (x : Int)) (fun x => rgA b mb (flushR r ms).1 :: memA mb (flushR r ms).2 :: m) := by
 refine Con.body (vs := [.pointer (some ⟨b, 0, none⟩)]) (n := 31) Tryz.func89 rfl rfl [(0, .pointer (some ⟨b, 0, none⟩))] (env_ok 1 rfl) <| J_picks2 hp <| J_rgO fun v _ => sr <| ag rfl rfl <| nx <| ag rfl rfl <| nq ?_
 refine J_seq <| J_block <| J_loop4 (fun j v r' ms' => j ≤ r.over.length ∧ RgOk r' ∧ MemOk ms' ∧ flushX r ms r.over = flushX r' ms' (r.over.drop j)) (fun (j : Nat) (v : Value) (r' : Rg) (ms' : List (List Int)) => blk b 217 [.pointer (some ⟨mb, 0, none⟩), .int .i64 r'.sq, .int .i64 r'.cq, .int .i64 r'.sb, .int .i64 r'.cb, .int .u32 r'.head, .int .u32 r'.tail, v] :: row 93 4 v ((r.over.drop j).map encX) :: memA mb ms' :: m) (fun j v r' ms' => [(3, .int .i64 (j : Int)), (0, .pointer (some ⟨b, 0, none⟩))]) (fun j v r' ms' => r.over.length - j) 0 v r ms ⟨by omega, hR, hM, rfl⟩ SU KE ?_
 intro j v r' ms' ⟨hj, hR', hM', hfx⟩
 refine J_row (.there .here) fun hw a cap hv h1 h2 h3 => ?_
 subst hv
 have hm : cap ≤ 9223372036854775807 := h2
 have hml : ((r.over.drop j).map encX).length = r.over.length - j := by simp
 refine J_seq <| sr <| mv rfl rfl <| nc rfl rfl <| fa rfl rfl fa217_7 <| L_val rfl (v_load rfl ty88 HS (by exact rfl)) ?_
 refine L_pur rfl (p_len rfl Tryz.underlying88) <| L_pur rfl (p_gtr rfl rfl) <| mv rfl rfl ?_
 refine J_gsplit (t := 10) rfl (fun h10 => ?_) (fun h10 => ?_)
 have hlt : j < r.over.length := by simp at h10; omega
 obtain ⟨bx, ox, rfl⟩ := h3 (by intro h; rw [h] at hml; simp at hml; omega)
 obtain ⟨c, hcc⟩ : ∃ c, r.over[j]? = some c := ⟨_, List.getElem?_eq_getElem hlt⟩
 have hc0 : (r.over.drop j)[0]? = some c := by rw [List.getElem?_drop]; exact hcc
 have hdj : r.over.drop j = c :: r.over.drop (j + 1) := by rw [List.drop_eq_getElem_cons hlt, (List.getElem?_eq_some_iff.1 hcc).2]
 refine L_op <| G_on rfl rfl rfl <| J_pur (p_move rfl) rfl rfl rfl <| L_op <| G_on rfl rfl rfl <| J_pur (p_move rfl) rfl rfl rfl <| L_op <| G_on rfl rfl rfl ?_
 refine J_pur (p_nilCheck rfl) rfl rfl rfl <| L_op <| G_on rfl rfl rfl <| J_pur (p_fieldAddr rfl fa217_7) rfl rfl rfl <| L_op <| G_on rfl rfl rfl <| J_val (v_load rfl ty88 HS (by exact rfl)) rfl rfl rfl ?_
 refine L_op <| G_on rfl rfl rfl <| J_pur (p_indexAddr rfl rfl Tryz.underlying88 ty93 (by omega) (by omega)) rfl rfl rfl <| L_op <| G_on rfl rfl rfl ?_
 refine J_val (v_loadE rfl ty93 HS (by show ((r.over.drop j).map encX)[0]? = _; rw [List.getElem?_map, hc0]; rfl)) rfl rfl rfl ?_
 refine L_op <| G_on rfl rfl rfl <| xc fc133 (.cons rfl (.cons rfl .nil)) rfl (ringWrites (c := c) (r := r') (ms := ms') PX hR' hM') fun _ => ?_
 refine L_pur rfl (p_pick_t rfl rfl) <| nq ?_
 refine C_split rfl (fun h19 => ?_) (fun h19 => ?_)
 refine J_pick (A := memA mb _) PC ?_
 refine J_asTo (B := memA mb (ms'.set (r'.cq - 1).toNat (rgRow r' ms' c))) (by rw [h19, if_pos rfl]) <| J_pick (A := blk b _ _) PC ?_
 refine J_asTo (B := blk b 217 [.pointer (some ⟨mb, 0, none⟩), .int .i64 (rgUp r').sq, .int .i64 (rgUp r').cq, .int .i64 (rgUp r').sb, .int .i64 (rgUp r').cb, .int .u32 (rgUp r').head, .int .u32 (rgUp r').tail, (.slice (some ⟨bx, ox, none⟩) ((r.over.drop j).map encX).length cap)]) (by rw [h19, if_pos rfl]) <| J_skip <| Q_then <| J_block <| sr <| mv rfl rfl <| mv rfl rfl <| nc rfl rfl ?_
 refine fa rfl rfl fa217_7 <| L_val rfl (v_load rfl ty88 HS (by exact rfl)) ?_
 refine J_pick (A := row 93 4 _ _) PC ?_
 refine J_rowEq (ys := encX c :: (r.over.drop (j + 1)).map encX) (by rw [hdj]; rfl) <| L_op <| xc fc134 (.cons rfl (.cons rfl (.cons rfl .nil))) rfl (delete134 (c := encX c) (xs := (r.over.drop (j + 1)).map encX) (by have e : ((r.over.drop j).map encX).length = (encX c :: (r.over.drop (j + 1)).map encX).length := by { rw [hdj]; rfl }; rw [e]; exact .here)) <| JR fun a25 c25 hw25 hl25 hm25 hz25 => nc rfl rfl <| fa rfl rfl fa217_7 <| L_op <| x_store rfl rfl ty88 rfl SM SM RO PT ?_
 refine ny <| mv rfl rfl <| L_pur rfl (p_add64 rfl rfl (by omega)) <| ag rfl rfl <| L_nil <| Q_blk_normal <| Q_then ?_
 exact J_again4 (j + 1) _ (rgUp r') (ms'.set (r'.cq - 1).toNat (rgRow r' ms' c)) (by omega) (⟨by omega, hR'.up, wrM_ok hR' hM' c, by rw [hfx, hdj, flushX, if_pos h19]⟩) SU KE
 have hno : rgWrOk r' ms' = false := h19
 have hfx2 : flushX r ms r.over = ({ r' with over := r.over.drop j }, ms') := by rw [hfx, hdj, flushX, hno]; rfl
 refine J_pick (A := memA mb _) PC ?_
 refine J_asTo (B := memA mb ms') (by rw [hno, if_neg (by decide)]) <| J_pick (A := blk b _ _) PC ?_
 refine J_asTo (B := blk b 217 [.pointer (some ⟨mb, 0, none⟩), .int .i64 r'.sq, .int .i64 r'.cq, .int .i64 r'.sb, .int .i64 r'.cb, .int .u32 r'.head, .int .u32 r'.tail, (.slice (some ⟨bx, ox, none⟩) ((r.over.drop j).map encX).length cap)]) (by rw [hno, if_neg (by decide)]) <| J_exit <| Q_then_exit <| Q_then_exit <| Q_blk_this <| Q_then <| J_seq <| J_rgS (b := b) (mb := mb) (r := { r' with over := r.over.drop j }) (.slice (some ⟨bx, ox, none⟩) ((r.over.drop j).map encX).length cap) PX trivial ?_
 refine J_asTo (B := rgA b mb (flushR r ms).1) (by rw [show flushR r ms = _ from hfx2]) <| J_pick (A := memA mb _) PC ?_
 refine J_asTo (B := memA mb (flushR r ms).2) (by rw [show flushR r ms = _ from hfx2]) <| J_region <| mv rfl rfl <| ag rfl rfl <| nq <| J_ret ?_
 exact J_return (j) Tryz.results89 (.tmp rfl .nil) rfl SU
 have hdn : r.over.drop j = [] := List.drop_eq_nil_of_le (by simp at h10; omega)
 have hfx2 : flushX r ms r.over = ({ r' with over := r.over.drop j }, ms') := by rw [hfx, hdn]; rfl
 refine L_op <| G_off rfl rfl rfl rfl rfl rfl <| L_op <| G_off rfl rfl rfl rfl rfl rfl <| L_op <| G_off rfl rfl rfl rfl rfl rfl <| L_op <| G_off rfl rfl rfl rfl rfl rfl ?_
 refine L_op <| G_off rfl rfl rfl rfl rfl rfl <| L_op <| G_off rfl rfl rfl rfl rfl rfl <| L_op <| G_off rfl rfl rfl rfl rfl rfl <| L_op <| G_off rfl rfl rfl rfl rfl rfl ?_
 refine L_pur rfl (p_pick_f rfl rfl) <| nq <| C_false rfl <| J_exit <| Q_then_exit <| Q_then_exit <| Q_blk_this <| Q_then ?_
 refine J_seq <| J_rgS (b := b) (mb := mb) (r := { r' with over := r.over.drop j }) (.slice a ((r.over.drop j).map encX).length cap) PX trivial ?_
 refine J_asTo (B := rgA b mb (flushR r ms).1) (by rw [show flushR r ms = _ from hfx2]) <| J_pick (A := memA mb _) PC ?_
 refine J_asTo (B := memA mb (flushR r ms).2) (by rw [show flushR r ms = _ from hfx2]) <| J_region <| mv rfl rfl <| ag rfl rfl <| nq <| J_ret ?_
 exact J_return (j) Tryz.results89 (.tmp rfl .nil) rfl SU
end Go.Pse
namespace Go.Pse
open Go.RowKit Go.Proofs
/-! ### plain: one object of the state is changed, all of them, those below a unit -/
section
variable {α : Type}
def updO (xs : List (Int × Nat × α)) (u : Int) (f : α → α) : List (Int × Nat × α) := xs.map fun x => if x.1 = u then (x.1, x.2.1, f x.2.2) else x
def mapTo (f : α → α) (k : Int) (xs : List (Int × Nat × α)) : List (Int × Nat × α) := xs.map fun x => if x.1 < k then (x.1, x.2.1, f x.2.2) else x
def allO (f : α → α) (xs : List (Int × Nat × α)) : List (Int × Nat × α) := xs.map fun x => (x.1, x.2.1, f x.2.2)
variable {xs : List (Int × Nat × α)} {u k : Int} {f : α → α}
theorem ptrs_updO : ptrs (updO xs u f) = ptrs xs := by
  unfold ptrs updO; rw [List.map_map]; refine List.map_congr_left fun x _ => ?_
  simp only [Function.comp]; split <;> rfl
theorem ptrs_mapTo : ptrs (mapTo f k xs) = ptrs xs := by
  unfold ptrs mapTo; rw [List.map_map]; refine List.map_congr_left fun x _ => ?_
  simp only [Function.comp]; split <;> rfl
theorem look_ptrs : ∀ {xs : List (Int × Nat × α)}, look (ptrs xs) u = (look xs u).map Prod.fst
  | [] => rfl
  | x :: xs => by
    show look ((x.1, x.2.1) :: ptrs xs) u = _
    rw [look_cons, look_cons, look_ptrs (xs := xs)]
    split <;> rfl
theorem look_got {b : Nat} (h : look (ptrs xs) u = some b) : ∃ a, look xs u = some (b, a) := by
  rw [look_ptrs] at h
  obtain ⟨⟨b', a⟩, h1, rfl⟩ := Option.map_eq_some_iff.1 h
  exact ⟨a, h1⟩
theorem look_is {b : Nat} {a : α} (h : look xs u = some (b, a)) : look (ptrs xs) u = some b := by rw [look_ptrs, h]; rfl
theorem look_ix {v : Nat × α} (h : look xs u = some v) : ∃ i : Nat, xs[i]? = some (u, v) := List.getElem?_of_mem (mem_look h)
theorem updO_set {i b : Nat} {a : α} (hK : Keyd (ptrs xs)) (hi : xs[i]? = some (u, b, a)) : updO xs u f = xs.set i (u, b, f a) := by
  have hl := (List.getElem?_eq_some_iff.1 hi).1
  refine List.ext_getElem? fun j => ?_
  unfold updO
  rw [List.getElem?_map, List.getElem?_set]
  by_cases hij : i = j
  · subst hij
    rw [hi, if_pos rfl, if_pos hl]; simp
  · rw [if_neg hij]
    cases hj : xs[j]? with
    | none => rfl
    | some x =>
      have : x.1 ≠ u := fun e => hij (by
        have hn : (xs.map Prod.fst).Nodup := by
          have e2 : (ptrs xs).map Prod.fst = xs.map Prod.fst := by unfold ptrs; rw [List.map_map]; rfl
          have hK' := hK
          unfold Keyd at hK'
          rw [e2] at hK'
          exact hK'
        exact nodup_idx hn (by rw [List.getElem?_map, hi]; rfl) (by rw [List.getElem?_map, hj]; exact congrArg some e))
      simp [this]
theorem mapTo_up : updO (mapTo f k xs) k f = mapTo f (k + 1) xs := by
  unfold updO mapTo
  rw [List.map_map]
  refine List.map_congr_left fun x _ => ?_
  simp only [Function.comp]
  by_cases h1 : x.1 < k
  · rw [if_pos h1, if_neg (by show ¬ x.1 = k; omega), if_pos (by omega)]
  · rw [if_neg h1]
    by_cases h2 : x.1 = k
    · rw [if_pos h2, if_pos (by omega)]
    · rw [if_neg h2, if_neg (by omega)]
theorem mapTo_no (h : look (ptrs xs) k = none) : mapTo f k xs = mapTo f (k + 1) xs := by
  unfold mapTo
  refine List.map_congr_left fun x hx => ?_
  have : x.1 ≠ k := fun e => look_none_iff.1 h (List.mem_map.2 ⟨(x.1, x.2.1), List.mem_map.2 ⟨x, hx, rfl⟩, e⟩)
  by_cases h1 : x.1 < k
  · rw [if_pos h1, if_pos (by omega)]
  · rw [if_neg h1, if_neg (by omega)]
theorem mapTo_one (h : ∀ x ∈ xs, 1 ≤ x.1 ∧ x.1 ≤ 64) : mapTo f 1 xs = xs := by
  unfold mapTo
  conv => rhs; rw [← List.map_id xs]
  refine List.map_congr_left fun x hx => ?_
  rw [if_neg (by have := h x hx; omega)]; rfl
theorem mapTo_all (h : ∀ x ∈ xs, 1 ≤ x.1 ∧ x.1 ≤ 64) : mapTo f 65 xs = allO f xs := by
  unfold mapTo allO
  refine List.map_congr_left fun x hx => ?_
  rw [if_pos (by have := h x hx; omega)]
theorem updO_mem {x : Int × Nat × α} (h : x ∈ updO xs u f) : ∃ y ∈ xs, x.1 = y.1 ∧ (x.2.2 = y.2.2 ∨ x.2.2 = f y.2.2) := by
  obtain ⟨y, hy, rfl⟩ := List.mem_map.1 h
  refine ⟨y, hy, ?_⟩
  split
  · exact ⟨rfl, .inr rfl⟩
  · exact ⟨rfl, .inl rfl⟩
theorem mapTo_mem {x : Int × Nat × α} (h : x ∈ mapTo f k xs) : ∃ y ∈ xs, x.1 = y.1 ∧ (x.2.2 = y.2.2 ∨ x.2.2 = f y.2.2) := by
  obtain ⟨y, hy, rfl⟩ := List.mem_map.1 h
  refine ⟨y, hy, ?_⟩
  split
  · exact ⟨rfl, .inr rfl⟩
  · exact ⟨rfl, .inl rfl⟩
end
def epD (i : ID) (a : List Msg × List Rcv) : List Msg × List Rcv := (mdrop a.1 i, rdrop a.2 i)
def ntD (i : ID) (a : Int × List ID) : Int × List ID := (a.1, ldrop a.2 i)
def rpD (i : ID) (a : ID × Bool) : ID × Bool := cDrop a i
def ntS (x : Int) (a : Int × List ID) : Int × List ID := (sigW a.1 a.2 x, sigL a.1 a.2 x)
structure Fits (s : KS) (N M : Nat) : Prop where
  n : N ≤ 90000
  mm : M ≤ 90000
  ids : Ids s.rt
  jn : s.jn.length + s.rt.length ≤ M
  tm : s.tm.length ≤ N
  ep : ∀ x ∈ s.ep, (1 ≤ x.1 ∧ x.1 ≤ 64) ∧ x.2.2.1.length ≤ N ∧ x.2.2.2.length ≤ N
  nt : ∀ x ∈ s.nt, (1 ≤ x.1 ∧ x.1 ≤ 64) ∧ x.2.2.2.length ≤ N
  rp : ∀ x ∈ s.rp, 1 ≤ x.1 ∧ x.1 ≤ 64
  rg : ∀ x ∈ s.rg, RgOk x.2.2 ∧ x.2.2.over.length + s.rt.length ≤ M
  mem : MemOk s.mem
def forTo (s : KS) (i : ID) (k : Int) : KS := { s with tm := tdrop s.tm i, ep := mapTo (epD i) k s.ep, nt := mapTo (ntD i) k s.nt, rp := mapTo (rpD i) k s.rp }
def kForget (s : KS) (i : ID) : KS := { s with tm := tdrop s.tm i, ep := allO (epD i) s.ep, nt := allO (ntD i) s.nt, rp := allO (rpD i) s.rp }
theorem forTo_one {s : KS} {N M : Nat} (h : Fits s N M) (i : ID) : forTo s i 1 = { s with tm := tdrop s.tm i } := by
  unfold forTo
  rw [mapTo_one fun x hx => (h.ep x hx).1, mapTo_one fun x hx => (h.nt x hx).1, mapTo_one h.rp]
theorem forTo_all {s : KS} {N M : Nat} (h : Fits s N M) (i : ID) : forTo s i 65 = kForget s i := by
  unfold forTo kForget
  rw [mapTo_all fun x hx => (h.ep x hx).1, mapTo_all fun x hx => (h.nt x hx).1, mapTo_all h.rp]
theorem Fits.forTo {s : KS} {N M : Nat} (h : Fits s N M) (i : ID) (k : Int) : Fits (forTo s i k) N M where
  n := h.n
  mm := h.mm
  ids := h.ids
  jn := h.jn
  tm := Nat.le_trans (List.length_filter_le _ _) h.tm
  ep := fun x hx => by
    obtain ⟨y, hy, h1, h2⟩ := mapTo_mem hx
    obtain ⟨g1, g2, g3⟩ := h.ep y hy
    rw [h1]
    rcases h2 with h2 | h2 <;> rw [h2]
    · exact ⟨g1, g2, g3⟩
    · exact ⟨g1, Nat.le_trans (List.length_filter_le _ _) g2, Nat.le_trans (List.length_filter_le _ _) g3⟩
  nt := fun x hx => by
    obtain ⟨y, hy, h1, h2⟩ := mapTo_mem hx
    obtain ⟨g1, g2⟩ := h.nt y hy
    rw [h1]
    rcases h2 with h2 | h2 <;> rw [h2]
    · exact ⟨g1, g2⟩
    · exact ⟨g1, Nat.le_trans (ldrop_len _ _) g2⟩
  rp := fun x hx => by
    obtain ⟨y, hy, h1, h2⟩ := mapTo_mem hx
    rw [h1]; exact h.rp y hy
  rg := h.rg
  mem := h.mem
theorem Fits.forget {s : KS} {N M : Nat} (h : Fits s N M) (i : ID) : Fits (kForget s i) N M := by rw [← forTo_all h]; exact h.forTo i 65
theorem Fits.jnl {s : KS} {N M : Nat} (h : Fits s N M) (hm : M + 1 ≤ 90000) (d : Deed) : Fits { s with jn := s.jn ++ [d] } N (M + 1) :=
  ⟨h.n, hm, h.ids, by have := h.jn; simp; omega, h.tm, h.ep, h.nt, h.rp, fun x hx => by have := h.rg x hx; exact ⟨this.1, by have := this.2; show _ + s.rt.length ≤ _; omega⟩, h.mem⟩
theorem del_less {κ υ : Type} [DecidableEq κ] {ps : List (κ × υ)} {i : κ} {q : υ} (h : look ps i = some q) : (del ps i).length + 1 ≤ ps.length := by
  have := List.length_filter_lt_length_iff_exists (p := fun p : κ × υ => !decide (p.1 = i)) (l := ps) |>.2 ⟨(i, q), mem_look h, by simp⟩
  unfold del; omega
theorem del_le {κ υ : Type} [DecidableEq κ] {ps : List (κ × υ)} {i : κ} : (del ps i).length ≤ ps.length := List.length_filter_le _ _
theorem Fits.drop {s : KS} {N M : Nat} (h : Fits s N (M + 1)) {i : ID} {q : Rq} (hq : look s.rt i = some q) : Fits { s with rt := del s.rt i } N M := by
  have hl := del_less hq
  exact ⟨h.n, by have := h.mm; omega, h.ids.del i, by have := h.jn; show s.jn.length + (del s.rt i).length ≤ M; omega, h.tm, h.ep, h.nt, h.rp, fun x hx => ⟨(h.rg x hx).1, by have := (h.rg x hx).2; show _ + (del s.rt i).length ≤ M; omega⟩, h.mem⟩
theorem Fits.rgUp {s : KS} {N M : Nat} (h : Fits s N M) (hm : M + 1 ≤ 90000) (u : Int) (r0 : Rg) (h0 : RgOk r0) (c : Cqe) : Fits { s with rg := updO s.rg u (fun r => postR r s.mem c), mem := postM r0 s.mem c } N (M + 1) :=
  ⟨h.n, hm, h.ids, by have := h.jn; show s.jn.length + s.rt.length ≤ _; omega, h.tm, h.ep, h.nt, h.rp, fun x hx => by
    obtain ⟨y, hy, h1, h2⟩ := updO_mem (show x ∈ updO s.rg u (fun r => postR r s.mem c) from hx)
    obtain ⟨g1, g2⟩ := h.rg y hy
    rcases h2 with h2 | h2 <;> rw [h2]
    · exact ⟨g1, by show _ + s.rt.length ≤ _; omega⟩
    · refine ⟨postR_ok g1 c, ?_⟩
      have : (postR y.2.2 s.mem c).over.length ≤ y.2.2.over.length + 1 := by unfold postR; split <;> simp [Go.Pse.rgUp]
      show _ + s.rt.length ≤ _
      omega, postM_ok h0 h.mem c⟩
theorem Fits.sig {s : KS} {N M : Nat} (h : Fits s N M) (u x : Int) : Fits { s with nt := updO s.nt u (ntS x) } N M :=
  ⟨h.n, h.mm, h.ids, h.jn, h.tm, h.ep, fun z hz => by
    obtain ⟨y, hy, h1, h2⟩ := updO_mem (show z ∈ updO s.nt u (ntS x) from hz)
    obtain ⟨g1, g2⟩ := h.nt y hy
    rw [h1]
    rcases h2 with h2 | h2 <;> rw [h2]
    · exact ⟨g1, g2⟩
    · exact ⟨g1, Nat.le_trans (sigL_len _ _ _) g2⟩, h.rp, h.rg, h.mem⟩
theorem J_keyd {κ υ : Type} [DecidableEq κ] {ek : κ → Value} {ev : υ → Value} {E : World} {l : List As} {n : Nat} {F : Env} {K : Act → World → Prop} {b : Nat} {ps : List (κ × υ)} (hh : Has (mapV ek ev (.map (some b)) ps) l) (k : Keyd ps → Jk E l n F K) : Jk E l n F K :=
  J_mapV hh (fun h _ => by cases h) (fun _ _ hk => k hk)
theorem coRqGet {E : World} {l m : List As} {p : Nat} {s : KS} (hp : Pick (coA p s) l m) {i : ID} :
    Con Tryz.prog 69 #[.pointer (some ⟨p, 10, none⟩), .agg (encI i).toArray] E l (fun _ : Unit => .tuple #[evQ ((look s.rt i).getD q00), .bool (look s.rt i).isSome]) (fun _ => coA p s :: m) := fun w H => by
  refine (?_ : Jk E l 0 [] fun _ w => Calls Tryz.prog 69 #[.pointer (some ⟨p, 10, none⟩), .agg (encI i).toArray] w fun e w' => ∃ x, e = .returned ((fun _ : Unit => .tuple #[evQ ((look s.rt i).getD q00), .bool (look s.rt i).isSome]) x) ∧ Sep E w' ((fun _ : Unit => coA p s :: m) x)) w _ H fr0
  refine J_pick hp <| J_coO fun bn be br bg bt bs bp bl bk _ => J_con (rtGetC (ps := s.rt) (i := i) PC) fun x => ?_
  refine J_coS (p := p) (s := s) bn be br bg bt bs bp bl bk PX trivial ?_
  exact J_end SU
theorem coRqDrop {E : World} {l m : List As} {p : Nat} {s : KS} (hp : Pick (coA p s) l m) {i : ID} :
    Con Tryz.prog 119 #[.pointer (some ⟨p, 10, none⟩), .agg (encI i).toArray] E l (fun _ : Unit => .bool (look s.rt i).isSome) (fun _ => coA p { s with rt := del s.rt i } :: m) := fun w H => by
  refine (?_ : Jk E l 0 [] fun _ w => Calls Tryz.prog 119 #[.pointer (some ⟨p, 10, none⟩), .agg (encI i).toArray] w fun e w' => ∃ x, e = .returned ((fun _ : Unit => .bool (look s.rt i).isSome) x) ∧ Sep E w' ((fun _ : Unit => coA p { s with rt := del s.rt i } :: m) x)) w _ H fr0
  refine J_pick hp <| J_coO fun bn be br bg bt bs bp bl bk _ => J_con (rtDropC (ps := s.rt) (i := i) PC) fun x => ?_
  refine J_coS (p := p) (s := { s with rt := del s.rt i }) bn be br bg bt bs bp bl bk PX trivial ?_
  exact J_end SU
theorem coRqAfter {E : World} {l m : List As} {p : Nat} {s : KS} (hp : Pick (coA p s) l m) {i : ID} (hI : Ids s.rt) (hb : s.rt.length ≤ 100000) :
    Con Tryz.prog 122 #[.pointer (some ⟨p, 10, none⟩), .agg (encI i).toArray] E l (fun _ : Unit => .tuple #[evQ ((afterQ s.rt i).getD q00), .bool (afterQ s.rt i).isSome]) (fun _ => coA p s :: m) := fun w H => by
  refine (?_ : Jk E l 0 [] fun _ w => Calls Tryz.prog 122 #[.pointer (some ⟨p, 10, none⟩), .agg (encI i).toArray] w fun e w' => ∃ x, e = .returned ((fun _ : Unit => .tuple #[evQ ((afterQ s.rt i).getD q00), .bool (afterQ s.rt i).isSome]) x) ∧ Sep E w' ((fun _ : Unit => coA p s :: m) x)) w _ H fr0
  refine J_pick hp <| J_coO fun bn be br bg bt bs bp bl bk _ => J_con (rtAfterC (ps := s.rt) (i := i) PC hI hb) fun x => ?_
  refine J_coS (p := p) (s := s) bn be br bg bt bs bp bl bk PX trivial ?_
  exact J_end SU
theorem coRqOf {E : World} {l m : List As} {p : Nat} {s : KS} (hp : Pick (coA p s) l m) {g : Int} (hI : Ids s.rt) (hb : s.rt.length ≤ 100000) :
    Con Tryz.prog 23 #[.pointer (some ⟨p, 10, none⟩), .int .i64 g] E l (fun x : Value => x) (fun x => row 122 13 x ((ofQ s.rt g).map encQ) :: coA p s :: m) := fun w H => by
  refine (?_ : Jk E l 0 [] fun _ w => Calls Tryz.prog 23 #[.pointer (some ⟨p, 10, none⟩), .int .i64 g] w fun e w' => ∃ x, e = .returned ((fun x : Value => x) x) ∧ Sep E w' ((fun x : Value => row 122 13 x ((ofQ s.rt g).map encQ) :: coA p s :: m) x)) w _ H fr0
  refine J_pick hp <| J_coO fun bn be br bg bt bs bp bl bk _ => J_con (rtOf (ps := s.rt) (g := g) PC hI hb) fun x => ?_
  refine J_coS (p := p) (s := s) bn be br bg bt bs bp bl bk PX trivial ?_
  exact J_end SU
theorem coRqAdd {E : World} {l m : List As} {p : Nat} {s : KS} (hp : Pick (coA p s) l m) {q : Rq} (hI : Ids s.rt) (hb : s.rt.length ≤ 100000) :
    Con Tryz.prog 64 #[.pointer (some ⟨p, 10, none⟩), .agg (encQ q).toArray] E l (fun _ : Unit => .bool (addOk s.rt q)) (fun _ => coA p { s with rt := addQ s.rt q } :: m) := fun w H => by
  refine (?_ : Jk E l 0 [] fun _ w => Calls Tryz.prog 64 #[.pointer (some ⟨p, 10, none⟩), .agg (encQ q).toArray] w fun e w' => ∃ x, e = .returned ((fun _ : Unit => .bool (addOk s.rt q)) x) ∧ Sep E w' ((fun _ : Unit => coA p { s with rt := addQ s.rt q } :: m) x)) w _ H fr0
  refine J_pick hp <| J_coO fun bn be br bg bt bs bp bl bk _ => J_con (rtAddC (ps := s.rt) (q := q) PC hI hb) fun x => ?_
  refine J_coS (p := p) (s := { s with rt := addQ s.rt q }) bn be br bg bt bs bp bl bk PX trivial ?_
  exact J_end SU
theorem coJAdd {E : World} {l m : List As} {p : Nat} {s : KS} (hp : Pick (coA p s) l m) {d : Deed} (hb : s.jn.length ≤ 200000) :
    Con Tryz.prog 174 #[.pointer (some ⟨p, 12, none⟩), .agg (encD d).toArray] E l (fun _ : Unit => .tuple #[]) (fun _ => coA p { s with jn := s.jn ++ [d] } :: m) := fun w H => by
  refine (?_ : Jk E l 0 [] fun _ w => Calls Tryz.prog 174 #[.pointer (some ⟨p, 12, none⟩), .agg (encD d).toArray] w fun e w' => ∃ x, e = .returned ((fun _ : Unit => .tuple #[]) x) ∧ Sep E w' ((fun _ : Unit => coA p { s with jn := s.jn ++ [d] } :: m) x)) w _ H fr0
  refine J_pick hp <| J_coO fun bn be br bg bt bs bp bl bk _ => J_con (jnlAdd (xs := s.jn) (d := d) PC hb) fun x => ?_
  refine J_coS (p := p) (s := { s with jn := s.jn ++ [d] }) bn be br bg bt bs bp bl bk PX trivial ?_
  exact J_end SU
theorem coJAll {E : World} {l m : List As} {p : Nat} {s : KS} (hp : Pick (coA p s) l m) (hb : s.jn.length ≤ 200000) :
    Con Tryz.prog 21 #[.pointer (some ⟨p, 12, none⟩)] E l (fun x : Value => x) (fun x => row 45 7 x (s.jn.map encD) :: coA p s :: m) := fun w H => by
  refine (?_ : Jk E l 0 [] fun _ w => Calls Tryz.prog 21 #[.pointer (some ⟨p, 12, none⟩)] w fun e w' => ∃ x, e = .returned ((fun x : Value => x) x) ∧ Sep E w' ((fun x : Value => row 45 7 x (s.jn.map encD) :: coA p s :: m) x)) w _ H fr0
  refine J_pick hp <| J_coO fun bn be br bg bt bs bp bl bk _ => J_con (jnlAll (xs := s.jn) PC hb) fun x => ?_
  refine J_coS (p := p) (s := s) bn be br bg bt bs bp bl bk PX trivial ?_
  exact J_end SU
theorem coTmDrop {E : World} {l m : List As} {p : Nat} {s : KS} (hp : Pick (coA p s) l m) {i : ID} (hb : s.tm.length ≤ 100000) :
    Con Tryz.prog 168 #[.pointer (some ⟨p, 11, none⟩), .agg (encI i).toArray] E l (fun _ : Unit => .bool (decide ((tdrop s.tm i).length < s.tm.length))) (fun _ => coA p { s with tm := tdrop s.tm i } :: m) := fun w H => by
  refine (?_ : Jk E l 0 [] fun _ w => Calls Tryz.prog 168 #[.pointer (some ⟨p, 11, none⟩), .agg (encI i).toArray] w fun e w' => ∃ x, e = .returned ((fun _ : Unit => .bool (decide ((tdrop s.tm i).length < s.tm.length))) x) ∧ Sep E w' ((fun _ : Unit => coA p { s with tm := tdrop s.tm i } :: m) x)) w _ H fr0
  refine J_pick hp <| J_coO fun bn be br bg bt bs bp bl bk _ => J_con (tmrDropC (xs := s.tm) (i := i) PC hb) fun x => ?_
  refine J_coS (p := p) (s := { s with tm := tdrop s.tm i }) bn be br bg bt bs bp bl bk PX trivial ?_
  exact J_end SU
theorem coEpDrop {E : World} {l m : List As} {p : Nat} {s : KS} (hp : Pick (coA p s) l m) {u : Int} {b : Nat} {out : List Msg} {inn : List Rcv} (hl : look s.ep u = some (b, out, inn)) (hbo : out.length ≤ 100000) (hbi : inn.length ≤ 100000) {i : ID} :
  Con Tryz.prog 169 #[.pointer (some ⟨b, 0, none⟩), .agg (encI i).toArray] E l (fun _ : Unit => .bool (decide ((mdrop out i).length + (rdrop inn i).length < out.length + inn.length))) (fun _ => coA p { s with ep := updO s.ep u (epD i) } :: m) := fun w H => by
 refine (?_ : Jk E l 0 [] fun _ w => Calls Tryz.prog 169 #[.pointer (some ⟨b, 0, none⟩), .agg (encI i).toArray] w fun e w' => ∃ x, e = .returned ((fun _ : Unit => .bool (decide ((mdrop out i).length + (rdrop inn i).length < out.length + inn.length))) x) ∧ Sep E w' ((fun _ : Unit => coA p { s with ep := updO s.ep u (epD i) } :: m) x)) w _ H fr0
 obtain ⟨j, hj⟩ := look_ix hl
 have hjl := (List.getElem?_eq_some_iff.1 hj).1
 refine J_pick hp <| J_coO fun bn be br bg bt bs bp bl bk _ => J_keyd (ps := ptrs s.ep) HS fun hK => ?_
 refine J_pick (A := each epF s.ep) PC ?_
 refine J_eachOut hj ?_
 skip
 refine J_asTo (B := epA b out inn) (by rfl) <| J_con (epDropC (out := out) (inn := inn) (i := i) PC hbo hbi) fun x => ?_
 refine J_pick (A := epA b (mdrop out i) (rdrop inn i)) PC ?_
 refine J_asTo (B := epF (u, b, ((epD i)) (out, inn))) (by rfl) <| J_pick (A := each epF _) PC ?_
 refine J_pick (A := epF (u, b, _)) PC ?_
 refine J_eachIn (u, b, ((epD i)) (out, inn)) hjl ?_
 skip
 refine J_asTo (B := each epF (updO s.ep u (epD i))) (by rw [updO_set hK hj]) <| J_pick (A := mapV kZ evA (.map (some be)) (ptrs s.ep)) PC ?_
 refine J_mapEq (qs := ptrs (updO s.ep u (epD i))) ptrs_updO.symm <| J_coS (p := p) (s := { s with ep := updO s.ep u (epD i) }) bn be br bg bt bs bp bl bk PX trivial ?_
 exact J_end SU
theorem coNtDrop {E : World} {l m : List As} {p : Nat} {s : KS} (hp : Pick (coA p s) l m) {u : Int} {b : Nat} {w0 : Int} {xs : List ID} (hl : look s.nt u = some (b, w0, xs)) (hb : xs.length ≤ 100000) {i : ID} :
  Con Tryz.prog 171 #[.pointer (some ⟨b, 0, none⟩), .agg (encI i).toArray] E l (fun _ : Unit => .bool (decide (i ∈ xs))) (fun _ => coA p { s with nt := updO s.nt u (ntD i) } :: m) := fun w H => by
 refine (?_ : Jk E l 0 [] fun _ w => Calls Tryz.prog 171 #[.pointer (some ⟨b, 0, none⟩), .agg (encI i).toArray] w fun e w' => ∃ x, e = .returned ((fun _ : Unit => .bool (decide (i ∈ xs))) x) ∧ Sep E w' ((fun _ : Unit => coA p { s with nt := updO s.nt u (ntD i) } :: m) x)) w _ H fr0
 obtain ⟨j, hj⟩ := look_ix hl
 have hjl := (List.getElem?_eq_some_iff.1 hj).1
 refine J_pick hp <| J_coO fun bn be br bg bt bs bp bl bk _ => J_keyd (ps := ptrs s.nt) HS fun hK => ?_
 refine J_pick (A := each ntF s.nt) PC ?_
 refine J_eachOut hj ?_
 skip
 refine J_asTo (B := ntA b 0 w0 xs) (by rfl) <| J_con (ntDropC (w := w0) (xs := xs) (i := i) PC hb) fun x => ?_
 refine J_pick (A := ntA b 0 w0 (ldrop xs i)) PC ?_
 refine J_asTo (B := ntF (u, b, ((ntD i)) (w0, xs))) (by rfl) <| J_pick (A := each ntF _) PC ?_
 refine J_pick (A := ntF (u, b, _)) PC ?_
 refine J_eachIn (u, b, ((ntD i)) (w0, xs)) hjl ?_
 skip
 refine J_asTo (B := each ntF (updO s.nt u (ntD i))) (by rw [updO_set hK hj]) <| J_pick (A := mapV kZ evA (.map (some bn)) (ptrs s.nt)) PC ?_
 refine J_mapEq (qs := ptrs (updO s.nt u (ntD i))) ptrs_updO.symm <| J_coS (p := p) (s := { s with nt := updO s.nt u (ntD i) }) bn be br bg bt bs bp bl bk PX trivial ?_
 exact J_end SU
theorem coNtSignal {E : World} {l m : List As} {p : Nat} {s : KS} (hp : Pick (coA p s) l m) {u : Int} {b : Nat} {w0 : Int} {xs : List ID} (hl : look s.nt u = some (b, w0, xs)) (hb : xs.length ≤ 100000) {z : Int} :
  Con Tryz.prog 178 #[.pointer (some ⟨b, 0, none⟩), .int .u32 z] E l (fun _ : Unit => .tuple #[.agg (encI (sigI w0 xs z)).toArray, .int .u32 (sigV w0 xs z), .bool (woke w0 xs z)]) (fun _ => coA p { s with nt := updO s.nt u (ntS z) } :: m) := fun w H => by
 refine (?_ : Jk E l 0 [] fun _ w => Calls Tryz.prog 178 #[.pointer (some ⟨b, 0, none⟩), .int .u32 z] w fun e w' => ∃ x, e = .returned ((fun _ : Unit => .tuple #[.agg (encI (sigI w0 xs z)).toArray, .int .u32 (sigV w0 xs z), .bool (woke w0 xs z)]) x) ∧ Sep E w' ((fun _ : Unit => coA p { s with nt := updO s.nt u (ntS z) } :: m) x)) w _ H fr0
 obtain ⟨j, hj⟩ := look_ix hl
 have hjl := (List.getElem?_eq_some_iff.1 hj).1
 refine J_pick hp <| J_coO fun bn be br bg bt bs bp bl bk _ => J_keyd (ps := ptrs s.nt) HS fun hK => ?_
 refine J_pick (A := each ntF s.nt) PC ?_
 refine J_eachOut hj ?_
 skip
 refine J_asTo (B := ntA b 0 w0 xs) (by rfl) <| J_con (ntSignal (w := w0) (xs := xs) (x := z) PC hb) fun x => ?_
 refine J_pick (A := ntA b 0 (sigW w0 xs z) (sigL w0 xs z)) PC ?_
 refine J_asTo (B := ntF (u, b, ((ntS z)) (w0, xs))) (by rfl) <| J_pick (A := each ntF _) PC ?_
 refine J_pick (A := ntF (u, b, _)) PC ?_
 refine J_eachIn (u, b, ((ntS z)) (w0, xs)) hjl ?_
 skip
 refine J_asTo (B := each ntF (updO s.nt u (ntS z))) (by rw [updO_set hK hj]) <| J_pick (A := mapV kZ evA (.map (some bn)) (ptrs s.nt)) PC ?_
 refine J_mapEq (qs := ptrs (updO s.nt u (ntS z))) ptrs_updO.symm <| J_coS (p := p) (s := { s with nt := updO s.nt u (ntS z) }) bn be br bg bt bs bp bl bk PX trivial ?_
 exact J_end SU
theorem coRpDrop {E : World} {l m : List As} {p : Nat} {s : KS} (hp : Pick (coA p s) l m) {u : Int} {b : Nat} {c : ID × Bool} (hl : look s.rp u = some (b, c)) {i : ID} :
  Con Tryz.prog 173 #[.pointer (some ⟨b, 0, none⟩), .agg (encI i).toArray] E l (fun _ : Unit => .bool (decide (c.2 = true ∧ c.1 = i))) (fun _ => coA p { s with rp := updO s.rp u (rpD i) } :: m) := fun w H => by
 refine (?_ : Jk E l 0 [] fun _ w => Calls Tryz.prog 173 #[.pointer (some ⟨b, 0, none⟩), .agg (encI i).toArray] w fun e w' => ∃ x, e = .returned ((fun _ : Unit => .bool (decide (c.2 = true ∧ c.1 = i))) x) ∧ Sep E w' ((fun _ : Unit => coA p { s with rp := updO s.rp u (rpD i) } :: m) x)) w _ H fr0
 obtain ⟨j, hj⟩ := look_ix hl
 have hjl := (List.getElem?_eq_some_iff.1 hj).1
 refine J_pick hp <| J_coO fun bn be br bg bt bs bp bl bk _ => J_keyd (ps := ptrs s.rp) HS fun hK => ?_
 refine J_pick (A := each rpF s.rp) PC ?_
 refine J_eachOut hj ?_
 skip
 refine J_asTo (B := rpA b c) (by rfl) <| J_con (rpDropC (c := c) (i := i) PC) fun x => ?_
 refine J_pick (A := rpA b (cDrop c i)) PC ?_
 refine J_asTo (B := rpF (u, b, ((rpD i)) (c))) (by rfl) <| J_pick (A := each rpF _) PC ?_
 refine J_pick (A := rpF (u, b, _)) PC ?_
 refine J_eachIn (u, b, ((rpD i)) (c)) hjl ?_
 skip
 refine J_asTo (B := each rpF (updO s.rp u (rpD i))) (by rw [updO_set hK hj]) <| J_pick (A := mapV kZ evA (.map (some br)) (ptrs s.rp)) PC ?_
 refine J_mapEq (qs := ptrs (updO s.rp u (rpD i))) ptrs_updO.symm <| J_coS (p := p) (s := { s with rp := updO s.rp u (rpD i) }) bn be br bg bt bs bp bl bk PX trivial ?_
 exact J_end SU
theorem coPost {E : World} {l m : List As} {p : Nat} {s : KS} (hp : Pick (coA p s) l m) {u : Int} {b : Nat} {r : Rg} {c : Cqe} (hl : look s.rg u = some (b, r)) (hb : r.over.length ≤ 100000) (hR : RgOk r) (hM : MemOk s.mem) :
  Con Tryz.prog 175 #[.pointer (some ⟨b, 0, none⟩), .agg (encX c).toArray] E l (fun _ : Unit => .bool (postOk r s.mem)) (fun _ => coA p { s with rg := updO s.rg u (fun r => postR r s.mem c), mem := postM r s.mem c } :: m) := fun w H => by
 refine (?_ : Jk E l 0 [] fun _ w => Calls Tryz.prog 175 #[.pointer (some ⟨b, 0, none⟩), .agg (encX c).toArray] w fun e w' => ∃ x, e = .returned ((fun _ : Unit => .bool (postOk r s.mem)) x) ∧ Sep E w' ((fun _ : Unit => coA p { s with rg := updO s.rg u (fun r => postR r s.mem c), mem := postM r s.mem c } :: m) x)) w _ H fr0
 obtain ⟨j, hj⟩ := look_ix hl
 have hjl := (List.getElem?_eq_some_iff.1 hj).1
 refine J_pick hp <| J_coO fun bn be br bg bt bs bp bl bk _ => J_keyd (ps := ptrs s.rg) HS fun hK => ?_
 refine J_pick (A := each (rgF s.mb) s.rg) PC ?_
 refine J_eachOut hj ?_
 skip
 refine J_asTo (B := rgA b s.mb r) (by rfl) <| J_con (ringPost (r := r) (ms := s.mem) (c := c) PX hb hR hM) fun x => ?_
 refine J_pick (A := rgA b s.mb (postR r s.mem c)) PC ?_
 refine J_asTo (B := (rgF s.mb) (u, b, ((fun r => postR r s.mem c)) (r))) (by rfl) <| J_pick (A := each (rgF s.mb) _) PC ?_
 refine J_pick (A := (rgF s.mb) (u, b, _)) PC ?_
 refine J_eachIn (u, b, ((fun r => postR r s.mem c)) (r)) hjl ?_
 skip
 refine J_asTo (B := each (rgF s.mb) (updO s.rg u (fun r => postR r s.mem c))) (by rw [updO_set hK hj]) <| J_pick (A := mapV kZ evA (.map (some bg)) (ptrs s.rg)) PC ?_
 refine J_mapEq (qs := ptrs (updO s.rg u (fun r => postR r s.mem c))) ptrs_updO.symm <| J_coS (p := p) (s := { s with rg := updO s.rg u (fun r => postR r s.mem c), mem := postM r s.mem c }) bn be br bg bt bs bp bl bk PX trivial ?_
 exact J_end SU
end Go.Pse
