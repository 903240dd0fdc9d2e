/-
  Whether rings are right: contracts.
-/
import Derived.Test.YthjgdlhkdjgjpaaGreatC40
import Derived.Test.YthjgdlhkdjgjpaaGreatC14
namespace Go.Pse
open Go.RowKit Go.Proofs

set_option maxRecDepth 100000 in
set_option maxHeartbeats 4000000 in
theorem clone50 {E : World} {l : List As} {v : Value} {xs : List (List Value)} (hr : ∀ w, Sep E w l → Reads w 4 v xs) (hb : xs.length ≤ 1000000) :
  Con Tryz.prog 50 #[v] E l (fun v' : Value => v') (fun v' => row 165 4 v' xs :: l) := by
 refine Con.body (vs := [v]) (n := 8) Tryz.func50 rfl rfl [(0, v)] (env_ok 1 rfl) <| J_reads hr fun hw a cap hv h1 h2 h3 => ?_
 subst hv
 refine sr <| ag rfl rfl <| nxx <| mv rfl rfl <| L_pur rfl (p_eqnil Tryz.underlying115 rfl) <| nq ?_
 refine C_split rfl (fun h4 => ?_) (fun h4 => ?_)
 ·
  obtain rfl : a = none := by simpa using h4
  obtain ⟨rfl, rfl⟩ := h3 rfl
  refine J_nil (el := 165) (sz := 4) <| sr <| ag rfl rfl <| nq <| J_ret <| Q_then_ret ?_
  exact J_return (_) Tryz.results50 (.tmp rfl .nil) rfl SU
 ·
  refine J_skip <| qx <| L_op <| x_lit (vals := []) Tryz.underlying115 ty165 rfl .nil .nil Wf.nil rfl (by decide) rfl rfl <| JR fun a5 c5 hw5 hl5 hm5 hz5 => mv rfl rfl <| L_op <| x_app rfl rfl Tryz.underlying115 ty165 rfl rfl PC (fun w H => hr w H.tail) (OM) (OM) rfl ?_
  refine JR fun a7 c7 hw7 hl7 hm7 hz7 => ag rfl rfl <| nq <| J_ret ?_
  exact J_return (_) Tryz.results50 (.tmp rfl .nil) rfl SU

set_option maxRecDepth 100000 in
set_option maxHeartbeats 4000000 in
theorem ringOver {E : World} {l m : List As} {b mb : Nat} {r : Rg} (hp : Pick (rgA b mb r) l m) (hl : r.over.length ≤ 1000000) :
    Con Tryz.prog 28 #[.pointer (some ⟨b, 0, none⟩)] E l (fun v : Value => v) (fun v => row 165 4 v (r.over.map encX) :: rgA b mb r :: m) := by
  refine Con.body (vs := [.pointer (some ⟨b, 0, none⟩)]) (n := 8) Tryz.func28 rfl rfl [(0, .pointer (some ⟨b, 0, none⟩))] (env_ok 1 rfl) <| J_pick hp <| J_rgO fun v _ => sr <| ag rfl rfl <| nx <| mv rfl rfl <| nc rfl rfl ?_
  refine fa rfl rfl fa167_7 <| L_val rfl (v_load rfl ty115 HS (by exact rfl)) ?_
  refine L_op <| x_call Tryz.func50 nm50 bd50 (.cons rfl .nil) rfl (clone50 (xs := r.over.map encX) (fun w H => sep_reads (xs := r.over.map encX) HS H) (by simpa using hl)) <| JR fun a7 c7 hw7 hl7 hm7 hz7 => ag rfl rfl <| nq <| J_ret <| J_rgS (b := b) (mb := mb) (r := r) _ PX trivial ?_
  exact J_return (_) Tryz.results28 (.tmp rfl .nil) rfl SU

set_option maxHeartbeats 4000000 in
theorem coTail {E : World} {l m : List As} {p : Nat} {s : KS} (hp : Pick (coA p s) l m) {u : Int} {b : Nat} {r : Rg} (hl : look s.rg u = some (b, r)) :
  Con Tryz.prog 29 #[.pointer (some ⟨b, 0, none⟩)] E l (fun _ : Unit => .int .u32 r.tail) (fun _ => coA p s :: m) := fun w H => by
 refine (?_ : Jk E l 0 [] fun _ w => Calls Tryz.prog 29 #[.pointer (some ⟨b, 0, none⟩)] w fun e w' => ∃ x, e = .returned ((fun _ : Unit => .int .u32 r.tail) x) ∧ Sep E w' ((fun _ : Unit => coA p s :: m) x)) w _ H fr0
 obtain ⟨j, hj⟩ := look_ix hl
 have hjl := (List.getElem?_eq_some_iff.1 hj).1
 refine J_pick hp <| J_coO fun bn be br bg bt bs bp bl bk _ => J_keyd (ps := ptrs s.rg) HS fun hK => ?_
 refine J_pick (A := each (rgF s.mb) s.rg) PC ?_
 refine J_eachOut hj ?_
 skip
 refine J_asTo (B := rgA b s.mb r) (by rfl) <| J_con (ringTail (r := r) PC) fun x => ?_
 refine J_pick (A := rgA b s.mb r) PC ?_
 refine J_asTo (B := (rgF s.mb) (u, b, r)) (by rfl) <| J_pick (A := each (rgF s.mb) _) PC ?_
 refine J_pick (A := (rgF s.mb) (u, b, _)) PC ?_
 refine J_eachIn (u, b, r) hjl ?_
 skip
 refine J_asTo (B := each (rgF s.mb) s.rg) (by rw [lset_same hj]) <| J_coS (p := p) (s := s) bn be br bg bt bs bp bl bk PX trivial ?_
 exact J_end SU
set_option maxHeartbeats 4000000 in
theorem coOver {E : World} {l m : List As} {p : Nat} {s : KS} (hp : Pick (coA p s) l m) {u : Int} {b : Nat} {r : Rg} (hl : look s.rg u = some (b, r)) (ho : r.over.length ≤ 1000000) :
  Con Tryz.prog 28 #[.pointer (some ⟨b, 0, none⟩)] E l (fun x : Value => x) (fun x => row 165 4 x (r.over.map encX) :: coA p s :: m) := fun w H => by
 refine (?_ : Jk E l 0 [] fun _ w => Calls Tryz.prog 28 #[.pointer (some ⟨b, 0, none⟩)] w fun e w' => ∃ x, e = .returned ((fun x : Value => x) x) ∧ Sep E w' ((fun x : Value => row 165 4 x (r.over.map encX) :: coA p s :: m) x)) w _ H fr0
 obtain ⟨j, hj⟩ := look_ix hl
 have hjl := (List.getElem?_eq_some_iff.1 hj).1
 refine J_pick hp <| J_coO fun bn be br bg bt bs bp bl bk _ => J_keyd (ps := ptrs s.rg) HS fun hK => ?_
 refine J_pick (A := each (rgF s.mb) s.rg) PC ?_
 refine J_eachOut hj ?_
 skip
 refine J_asTo (B := rgA b s.mb r) (by rfl) <| J_con (ringOver (r := r) PC ho) fun x => ?_
 refine J_pick (A := rgA b s.mb r) PC ?_
 refine J_asTo (B := (rgF s.mb) (u, b, r)) (by rfl) <| J_pick (A := each (rgF s.mb) _) PC ?_
 refine J_pick (A := (rgF s.mb) (u, b, _)) PC ?_
 refine J_eachIn (u, b, r) hjl ?_
 skip
 refine J_asTo (B := each (rgF s.mb) s.rg) (by rw [lset_same hj]) <| J_coS (p := p) (s := s) bn be br bg bt bs bp bl bk PX trivial ?_
 exact J_end SU
set_option maxHeartbeats 4000000 in
theorem coNtWaits {E : World} {l m : List As} {p : Nat} {s : KS} (hp : Pick (coA p s) l m) {u : Int} {b : Nat} {w0 : Int} {xs : List ID} (hl : look s.nt u = some (b, w0, xs)) (hb : xs.length ≤ 100000) :
  Con Tryz.prog 88 #[.pointer (some ⟨b, 0, none⟩)] E l (fun x : Value => x) (fun x => row 35 2 x (xs.map encI) :: coA p s :: m) := fun w H => by
 refine (?_ : Jk E l 0 [] fun _ w => Calls Tryz.prog 88 #[.pointer (some ⟨b, 0, none⟩)] w fun e w' => ∃ x, e = .returned ((fun x : Value => x) x) ∧ Sep E w' ((fun x : Value => row 35 2 x (xs.map encI) :: coA p s :: m) x)) w _ H fr0
 obtain ⟨j, hj⟩ := look_ix hl
 have hjl := (List.getElem?_eq_some_iff.1 hj).1
 refine J_pick hp <| J_coO fun bn be br bg bt bs bp bl bk _ => J_keyd (ps := ptrs s.nt) HS fun hK => ?_
 refine J_pick (A := each ntF s.nt) PC ?_
 refine J_eachOut hj ?_
 skip
 refine J_asTo (B := ntA b 0 w0 xs) (by rfl) <| J_con (ntWaits (w := w0) (xs := xs) PC hb) fun x => ?_
 refine J_pick (A := ntA b 0 w0 xs) PC ?_
 refine J_asTo (B := ntF (u, b, w0, xs)) (by rfl) <| J_pick (A := each ntF _) PC ?_
 refine J_pick (A := ntF (u, b, _)) PC ?_
 refine J_eachIn (u, b, w0, xs) hjl ?_
 skip
 refine J_asTo (B := each ntF s.nt) (by rw [lset_same hj]) <| J_coS (p := p) (s := s) bn be br bg bt bs bp bl bk PX trivial ?_
 exact J_end SU
set_option maxHeartbeats 4000000 in
theorem coRpCaller {E : World} {l m : List As} {p : Nat} {s : KS} (hp : Pick (coA p s) l m) {u : Int} {b : Nat} {c : ID × Bool} (hl : look s.rp u = some (b, c)) :
  Con Tryz.prog 90 #[.pointer (some ⟨b, 0, none⟩)] E l (fun _ : Unit => .tuple #[.agg (encI c.1).toArray, .bool c.2]) (fun _ => coA p s :: m) := fun w H => by
 refine (?_ : Jk E l 0 [] fun _ w => Calls Tryz.prog 90 #[.pointer (some ⟨b, 0, none⟩)] w fun e w' => ∃ x, e = .returned ((fun _ : Unit => .tuple #[.agg (encI c.1).toArray, .bool c.2]) x) ∧ Sep E w' ((fun _ : Unit => coA p s :: m) x)) w _ H fr0
 obtain ⟨j, hj⟩ := look_ix hl
 have hjl := (List.getElem?_eq_some_iff.1 hj).1
 refine J_pick hp <| J_coO fun bn be br bg bt bs bp bl bk _ => J_keyd (ps := ptrs s.rp) HS fun hK => ?_
 refine J_pick (A := each rpF s.rp) PC ?_
 refine J_eachOut hj ?_
 skip
 refine J_asTo (B := rpA b c) (by rfl) <| J_con (rpCaller (c := c) PC) fun x => ?_
 refine J_pick (A := rpA b c) PC ?_
 refine J_asTo (B := rpF (u, b, c)) (by rfl) <| J_pick (A := each rpF _) PC ?_
 refine J_pick (A := rpF (u, b, _)) PC ?_
 refine J_eachIn (u, b, c) hjl ?_
 skip
 refine J_asTo (B := each rpF s.rp) (by rw [lset_same hj]) <| J_coS (p := p) (s := s) bn be br bg bt bs bp bl bk PX trivial ?_
 exact J_end SU
set_option maxHeartbeats 4000000 in
theorem coEpSenders {E : World} {l m : List As} {p : Nat} {s : KS} (hp : Pick (coA p s) l m) {u : Int} {b : Nat} {out : List Msg} {inn : List Rcv} (hl : look s.ep u = some (b, out, inn)) (hbo : out.length ≤ 100000) (hbi : inn.length ≤ 100000) :
  Con Tryz.prog 85 #[.pointer (some ⟨b, 0, none⟩)] E l (fun x : Value => x) (fun x => row 212 5 x (out.map encM) :: coA p s :: m) := fun w H => by
 refine (?_ : Jk E l 0 [] fun _ w => Calls Tryz.prog 85 #[.pointer (some ⟨b, 0, none⟩)] w fun e w' => ∃ x, e = .returned ((fun x : Value => x) x) ∧ Sep E w' ((fun x : Value => row 212 5 x (out.map encM) :: coA p s :: m) x)) w _ H fr0
 obtain ⟨j, hj⟩ := look_ix hl
 have hjl := (List.getElem?_eq_some_iff.1 hj).1
 refine J_pick hp <| J_coO fun bn be br bg bt bs bp bl bk _ => J_keyd (ps := ptrs s.ep) HS fun hK => ?_
 refine J_pick (A := each epF s.ep) PC ?_
 refine J_eachOut hj ?_
 skip
 refine J_asTo (B := epA b out inn) (by rfl) <| J_con (epSenders (out := out) (inn := inn) PC hbo hbi) fun x => ?_
 refine J_pick (A := epA b out inn) PC ?_
 refine J_asTo (B := epF (u, b, out, inn)) (by rfl) <| J_pick (A := each epF _) PC ?_
 refine J_pick (A := epF (u, b, _)) PC ?_
 refine J_eachIn (u, b, out, inn) hjl ?_
 skip
 refine J_asTo (B := each epF s.ep) (by rw [lset_same hj]) <| J_coS (p := p) (s := s) bn be br bg bt bs bp bl bk PX trivial ?_
 exact J_end SU
set_option maxHeartbeats 4000000 in
theorem coEpReceivers {E : World} {l m : List As} {p : Nat} {s : KS} (hp : Pick (coA p s) l m) {u : Int} {b : Nat} {out : List Msg} {inn : List Rcv} (hl : look s.ep u = some (b, out, inn)) (hbo : out.length ≤ 100000) (hbi : inn.length ≤ 100000) :
  Con Tryz.prog 86 #[.pointer (some ⟨b, 0, none⟩)] E l (fun x : Value => x) (fun x => row 214 3 x (inn.map encR) :: coA p s :: m) := fun w H => by
 refine (?_ : Jk E l 0 [] fun _ w => Calls Tryz.prog 86 #[.pointer (some ⟨b, 0, none⟩)] w fun e w' => ∃ x, e = .returned ((fun x : Value => x) x) ∧ Sep E w' ((fun x : Value => row 214 3 x (inn.map encR) :: coA p s :: m) x)) w _ H fr0
 obtain ⟨j, hj⟩ := look_ix hl
 have hjl := (List.getElem?_eq_some_iff.1 hj).1
 refine J_pick hp <| J_coO fun bn be br bg bt bs bp bl bk _ => J_keyd (ps := ptrs s.ep) HS fun hK => ?_
 refine J_pick (A := each epF s.ep) PC ?_
 refine J_eachOut hj ?_
 skip
 refine J_asTo (B := epA b out inn) (by rfl) <| J_con (epReceivers (out := out) (inn := inn) PC hbo hbi) fun x => ?_
 refine J_pick (A := epA b out inn) PC ?_
 refine J_asTo (B := epF (u, b, out, inn)) (by rfl) <| J_pick (A := each epF _) PC ?_
 refine J_pick (A := epF (u, b, _)) PC ?_
 refine J_eachIn (u, b, out, inn) hjl ?_
 skip
 refine J_asTo (B := each epF s.ep) (by rw [lset_same hj]) <| J_coS (p := p) (s := s) bn be br bg bt bs bp bl bk PX trivial ?_
 exact J_end SU
theorem coJCounts {E : World} {l m : List As} {p : Nat} {s : KS} (hp : Pick (coA p s) l m) {r : Int} (hb : s.jn.length ≤ 200000) :
    Con Tryz.prog 23 #[.pointer (some ⟨p, 12, none⟩), .int .i64 r] E l (fun _ : Unit => .tuple #[.int .i64 (dOf s r), .int .i64 ((jWent s.jn r : Nat) : Int)]) (fun _ => coA p s :: m) := fun w H => by
  refine (?_ : Jk E l 0 [] fun _ w => Calls Tryz.prog 23 #[.pointer (some ⟨p, 12, none⟩), .int .i64 r] w fun e w' => ∃ x, e = .returned ((fun _ : Unit => .tuple #[.int .i64 (dOf s r), .int .i64 ((jWent s.jn r : Nat) : Int)]) x) ∧ Sep E w' ((fun _ : Unit => coA p s :: m) x)) w _ H fr0
  refine J_pick hp <| J_coO fun bn be br bg bt bs bp bl bk _ => J_con (jnlCounts (xs := s.jn) (r := r) PC hb) fun x => ?_
  refine J_coS (p := p) (s := s) bn be br bg bt bs bp bl bk PX trivial ?_
  exact J_end SU
set_option maxRecDepth 100000 in
set_option maxHeartbeats 4000000 in
theorem coCount {E : World} {l m : List As} {p : Nat} {s : KS} (hp : Pick (coA p s) l m) {r : Int} (hb : s.jn.length ≤ 200000) (hI : Ids s.rt) (hrb : s.rt.length ≤ 100000) :
    Con Tryz.prog 12 #[.pointer (some ⟨p, 0, none⟩), .int .i64 r] E l (fun _ : Unit => .tuple #[.int .i64 ((look s.tk r).getD 0), .int .i64 (dOf s r), .int .i64 ((ofQ s.rt r).length : Int), .int .i64 ((jWent s.jn r : Nat) : Int)]) (fun _ => coA p s :: m) := by
  refine Con.body (vs := [.pointer (some ⟨p, 0, none⟩), .int .i64 r]) (n := 27) Tryz.func12 rfl rfl [(0, .pointer (some ⟨p, 0, none⟩)), (1, .int .i64 r)] (env_ok 2 rfl) <| J_pick hp <| sr <| ag rfl rfl <| ag rfl rfl <| ag rfl rfl <| ag rfl rfl <| nx ?_
  refine mv rfl rfl <| L_op <| x_call Tryz.func7 nm7 bd7 (.cons rfl .nil) rfl (coJournal) fun _ => mv rfl rfl <| L_op <| x_call Tryz.func23 nm23 bd23 (.cons rfl (.cons rfl .nil)) rfl (coJCounts (s := s) (r := r) PC hb) fun _ => ?_
  refine mv rfl rfl <| L_pur rfl (p_extract rfl rfl) <| L_pur rfl (p_extract rfl rfl) <| ag rfl rfl <| ag rfl rfl <| nx <| mv rfl rfl <| mv rfl rfl ?_
  refine L_op <| x_call Tryz.func24 nm24 bd24 (.cons rfl (.cons rfl .nil)) rfl (coTaken (s := s) (r := r) PC) fun _ => ?_
  refine mv rfl rfl <| mv rfl rfl <| L_op <| x_call Tryz.func8 nm8 bd8 (.cons rfl .nil) rfl (coReqs) fun _ => mv rfl rfl <| L_op <| x_call Tryz.func25 nm25 bd25 (.cons rfl (.cons rfl .nil)) rfl (coRqOf (s := s) (g := r) PC hI hrb) <| JR fun a24 c24 hw24 hl24 hm24 hz24 => ?_
  refine L_pur rfl (p_len rfl Tryz.underlying110) <| mv rfl rfl <| ag rfl rfl <| ag rfl rfl <| ag rfl rfl <| ag rfl rfl <| nq <| J_ret ?_
  refine J_return (()) Tryz.results12 (.tmp rfl (.tmp rfl (.tmp rfl (.tmp rfl .nil)))) ?_ ?_
  · simp [one]
  · exact SU

theorem sortZ_mem {xs : List Int} {a : Int} : a ∈ sortZ xs ↔ a ∈ xs := (List.mergeSort_perm xs _).mem_iff
theorem ring_got {α : Type} {xs : List (Int × Nat × α)} {u : Int} (h : u ∈ xs.map Prod.fst) : ∃ b a, look xs u = some (b, a) := by
  cases hl : look xs u with
  | none => exact absurd h (look_none_iff.1 hl)
  | some v => exact ⟨v.1, v.2, rfl⟩
theorem ringOk_is {s : KS} {u : Int} {b : Nat} {r : Rg} (h : look s.rg u = some (b, r)) : ringOk s u = (decide ((look s.tk u).getD 0 = dOf s u + (ofQ s.rt u).length + (jWent s.jn u : Nat)) && decide (r.over.length ≤ 24) && decide (r.tail + r.over.length = dOf s u)) := by
  unfold ringOk; rw [h]
theorem all_take {α : Type} {p : α → Bool} {xs : List α} {k : Nat} {c : α} (h : xs[k]? = some c) (h0 : ∀ c ∈ xs.take k, p c = true) (hc : p c = true) : ∀ c ∈ xs.take (k + 1), p c = true := fun d hd => by
  rw [List.take_add_one, h] at hd
  rcases List.mem_append.1 hd with h1 | h1
  · exact h0 d h1
  · rw [List.mem_singleton.1 h1]; exact hc
theorem dOf_le (s : KS) (r : Int) : 0 ≤ dOf s r ∧ dOf s r ≤ s.jn.length ∧ (jWent s.jn r : Nat) ≤ s.jn.length := by
  have h1 := jWent_le s.jn r
  have h2 := jOf_len s.jn r
  unfold dOf
  omega
set_option maxRecDepth 100000 in
set_option maxHeartbeats 4000000 in
theorem coRingsOk {E : World} {l m : List As} {p : Nat} {s : KS} (hp : Pick (coA p s) l m) (hb : s.jn.length ≤ 200000) (hI : Ids s.rt) (hrb : s.rt.length ≤ 100000) (hg : s.rg.length ≤ 1000) (hok : ∀ x ∈ s.rg, 0 ≤ x.2.2.tail ∧ x.2.2.tail < 4294967296 ∧ x.2.2.over.length ≤ 1000000) :
    Con Tryz.prog 13 #[.pointer (some ⟨p, 0, none⟩)] E l (fun _ : Unit => .bool (kRingsOk s)) (fun _ => coA p s :: m) := by
  refine Con.body (vs := [.pointer (some ⟨p, 0, none⟩)]) (n := 53) Tryz.func13 rfl rfl [(0, .pointer (some ⟨p, 0, none⟩))] (env_ok 1 rfl) <| J_pick hp <| sr <| ag rfl rfl <| nxx <| mv rfl rfl <| L_op <| x_call Tryz.func26 nm26 bd26 (.cons rfl .nil) rfl (coRings (s := s) PC hg) ?_
  refine JR fun a12 c12 hw12 hl12 hm12 hz12 => ?_
  obtain ⟨xs, hxs⟩ : ∃ xs, xs = sortZ (s.rg.map Prod.fst) := ⟨_, rfl⟩
  refine J_pick (A := row 3 1 _ _) PC ?_
  refine J_rowTo (ys := xs.map encN) (v' := .slice a12 (xs.map encN).length c12) (by rw [hxs]) (by rw [hxs]) <| J_slot (t := 12) (v := .slice a12 (xs.map encN).length c12) rfl (by rw [hxs]) ?_
  rw [← hxs] at hz12
  have hmcap : c12 ≤ 9223372036854775807 := hm12
  have hml : (xs.map encN).length = xs.length := List.length_map _
  have hxl : xs.length ≤ 1000 := by rw [hxs, sortZ_len, List.length_map]; exact hg
  have hmem : ∀ c ∈ xs, c ∈ s.rg.map Prod.fst := fun c hc => by rw [hxs] at hc; exact sortZ_mem.1 hc
  refine L_pur rfl (p_len rfl Tryz.underlying22) <| mv rfl rfl <| nq <| J_block <| J_loop (α := Nat) (fun k => k ≤ xs.length ∧ ∀ c ∈ xs.take k, ringOk s c = true) (fun k => row 3 1 (.slice a12 (xs.map encN).length c12) (xs.map encN) :: coA p s :: m) (fun k => [(14, .int .i64 (k : Int)), (12, .slice a12 (xs.map encN).length c12), (13, .int .i64 ((xs.map encN).length : Int)), (0, .pointer (some ⟨p, 0, none⟩))]) (fun k => xs.length - k) 0 ⟨by omega, by simp⟩ SU KE ?_
  intro k hk
  obtain ⟨hk, h0⟩ := hk
  refine sr <| L_pur rfl (p_lss rfl rfl) <| nq <| J_seq ?_
  refine C_dec rfl (fun h15 => ?_) (fun h15 => ?_)
  ·
    have hlt : k < xs.length := by omega
    obtain ⟨bx, ox, rfl⟩ := hz12 (by intro h; rw [h] at hml; simp at hml; omega)
    obtain ⟨c, hcc⟩ : ∃ c, xs[k]? = some c := ⟨_, List.getElem?_eq_getElem hlt⟩
    obtain ⟨b, r, hbr⟩ := ring_got (hmem c (List.mem_of_getElem? hcc))
    have hrk := ringOk_is hbr
    obtain ⟨ht0, ht1, hol⟩ : 0 ≤ r.tail ∧ r.tail < 4294967296 ∧ r.over.length ≤ 1000000 := hok _ (mem_look hbr)
    have hdl := dOf_le s c
    have hofl := ofQ_len s.rt c
    refine J_skip <| Q_then <| J_seq <| J_block <| sr <| L_pur rfl (p_indexAddr rfl rfl Tryz.underlying22 ty3 (by omega) (by omega)) ?_
    refine L_val rfl (v_loadE1 rfl ty3 HS (by first | (simp only [Int.toNat_natCast, List.getElem?_map, hcc]; rfl) | (simp only [Int.toNat_natCast, List.getElem?_map, hcd]; rfl) | simp | rfl)) ?_
    refine ag rfl rfl <| nx <| mv rfl rfl <| mv rfl rfl <| L_op <| x_call Tryz.func27 nm27 bd27 (.cons rfl (.cons rfl .nil)) rfl (coRing (s := s) (u := c) PC) fun _ => ?_
    refine J_slot (t := 20) (v := .pointer (some ⟨b, 0, none⟩)) rfl (by rw [look_is hbr]; rfl) <| ag rfl rfl <| nx <| mv rfl rfl <| mv rfl rfl <| L_op <| x_call Tryz.func12 nm12 bd12 (.cons rfl (.cons rfl .nil)) rfl (coCount (s := s) (r := c) PC hb hI hrb) fun _ => ?_
    refine mv rfl rfl <| L_pur rfl (p_extract rfl rfl) <| L_pur rfl (p_extract rfl rfl) <| L_pur rfl (p_extract rfl rfl) <| L_pur rfl (p_extract rfl rfl) <| ag rfl rfl <| ag rfl rfl <| ag rfl rfl ?_
    refine ag rfl rfl <| nx <| mv rfl rfl <| L_op <| x_call Tryz.func28 nm28 bd28 (.cons rfl .nil) rfl (coOver (s := s) (u := c) PC hbr hol) <| JR fun a30 c30 hw30 hl30 hm30 hz30 => L_pur rfl (p_len rfl Tryz.underlying115) <| J_slot (t := 31) (v := .int .i64 (r.over.length : Int)) rfl (by rw [List.length_map]) ?_
    refine ag rfl rfl <| nx <| mv rfl rfl <| mv rfl rfl <| mv rfl rfl <| L_pur rfl (p_add64 rfl rfl (by omega)) <| mv rfl rfl <| L_pur rfl (p_add64 rfl rfl (by omega)) ?_
    refine L_pur rfl (p_neq rfl rfl) <| mv rfl rfl ?_
    refine J_gsplit (t := 39) rfl (fun h39 => ?_) (fun h39 => ?_)
    ·
      have hno : ringOk s c = false := by rw [hrk]; simp at h39; simp [h39]
      refine L_op <| G_off rfl rfl rfl rfl rfl rfl <| L_op <| G_off rfl rfl rfl rfl rfl rfl <| L_pur rfl (p_pick_t rfl rfl) <| mv rfl rfl <| L_op <| G_off rfl rfl rfl rfl rfl rfl ?_
      refine L_op <| G_off rfl rfl rfl rfl rfl rfl <| L_op <| G_off rfl rfl rfl rfl rfl rfl <| L_op <| G_off rfl rfl rfl rfl rfl rfl <| L_op <| G_off rfl rfl rfl rfl rfl rfl ?_
      refine L_op <| G_off rfl rfl rfl rfl rfl rfl <| L_op <| G_off rfl rfl rfl rfl rfl rfl <| L_pur rfl (p_pick_t rfl rfl) <| nq <| C_true rfl <| sr ?_
      refine ag rfl rfl <| nq <| J_ret <| Q_blk_ret <| Q_then_ret <| Q_then_ret <| Q_blk_ret <| Q_then_ret ?_
      refine J_return (()) Tryz.results13 (.tmp rfl .nil) ?_ ?_
      · have hbad : kRingsOk s = false := by
          unfold kRingsOk; rw [← hxs, List.all_eq_false]
          exact ⟨c, List.mem_of_getElem? hcc, by simp [hno]⟩
        simp [one, hbad]
      · exact SU
    ·
      refine L_op <| G_on rfl rfl rfl <| J_pur (p_move rfl) rfl rfl rfl <| L_op <| G_on rfl rfl rfl <| J_pur (p_gtr rfl rfl) rfl rfl rfl <| L_pur rfl (p_pick_f rfl rfl) <| mv rfl rfl ?_
      refine J_gsplit (t := 43) rfl (fun h43 => ?_) (fun h43 => ?_)
      ·
        have hno : ringOk s c = false := by rw [hrk]; simp at h39 h43; simp [h39]; omega
        refine L_op <| G_off rfl rfl rfl rfl rfl rfl <| L_op <| G_off rfl rfl rfl rfl rfl rfl <| L_op <| G_off rfl rfl rfl rfl rfl rfl <| L_op <| G_off rfl rfl rfl rfl rfl rfl ?_
        refine L_op <| G_off rfl rfl rfl rfl rfl rfl <| L_op <| G_off rfl rfl rfl rfl rfl rfl <| L_op <| G_off rfl rfl rfl rfl rfl rfl <| L_pur rfl (p_pick_t rfl rfl) <| nq ?_
        refine C_true rfl <| sr <| ag rfl rfl <| nq <| J_ret <| Q_blk_ret <| Q_then_ret <| Q_then_ret ?_
        refine Q_blk_ret <| Q_then_ret ?_
        refine J_return (()) Tryz.results13 (.tmp rfl .nil) ?_ ?_
        · have hbad : kRingsOk s = false := by
            unfold kRingsOk; rw [← hxs, List.all_eq_false]
            exact ⟨c, List.mem_of_getElem? hcc, by simp [hno]⟩
          simp [one, hbad]
        · exact SU
      ·
        refine L_op <| G_on rfl rfl rfl <| J_pur (p_move rfl) rfl rfl rfl <| L_op <| G_on rfl rfl rfl <| x_call Tryz.func29 nm29 bd29 (.cons rfl .nil) rfl (coTail (s := s) (u := c) PC hbr) fun _ => ?_
        refine L_op <| G_on rfl rfl rfl <| J_pur (p_conv rfl Tryz.underlying36 Tryz.underlying3) rfl rfl rfl <| J_slot (t := 46) (v := .int .i64 r.tail) rfl (by rw [wrap64_of (by omega)]) <| L_op <| G_on rfl rfl rfl <| J_pur (p_move rfl) rfl rfl rfl <| L_op <| G_on rfl rfl rfl ?_
        refine J_pur (p_add64 rfl rfl (by omega)) rfl rfl rfl <| L_op <| G_on rfl rfl rfl <| J_pur (p_move rfl) rfl rfl rfl <| L_op <| G_on rfl rfl rfl <| J_pur (p_neq rfl rfl) rfl rfl rfl <| L_pur rfl (p_pick_f rfl rfl) ?_
        refine nq ?_
        refine C_split rfl (fun h51 => ?_) (fun h51 => ?_)
        ·
          have hno : ringOk s c = false := by rw [hrk]; simp at h39 h43 h51; simp [h39, h51]
          refine sr <| ag rfl rfl <| nq <| J_ret <| Q_blk_ret <| Q_then_ret <| Q_then_ret <| Q_blk_ret ?_
          refine Q_then_ret ?_
          refine J_return (()) Tryz.results13 (.tmp rfl .nil) ?_ ?_
          · have hbad : kRingsOk s = false := by
              unfold kRingsOk; rw [← hxs, List.all_eq_false]
              exact ⟨c, List.mem_of_getElem? hcc, by simp [hno]⟩
            simp [one, hbad]
          · exact SU
        ·
          have hro : ringOk s c = true := by rw [hrk]; simp at h39 h43 h51; simp [h39, h51]; omega
          refine J_skip <| Q_blk_normal <| qr <| L_pur rfl (p_add64 rfl rfl (by omega)) <| mv rfl rfl <| nq ?_
          exact J_again (k + 1) (by omega) (⟨by omega, all_take hcc h0 hro⟩) SU KE
  ·
    have hkx : k = xs.length := by omega
    have hall : kRingsOk s = true := by
      unfold kRingsOk; rw [← hxs, List.all_eq_true]
      rw [hkx, List.take_length] at h0; exact h0
    refine J_exit <| Q_then_exit <| Q_then_exit <| Q_blk_this <| qx <| ag rfl rfl <| nq <| J_ret ?_
    refine J_return (()) Tryz.results13 (.tmp rfl .nil) ?_ ?_
    · simp [one, hall]
    · exact SU

end Go.Pse
