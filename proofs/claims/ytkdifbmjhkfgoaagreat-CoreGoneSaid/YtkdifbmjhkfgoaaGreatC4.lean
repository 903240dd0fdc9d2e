/-
  The state: what it hands out, and what is light.
-/
import Derived.Test.YtkdifbmjhkfgoaaGreatC3
namespace Go.Pse
open Go.RowKit Go.Proofs

set_option maxRecDepth 100000 in
set_option maxHeartbeats 4000000 in
theorem coQueue {E : World} {l : List As} {p : Nat} :
    Con Tryz.prog 13 #[.pointer (some ⟨p, 0, none⟩)] E l (fun _ : Unit => .pointer (some ⟨p, 9, none⟩)) (fun _ => l) := by
  refine Con.body (vs := [.pointer (some ⟨p, 0, none⟩)]) (n := 6) Tryz.func13 rfl rfl [(0, .pointer (some ⟨p, 0, none⟩))] (env_ok 1 rfl) <| sr <| ag rfl rfl <| nx <| mv rfl rfl <| nc rfl rfl <| fa rfl rfl fa162_5 <| ag rfl rfl ?_
  refine nq <| J_ret ?_
  refine J_return (()) Tryz.results13 (.tmp rfl .nil) ?_ ?_
  · rfl
  · exact SU

set_option maxRecDepth 100000 in
set_option maxHeartbeats 4000000 in
theorem coSlots {E : World} {l : List As} {p : Nat} :
    Con Tryz.prog 9 #[.pointer (some ⟨p, 0, none⟩)] E l (fun _ : Unit => .pointer (some ⟨p, 6, none⟩)) (fun _ => l) := by
  refine Con.body (vs := [.pointer (some ⟨p, 0, none⟩)]) (n := 6) Tryz.func9 rfl rfl [(0, .pointer (some ⟨p, 0, none⟩))] (env_ok 1 rfl) <| sr <| ag rfl rfl <| nx <| mv rfl rfl <| nc rfl rfl <| fa rfl rfl fa162_2 <| ag rfl rfl ?_
  refine nq <| J_ret ?_
  refine J_return (()) Tryz.results9 (.tmp rfl .nil) ?_ ?_
  · rfl
  · exact SU

set_option maxRecDepth 100000 in
set_option maxHeartbeats 4000000 in
theorem coMaps {E : World} {l : List As} {p : Nat} :
    Con Tryz.prog 21 #[.pointer (some ⟨p, 0, none⟩)] E l (fun _ : Unit => .pointer (some ⟨p, 8, none⟩)) (fun _ => l) := by
  refine Con.body (vs := [.pointer (some ⟨p, 0, none⟩)]) (n := 6) Tryz.func21 rfl rfl [(0, .pointer (some ⟨p, 0, none⟩))] (env_ok 1 rfl) <| sr <| ag rfl rfl <| nx <| mv rfl rfl <| nc rfl rfl <| fa rfl rfl fa162_4 <| ag rfl rfl ?_
  refine nq <| J_ret ?_
  refine J_return (()) Tryz.results21 (.tmp rfl .nil) ?_ ?_
  · rfl
  · exact SU

set_option maxRecDepth 100000 in
set_option maxHeartbeats 4000000 in
theorem coReqs {E : World} {l : List As} {p : Nat} :
    Con Tryz.prog 48 #[.pointer (some ⟨p, 0, none⟩)] E l (fun _ : Unit => .pointer (some ⟨p, 10, none⟩)) (fun _ => l) := by
  refine Con.body (vs := [.pointer (some ⟨p, 0, none⟩)]) (n := 6) Tryz.func48 rfl rfl [(0, .pointer (some ⟨p, 0, none⟩))] (env_ok 1 rfl) <| sr <| ag rfl rfl <| nx <| mv rfl rfl <| nc rfl rfl <| fa rfl rfl fa162_6 <| ag rfl rfl ?_
  refine nq <| J_ret ?_
  refine J_return (()) Tryz.results48 (.tmp rfl .nil) ?_ ?_
  · rfl
  · exact SU

set_option maxRecDepth 100000 in
set_option maxHeartbeats 4000000 in
theorem coTimers {E : World} {l : List As} {p : Nat} :
    Con Tryz.prog 49 #[.pointer (some ⟨p, 0, none⟩)] E l (fun _ : Unit => .pointer (some ⟨p, 11, none⟩)) (fun _ => l) := by
  refine Con.body (vs := [.pointer (some ⟨p, 0, none⟩)]) (n := 6) Tryz.func49 rfl rfl [(0, .pointer (some ⟨p, 0, none⟩))] (env_ok 1 rfl) <| sr <| ag rfl rfl <| nx <| mv rfl rfl <| nc rfl rfl <| fa rfl rfl fa162_7 <| ag rfl rfl ?_
  refine nq <| J_ret ?_
  refine J_return (()) Tryz.results49 (.tmp rfl .nil) ?_ ?_
  · rfl
  · exact SU

set_option maxRecDepth 100000 in
set_option maxHeartbeats 4000000 in
theorem coJournal {E : World} {l : List As} {p : Nat} :
    Con Tryz.prog 50 #[.pointer (some ⟨p, 0, none⟩)] E l (fun _ : Unit => .pointer (some ⟨p, 12, none⟩)) (fun _ => l) := by
  refine Con.body (vs := [.pointer (some ⟨p, 0, none⟩)]) (n := 6) Tryz.func50 rfl rfl [(0, .pointer (some ⟨p, 0, none⟩))] (env_ok 1 rfl) <| sr <| ag rfl rfl <| nx <| mv rfl rfl <| nc rfl rfl <| fa rfl rfl fa162_8 <| ag rfl rfl ?_
  refine nq <| J_ret ?_
  refine J_return (()) Tryz.results50 (.tmp rfl .nil) ?_ ?_
  · rfl
  · exact SU

set_option maxRecDepth 100000 in
set_option maxHeartbeats 4000000 in
theorem coMarks {E : World} {l : List As} {p : Nat} :
    Con Tryz.prog 51 #[.pointer (some ⟨p, 0, none⟩)] E l (fun _ : Unit => .pointer (some ⟨p, 7, none⟩)) (fun _ => l) := by
  refine Con.body (vs := [.pointer (some ⟨p, 0, none⟩)]) (n := 6) Tryz.func51 rfl rfl [(0, .pointer (some ⟨p, 0, none⟩))] (env_ok 1 rfl) <| sr <| ag rfl rfl <| nx <| mv rfl rfl <| nc rfl rfl <| fa rfl rfl fa162_3 <| ag rfl rfl ?_
  refine nq <| J_ret ?_
  refine J_return (()) Tryz.results51 (.tmp rfl .nil) ?_ ?_
  · rfl
  · exact SU

set_option maxRecDepth 100000 in
set_option maxHeartbeats 4000000 in
theorem coMem {E : World} {l m : List As} {p : Nat} {s : KS} (hp : Pick (coA p s) l m)  :
    Con Tryz.prog 47 #[.pointer (some ⟨p, 0, none⟩)] E l (fun _ : Unit => .pointer (some ⟨s.mb, 0, none⟩)) (fun _ => coA p s :: m) := by
  refine Con.body (vs := [.pointer (some ⟨p, 0, none⟩)]) (n := 7) Tryz.func47 rfl rfl [(0, .pointer (some ⟨p, 0, none⟩))] (env_ok 1 rfl) <| J_pick hp <| J_coO fun bn be br bg bt bs bp bl bk _ => sr <| ag rfl rfl <| nx <| mv rfl rfl <| nc rfl rfl ?_
  refine fa rfl rfl fa162_1 <| L_val rfl (v_loadL (o := 0) (i := 5) rfl ty120 HS rfl (by exact rfl)) ?_
  refine ag rfl rfl <| nq <| J_ret <| J_coS (p := p) (s := s) bn be br bg bt bs bp bl bk PX trivial ?_
  exact J_return (()) Tryz.results47 (.tmp rfl .nil) rfl SU

set_option maxRecDepth 100000 in
set_option maxHeartbeats 4000000 in
theorem coNow {E : World} {l m : List As} {p : Nat} {s : KS} (hp : Pick (coA p s) l m)  :
    Con Tryz.prog 24 #[.pointer (some ⟨p, 0, none⟩)] E l (fun _ : Unit => .int .u64 s.now) (fun _ => coA p s :: m) := by
  refine Con.body (vs := [.pointer (some ⟨p, 0, none⟩)]) (n := 7) Tryz.func24 rfl rfl [(0, .pointer (some ⟨p, 0, none⟩))] (env_ok 1 rfl) <| J_pick hp <| J_coO fun bn be br bg bt bs bp bl bk _ => sr <| ag rfl rfl <| nx <| mv rfl rfl <| nc rfl rfl ?_
  refine fa rfl rfl fa162_18 <| L_val rfl (v_loadL (o := 22) (i := 0) rfl ty64 HS rfl (by exact rfl)) ?_
  refine ag rfl rfl <| nq <| J_ret <| J_coS (p := p) (s := s) bn be br bg bt bs bp bl bk PX trivial ?_
  exact J_return (()) Tryz.results24 (.tmp rfl .nil) rfl SU

set_option maxRecDepth 100000 in
set_option maxHeartbeats 4000000 in
theorem coTaken {E : World} {l m : List As} {p : Nat} {s : KS} (hp : Pick (coA p s) l m) {r : Int} :
    Con Tryz.prog 101 #[.pointer (some ⟨p, 0, none⟩), .int .i64 r] E l (fun _ : Unit => .int .i64 ((look s.tk r).getD 0)) (fun _ => coA p s :: m) := by
  refine Con.body (vs := [.pointer (some ⟨p, 0, none⟩), .int .i64 r]) (n := 11) Tryz.func101 rfl rfl [(0, .pointer (some ⟨p, 0, none⟩)), (1, .int .i64 r)] (env_ok 2 rfl) <| J_pick hp <| J_coO fun bn be br bg bt bs bp bl bk _ => sr <| ag rfl rfl <| nx <| mv rfl rfl <| nc rfl rfl ?_
  refine fa rfl rfl fa162_17 <| L_val rfl (v_loadL (o := 13) (i := 8) rfl ty139 HS rfl (by exact rfl)) ?_
  refine mv rfl rfl <| L_val rfl (v_look (ek := kZ) (ev := evZ) (a := r) rfl rfl ky3 Tryz.underlying139 zv3 HS) ?_
  refine J_slot (t := 10) (v := .int .i64 ((look s.tk r).getD 0)) rfl (by cases look s.tk r <;> rfl) <| ag rfl rfl <| nq <| J_ret <| J_coS (p := p) (s := s) bn be br bg bt bs bp bl bk PX trivial ?_
  exact J_return (()) Tryz.results101 (.tmp rfl .nil) rfl SU

set_option maxRecDepth 100000 in
set_option maxHeartbeats 4000000 in
theorem coRing {E : World} {l m : List As} {p : Nat} {s : KS} (hp : Pick (coA p s) l m) {u : Int} :
    Con Tryz.prog 19 #[.pointer (some ⟨p, 0, none⟩), .int .i64 u] E l (fun _ : Unit => ptrOf (look (ptrs s.rg) u)) (fun _ => coA p s :: m) := by
  refine Con.body (vs := [.pointer (some ⟨p, 0, none⟩), .int .i64 u]) (n := 11) Tryz.func19 rfl rfl [(0, .pointer (some ⟨p, 0, none⟩)), (1, .int .i64 u)] (env_ok 2 rfl) <| J_pick hp <| J_coO fun bn be br bg bt bs bp bl bk _ => sr <| ag rfl rfl <| nx <| mv rfl rfl <| nc rfl rfl ?_
  refine fa rfl rfl fa162_12 <| L_val rfl (v_loadL (o := 13) (i := 3) rfl ty136 HS rfl (by exact rfl)) ?_
  refine mv rfl rfl <| L_val rfl (v_look (ek := kZ) (ev := evA) (a := u) rfl rfl ky3 Tryz.underlying136 zv52 HS) ?_
  refine J_slot (t := 10) (v := ptrOf (look (ptrs s.rg) u)) rfl (by cases look (ptrs s.rg) u <;> rfl) <| ag rfl rfl <| nq <| J_ret <| J_coS (p := p) (s := s) bn be br bg bt bs bp bl bk PX trivial ?_
  exact J_return (()) Tryz.results19 (.tmp rfl .nil) rfl SU

abbrev kPass (s : KS) (n : Int) : KS := { s with now := IntKind.u64.wrap (s.now + IntKind.u64.wrap (cutI n 0 1048576)) }
def kTake (s : KS) (r n : Int) : KS := if (look s.tk r).isSome then { s with tk := ins s.tk r ((look s.tk r).getD 0 + n) } else s
def kTakeV (s : KS) (r n : Int) : Int := if (look s.tk r).isSome then (look s.tk r).getD 0 + 1 else 0
def kStopOk (s : KS) (t : Int) : Bool := (look s.th t).isSome && qHas s.q t
def kStop (s : KS) (t : Int) : KS := if kStopOk s t then { s with pr := ins s.pr t ((qGet s.q t).getD 0), q := qRem s.q t } else s
def kPrio (s : KS) (t : Int) : Int := (look s.pr t).getD 4
def kGoOk (s : KS) (t : Int) : Bool := (look s.th t).isSome && qAddOk s.q t (kPrio s t)
def kGo (s : KS) (t : Int) : KS := if (look s.th t).isSome then { s with q := qAdd s.q t (kPrio s t) } else s
set_option maxRecDepth 100000 in
set_option maxHeartbeats 4000000 in
theorem coPass {E : World} {l m : List As} {p : Nat} {s : KS} (hp : Pick (coA p s) l m) {n : Int} :
    Con Tryz.prog 41 #[.pointer (some ⟨p, 0, none⟩), .int .i64 n] E l (fun _ : Unit => .int .u64 (kPass s n).now) (fun _ => coA p (kPass s n) :: m) := by
  refine Con.body (vs := [.pointer (some ⟨p, 0, none⟩), .int .i64 n]) (n := 19) Tryz.func41 rfl rfl [(0, .pointer (some ⟨p, 0, none⟩)), (1, .int .i64 n)] (env_ok 2 rfl) <| J_pick hp <| J_coO fun bn be br bg bt bs bp bl bk _ => sr <| ag rfl rfl <| nq <| J_seq <| J_drawL (some 10) mixed ?_
  refine ip 0 rfl rfl rfl rfl (p_move rfl) <| ip 1 rfl rfl rfl rfl (p_nilCheck rfl) <| ip 2 rfl rfl rfl rfl (p_fieldAddr rfl fa162_18) <| iv 3 rfl rfl rfl rfl (fun _ => v_loadL (o := 22) (i := 0) rfl ty64 HS rfl (by exact rfl)) ?_
  refine ip 4 rfl rfl rfl rfl (p_move rfl) <| i1 5 rfl <| x_call Tryz.func53 nm53 bd53 (.cons rfl (.cons rfl (.cons rfl .nil))) rfl (cCut) fun _ => ip 6 rfl rfl rfl rfl (p_conv rfl Tryz.underlying3 Tryz.underlying64) <| ip 7 rfl rfl rfl rfl (p_add rfl rfl) <| ip 8 rfl rfl rfl rfl (p_nilCheck rfl) <| ip 9 rfl rfl rfl rfl (p_fieldAddr rfl fa162_18) <| i1 10 rfl ?_
  refine x_storeL (o := 22) (i := 0) rfl rfl ty64 rfl SM SM rfl RO rfl PT ?_
  refine i0 <| qx <| mv rfl rfl <| nc rfl rfl <| fa rfl rfl fa162_18 <| L_val rfl (v_loadL (o := 22) (i := 0) rfl ty64 HS rfl (by exact rfl)) ?_
  refine ag rfl rfl <| nq <| J_ret <| J_coS (p := p) (s := kPass s n) bn be br bg bt bs bp bl bk PX trivial ?_
  exact J_return (()) Tryz.results41 (.tmp rfl .nil) rfl SU

set_option maxRecDepth 100000 in
set_option maxHeartbeats 4000000 in
theorem coTake {E : World} {l m : List As} {p : Nat} {s : KS} (hp : Pick (coA p s) l m) {r n : Int} (h1 : -1000000000000 ≤ (look s.tk r).getD 0 ∧ (look s.tk r).getD 0 ≤ 1000000000000) (h2 : 0 ≤ n ∧ n ≤ 1000000) :
    Con Tryz.prog 43 #[.pointer (some ⟨p, 0, none⟩), .int .i64 r, .int .i64 n] E l (fun _ : Unit => .int .i64 (kTakeV s r n)) (fun _ => coA p (kTake s r n) :: m) := by
  refine Con.body (vs := [.pointer (some ⟨p, 0, none⟩), .int .i64 r, .int .i64 n]) (n := 37) Tryz.func43 rfl rfl [(0, .pointer (some ⟨p, 0, none⟩)), (1, .int .i64 r), (2, .int .i64 n)] (env_ok 3 rfl) <| J_pick hp <| J_coO fun bn be br bg bt bs bp bl bk _ => sr <| ag rfl rfl <| nxx <| mv rfl rfl <| nc rfl rfl ?_
  refine fa rfl rfl fa162_17 <| L_val rfl (v_loadL (o := 13) (i := 8) rfl ty139 HS rfl (by exact rfl)) ?_
  refine mv rfl rfl <| L_val rfl (v_lookOk (ek := kZ) (ev := evZ) (a := r) rfl rfl ky3 Tryz.underlying139 zv3 HS) ?_
  refine J_slot (t := 15) (v := .tuple #[.int .i64 ((look s.tk r).getD 0), .bool (look s.tk r).isSome]) rfl (by cases look s.tk r <;> rfl) <| mv rfl rfl <| L_pur rfl (p_extract rfl rfl) <| L_pur rfl (p_extract rfl rfl) <| ag rfl rfl <| ag rfl rfl <| nx <| mv rfl rfl ?_
  refine L_pur rfl (p_not rfl) <| nq ?_
  refine C_split rfl (fun h19 => ?_) (fun h19 => ?_)
  ·
    refine sr <| ag rfl rfl <| nq <| J_ret <| Q_then_ret <| J_coS (p := p) (s := s) bn be br bg bt bs bp bl bk PX trivial ?_
    refine J_asTo (B := coA p (kTake s r n)) (by simp_all [kTake]) ?_
    refine J_return (()) Tryz.results43 (.tmp rfl .nil) ?_ ?_
    · first | (simp_all [one, kTakeV]; done) | (simp_all [one, kTakeV, look_ins] <;> omega)
    · exact SU
  ·
    refine J_skip <| qx <| mv rfl rfl <| nc rfl rfl <| fa rfl rfl fa162_17 <| L_val rfl (v_loadL (o := 13) (i := 8) rfl ty139 HS rfl (by exact rfl)) ?_
    refine mv rfl rfl <| L_val rfl (v_look (ek := kZ) (ev := evZ) (a := r) rfl rfl ky3 Tryz.underlying139 zv3 HS) ?_
    refine J_slot (t := 25) (v := .int .i64 ((look s.tk r).getD 0)) rfl (by cases look s.tk r <;> rfl) <| mv rfl rfl <| L_pur rfl (p_add64 rfl rfl (by omega)) <| L_op <| x_mapUpdate (ek := kZ) (ev := evZ) (a := r) (c := (look s.tk r).getD 0 + n) rfl rfl rfl ky3 Tryz.underlying139 PC ?_
    refine nx <| mv rfl rfl <| nc rfl rfl <| fa rfl rfl fa162_17 <| L_val rfl (v_loadL (o := 13) (i := 8) rfl ty139 HS rfl (by exact rfl)) ?_
    refine mv rfl rfl <| L_val rfl (v_look (ek := kZ) (ev := evZ) (a := r) rfl rfl ky3 Tryz.underlying139 zv3 HS) ?_
    refine J_slot (t := 33) (v := .int .i64 ((look (ins s.tk r ((look s.tk r).getD 0 + n)) r).getD 0)) rfl (by cases look (ins s.tk r ((look s.tk r).getD 0 + n)) r <;> rfl) <| mv rfl rfl <| L_pur rfl (p_sub64 rfl rfl (by rw [look_ins]; simp; omega)) <| L_pur rfl (p_add64 rfl rfl (by rw [look_ins]; simp; omega)) <| ag rfl rfl <| nq <| J_ret <| J_coS (p := p) (s := { s with tk := ins s.tk r ((look s.tk r).getD 0 + n) }) bn be br bg bt bs bp bl bk PX trivial ?_
    refine J_asTo (B := coA p (kTake s r n)) (by simp_all [kTake]) ?_
    refine J_return (()) Tryz.results43 (.tmp rfl .nil) ?_ ?_
    · first | (simp_all [one, kTakeV]; done) | (simp_all [one, kTakeV, look_ins] <;> omega)
    · exact SU

set_option maxRecDepth 100000 in
set_option maxHeartbeats 4000000 in
theorem coStop {E : World} {l m : List As} {p : Nat} {s : KS} (hp : Pick (coA p s) l m) (hq : s.q.length ≤ 90000) {t : Int} :
    Con Tryz.prog 38 #[.pointer (some ⟨p, 0, none⟩), .int .i64 t] E l (fun _ : Unit => .bool (kStopOk s t)) (fun _ => coA p (kStop s t) :: m) := by
  refine Con.body (vs := [.pointer (some ⟨p, 0, none⟩), .int .i64 t]) (n := 43) Tryz.func38 rfl rfl [(0, .pointer (some ⟨p, 0, none⟩)), (1, .int .i64 t)] (env_ok 2 rfl) <| J_pick hp <| J_coO fun bn be br bg bt bs bp bl bk _ => sr <| ag rfl rfl <| nx <| mv rfl rfl <| nc rfl rfl ?_
  refine fa rfl rfl fa162_5 <| mv rfl rfl <| L_op <| x_call Tryz.func18 nm18 bd18 (.cons rfl (.cons rfl .nil)) rfl (qPrioC PC (by omega)) fun _ => ?_
  refine mv rfl rfl <| L_pur rfl (p_extract rfl rfl) <| L_pur rfl (p_extract rfl rfl) <| ag rfl rfl <| ag rfl rfl <| nxx <| mv rfl rfl <| nc rfl rfl ?_
  refine fa rfl rfl fa162_13 <| L_val rfl (v_loadL (o := 13) (i := 4) rfl ty137 HS rfl (by exact rfl)) ?_
  refine mv rfl rfl <| L_val rfl (v_lookOk (ek := kZ) (ev := evT) (a := t) rfl rfl ky3 Tryz.underlying137 zv47 HS) ?_
  refine J_slot (t := 23) (v := .tuple #[evT ((look s.th t).getD t0), .bool (look s.th t).isSome]) rfl (by cases look s.th t <;> rfl) <| mv rfl rfl <| L_pur rfl (p_extract rfl rfl) <| L_pur rfl (p_extract rfl rfl) <| L_op <| x_alloc ty47 rfl fun b7 => L_op <| x_store rfl rfl ty47 rfl SM SM RO PT ?_
  refine ag rfl rfl <| nx <| mv rfl rfl <| L_pur rfl (p_not rfl) <| mv rfl rfl ?_
  refine J_gsplit (t := 28) rfl (fun h28 => ?_) (fun h28 => ?_)
  ·
    refine L_op <| G_off rfl rfl rfl rfl rfl rfl <| L_op <| G_off rfl rfl rfl rfl rfl rfl <| L_pur rfl (p_pick_t rfl rfl) <| nq <| C_true rfl <| sr ?_
    refine ag rfl rfl <| nq <| J_ret <| Q_then_ret <| J_coS (p := p) (s := s) bn be br bg bt bs bp bl bk PX trivial ?_
    refine J_asTo (B := coA p (kStop s t)) (by simp_all [kStop, kStopOk]) ?_
    refine J_return (()) Tryz.results38 (.tmp rfl .nil) ?_ ?_
    · first | rfl | (simp_all [one, kStopOk]; done) | (simp_all [one, kStopOk] <;> omega) | (simp_all [one, kStopOk] <;> grind)
    · exact SU
  ·
    refine L_op <| G_on rfl rfl rfl <| J_pur (p_move rfl) rfl rfl rfl <| L_op <| G_on rfl rfl rfl <| J_pur (p_not rfl) rfl rfl rfl <| L_pur rfl (p_pick_f rfl rfl) <| nq ?_
    refine C_split rfl (fun h31 => ?_) (fun h31 => ?_)
    ·
      refine sr <| ag rfl rfl <| nq <| J_ret <| Q_then_ret <| J_coS (p := p) (s := s) bn be br bg bt bs bp bl bk PX trivial ?_
      refine J_asTo (B := coA p (kStop s t)) (by simp_all [kStop, kStopOk]) ?_
      refine J_return (()) Tryz.results38 (.tmp rfl .nil) ?_ ?_
      · first | rfl | (simp_all [one, kStopOk]; done) | (simp_all [one, kStopOk] <;> omega) | (simp_all [one, kStopOk] <;> grind)
      · exact SU
    ·
      refine J_skip <| qx <| mv rfl rfl <| nc rfl rfl <| fa rfl rfl fa162_15 <| L_val rfl (v_loadL (o := 13) (i := 6) rfl ty139 HS rfl (by exact rfl)) ?_
      refine mv rfl rfl <| mv rfl rfl <| L_op <| x_mapUpdate (ek := kZ) (ev := evZ) (a := t) (c := (qGet s.q t).getD 0) rfl rfl rfl ky3 Tryz.underlying139 PC ?_
      refine nx <| mv rfl rfl <| nc rfl rfl <| fa rfl rfl fa162_5 <| mv rfl rfl <| L_op <| x_call Tryz.func65 nm65 bd65 (.cons rfl (.cons rfl .nil)) rfl (qRemC PC (by omega)) fun _ => ?_
      refine ag rfl rfl <| nq <| J_ret <| J_coS (p := p) (s := { s with pr := ins s.pr t ((qGet s.q t).getD 0), q := qRem s.q t }) bn be br bg bt bs bp bl bk PX trivial ?_
      refine J_asTo (B := coA p (kStop s t)) (by simp_all [kStop, kStopOk]) ?_
      refine J_return (()) Tryz.results38 (.tmp rfl .nil) ?_ ?_
      · first | rfl | (simp_all [one, kStopOk]; done) | (simp_all [one, kStopOk] <;> omega) | (simp_all [one, kStopOk] <;> grind)
      · exact SU

set_option maxRecDepth 100000 in
set_option maxHeartbeats 4000000 in
theorem coGo {E : World} {l m : List As} {p : Nat} {s : KS} (hp : Pick (coA p s) l m) (hq : s.q.length ≤ 90000) {t : Int} :
    Con Tryz.prog 28 #[.pointer (some ⟨p, 0, none⟩), .int .i64 t] E l (fun _ : Unit => .bool (kGoOk s t)) (fun _ => coA p (kGo s t) :: m) := by
  refine Con.body (vs := [.pointer (some ⟨p, 0, none⟩), .int .i64 t]) (n := 37) Tryz.func28 rfl rfl [(0, .pointer (some ⟨p, 0, none⟩)), (1, .int .i64 t)] (env_ok 2 rfl) <| J_pick hp <| J_coO fun bn be br bg bt bs bp bl bk _ => sr <| ag rfl rfl <| nxx <| mv rfl rfl <| nc rfl rfl ?_
  refine fa rfl rfl fa162_13 <| L_val rfl (v_loadL (o := 13) (i := 4) rfl ty137 HS rfl (by exact rfl)) ?_
  refine mv rfl rfl <| L_val rfl (v_lookOk (ek := kZ) (ev := evT) (a := t) rfl rfl ky3 Tryz.underlying137 zv47 HS) ?_
  refine J_slot (t := 15) (v := .tuple #[evT ((look s.th t).getD t0), .bool (look s.th t).isSome]) rfl (by cases look s.th t <;> rfl) <| mv rfl rfl <| L_pur rfl (p_extract rfl rfl) <| L_pur rfl (p_extract rfl rfl) <| L_op <| x_alloc ty47 rfl fun b5 => L_op <| x_store rfl rfl ty47 rfl SM SM RO PT ?_
  refine ag rfl rfl <| nx <| mv rfl rfl <| L_pur rfl (p_not rfl) <| nq ?_
  refine C_split rfl (fun h19 => ?_) (fun h19 => ?_)
  ·
    refine sr <| ag rfl rfl <| nq <| J_ret <| Q_then_ret <| J_coS (p := p) (s := s) bn be br bg bt bs bp bl bk PX trivial ?_
    refine J_asTo (B := coA p (kGo s t)) (by simp_all [kGo]) ?_
    refine J_return (()) Tryz.results28 (.tmp rfl .nil) ?_ ?_
    · first | rfl | (simp_all [one, kGoOk]; done) | (simp_all [one, kGoOk] <;> omega) | (simp_all [one, kGoOk] <;> grind)
    · exact SU
  ·
    refine J_skip <| qx <| mv rfl rfl <| nc rfl rfl <| fa rfl rfl fa162_15 <| L_val rfl (v_loadL (o := 13) (i := 6) rfl ty139 HS rfl (by exact rfl)) ?_
    refine mv rfl rfl <| L_val rfl (v_lookOk (ek := kZ) (ev := evZ) (a := t) rfl rfl ky3 Tryz.underlying139 zv3 HS) ?_
    refine J_slot (t := 26) (v := .tuple #[.int .i64 ((look s.pr t).getD 0), .bool (look s.pr t).isSome]) rfl (by cases look s.pr t <;> rfl) <| mv rfl rfl <| L_pur rfl (p_extract rfl rfl) <| L_pur rfl (p_extract rfl rfl) <| ag rfl rfl <| ag rfl rfl <| nxx <| mv rfl rfl ?_
    refine L_pur rfl (p_not rfl) <| nq ?_
    refine C_split rfl (fun h30 => ?_) (fun h30 => ?_)
    ·
      refine J_region <| ag rfl rfl <| nq <| J_seq <| J_slot (t := 7) (v := .int .i64 (kPrio s t)) rfl (by unfold kPrio; revert h30; cases look s.pr t <;> simp) <| J_region <| mv rfl rfl <| nc rfl rfl ?_
      refine fa rfl rfl fa162_5 <| mv rfl rfl <| mv rfl rfl <| L_op <| x_call Tryz.func71 nm71 bd71 (.cons rfl (.cons rfl (.cons rfl .nil))) rfl (qAddC PC (by omega)) fun _ => ?_
      refine ag rfl rfl <| nq <| J_ret <| J_coS (p := p) (s := { s with q := qAdd s.q t (kPrio s t) }) bn be br bg bt bs bp bl bk PX trivial ?_
      refine J_asTo (B := coA p (kGo s t)) (by simp_all [kGo]) ?_
      refine J_return (()) Tryz.results28 (.tmp rfl .nil) ?_ ?_
      · first | rfl | (simp_all [one, kGoOk]; done) | (simp_all [one, kGoOk] <;> omega) | (simp_all [one, kGoOk] <;> grind)
      · exact SU
    ·
      refine J_skip <| Q_then <| J_seq <| J_slot (t := 7) (v := .int .i64 (kPrio s t)) rfl (by unfold kPrio; revert h30; cases look s.pr t <;> simp) <| J_region <| mv rfl rfl <| nc rfl rfl <| fa rfl rfl fa162_5 ?_
      refine mv rfl rfl <| mv rfl rfl <| L_op <| x_call Tryz.func71 nm71 bd71 (.cons rfl (.cons rfl (.cons rfl .nil))) rfl (qAddC PC (by omega)) fun _ => ?_
      refine ag rfl rfl <| nq <| J_ret <| J_coS (p := p) (s := { s with q := qAdd s.q t (kPrio s t) }) bn be br bg bt bs bp bl bk PX trivial ?_
      refine J_asTo (B := coA p (kGo s t)) (by simp_all [kGo]) ?_
      refine J_return (()) Tryz.results28 (.tmp rfl .nil) ?_ ?_
      · first | rfl | (simp_all [one, kGoOk]; done) | (simp_all [one, kGoOk] <;> omega) | (simp_all [one, kGoOk] <;> grind)
      · exact SU

end Go.Pse
