/-
  The state: what it hands out, and what is light.
-/
import Derived.Test.YthjgdlhkdjgjpaaGreatC3
namespace Go.Pse
open Go.RowKit Go.Proofs

set_option maxRecDepth 100000 in
set_option maxHeartbeats 4000000 in
theorem coSlots {E : World} {l : List As} {p : Nat} :
    Con Tryz.prog 14 #[.pointer (some ⟨p, 0, none⟩)] E l (fun _ : Unit => .pointer (some ⟨p, 6, none⟩)) (fun _ => l) := by
  refine Con.body (vs := [.pointer (some ⟨p, 0, none⟩)]) (n := 6) Tryz.func14 rfl rfl [(0, .pointer (some ⟨p, 0, none⟩))] (env_ok 1 rfl) <| sr <| ag rfl rfl <| nx <| mv rfl rfl <| nc rfl rfl <| fa rfl rfl fa92_2 <| ag rfl rfl ?_
  refine nq <| J_ret ?_
  refine J_return (()) Tryz.results14 (.tmp rfl .nil) ?_ ?_
  · rfl
  · exact SU

set_option maxRecDepth 100000 in
set_option maxHeartbeats 4000000 in
theorem coMaps {E : World} {l : List As} {p : Nat} :
    Con Tryz.prog 15 #[.pointer (some ⟨p, 0, none⟩)] E l (fun _ : Unit => .pointer (some ⟨p, 8, none⟩)) (fun _ => l) := by
  refine Con.body (vs := [.pointer (some ⟨p, 0, none⟩)]) (n := 6) Tryz.func15 rfl rfl [(0, .pointer (some ⟨p, 0, none⟩))] (env_ok 1 rfl) <| sr <| ag rfl rfl <| nx <| mv rfl rfl <| nc rfl rfl <| fa rfl rfl fa92_4 <| ag rfl rfl ?_
  refine nq <| J_ret ?_
  refine J_return (()) Tryz.results15 (.tmp rfl .nil) ?_ ?_
  · rfl
  · exact SU

set_option maxRecDepth 100000 in
set_option maxHeartbeats 4000000 in
theorem coReqs {E : World} {l : List As} {p : Nat} :
    Con Tryz.prog 8 #[.pointer (some ⟨p, 0, none⟩)] E l (fun _ : Unit => .pointer (some ⟨p, 10, none⟩)) (fun _ => l) := by
  refine Con.body (vs := [.pointer (some ⟨p, 0, none⟩)]) (n := 6) Tryz.func8 rfl rfl [(0, .pointer (some ⟨p, 0, none⟩))] (env_ok 1 rfl) <| sr <| ag rfl rfl <| nx <| mv rfl rfl <| nc rfl rfl <| fa rfl rfl fa92_6 <| ag rfl rfl ?_
  refine nq <| J_ret ?_
  refine J_return (()) Tryz.results8 (.tmp rfl .nil) ?_ ?_
  · rfl
  · exact SU

set_option maxRecDepth 100000 in
set_option maxHeartbeats 4000000 in
theorem coTimers {E : World} {l : List As} {p : Nat} :
    Con Tryz.prog 91 #[.pointer (some ⟨p, 0, none⟩)] E l (fun _ : Unit => .pointer (some ⟨p, 11, none⟩)) (fun _ => l) := by
  refine Con.body (vs := [.pointer (some ⟨p, 0, none⟩)]) (n := 6) Tryz.func91 rfl rfl [(0, .pointer (some ⟨p, 0, none⟩))] (env_ok 1 rfl) <| sr <| ag rfl rfl <| nx <| mv rfl rfl <| nc rfl rfl <| fa rfl rfl fa92_7 <| ag rfl rfl ?_
  refine nq <| J_ret ?_
  refine J_return (()) Tryz.results91 (.tmp rfl .nil) ?_ ?_
  · rfl
  · exact SU

set_option maxRecDepth 100000 in
set_option maxHeartbeats 4000000 in
theorem coJournal {E : World} {l : List As} {p : Nat} :
    Con Tryz.prog 7 #[.pointer (some ⟨p, 0, none⟩)] E l (fun _ : Unit => .pointer (some ⟨p, 12, none⟩)) (fun _ => l) := by
  refine Con.body (vs := [.pointer (some ⟨p, 0, none⟩)]) (n := 6) Tryz.func7 rfl rfl [(0, .pointer (some ⟨p, 0, none⟩))] (env_ok 1 rfl) <| sr <| ag rfl rfl <| nx <| mv rfl rfl <| nc rfl rfl <| fa rfl rfl fa92_8 <| ag rfl rfl ?_
  refine nq <| J_ret ?_
  refine J_return (()) Tryz.results7 (.tmp rfl .nil) ?_ ?_
  · rfl
  · exact SU

set_option maxRecDepth 100000 in
set_option maxHeartbeats 4000000 in
theorem coTaken {E : World} {l m : List As} {p : Nat} {s : KS} (hp : Pick (coA p s) l m) {r : Int} :
    Con Tryz.prog 24 #[.pointer (some ⟨p, 0, none⟩), .int .i64 r] E l (fun _ : Unit => .int .i64 ((look s.tk r).getD 0)) (fun _ => coA p s :: m) := by
  refine Con.body (vs := [.pointer (some ⟨p, 0, none⟩), .int .i64 r]) (n := 11) Tryz.func24 rfl rfl [(0, .pointer (some ⟨p, 0, none⟩)), (1, .int .i64 r)] (env_ok 2 rfl) <| J_pick hp <| J_coO fun bn be br bg bt bs bp bl bk _ => sr <| ag rfl rfl <| nx <| mv rfl rfl <| nc rfl rfl ?_
  refine fa rfl rfl fa92_17 <| L_val rfl (v_loadL (o := 13) (i := 8) rfl ty67 HS rfl (by exact rfl)) ?_
  refine mv rfl rfl <| L_val rfl (v_look (ek := kZ) (ev := evZ) (a := r) rfl rfl ky3 Tryz.underlying67 zv3 HS) ?_
  refine J_slot (t := 10) (v := .int .i64 ((look s.tk r).getD 0)) rfl (by cases look s.tk r <;> rfl) <| ag rfl rfl <| nq <| J_ret <| J_coS (p := p) (s := s) bn be br bg bt bs bp bl bk PX trivial ?_
  exact J_return (()) Tryz.results24 (.tmp rfl .nil) rfl SU

set_option maxRecDepth 100000 in
set_option maxHeartbeats 4000000 in
theorem coRing {E : World} {l m : List As} {p : Nat} {s : KS} (hp : Pick (coA p s) l m) {u : Int} :
    Con Tryz.prog 27 #[.pointer (some ⟨p, 0, none⟩), .int .i64 u] E l (fun _ : Unit => ptrOf (look (ptrs s.rg) u)) (fun _ => coA p s :: m) := by
  refine Con.body (vs := [.pointer (some ⟨p, 0, none⟩), .int .i64 u]) (n := 11) Tryz.func27 rfl rfl [(0, .pointer (some ⟨p, 0, none⟩)), (1, .int .i64 u)] (env_ok 2 rfl) <| J_pick hp <| J_coO fun bn be br bg bt bs bp bl bk _ => sr <| ag rfl rfl <| nx <| mv rfl rfl <| nc rfl rfl ?_
  refine fa rfl rfl fa92_12 <| L_val rfl (v_loadL (o := 13) (i := 3) rfl ty64 HS rfl (by exact rfl)) ?_
  refine mv rfl rfl <| L_val rfl (v_look (ek := kZ) (ev := evA) (a := u) rfl rfl ky3 Tryz.underlying64 zv113 HS) ?_
  refine J_slot (t := 10) (v := ptrOf (look (ptrs s.rg) u)) rfl (by cases look (ptrs s.rg) u <;> rfl) <| ag rfl rfl <| nq <| J_ret <| J_coS (p := p) (s := s) bn be br bg bt bs bp bl bk PX trivial ?_
  exact J_return (()) Tryz.results27 (.tmp rfl .nil) rfl SU

abbrev kPass (s : KS) (n : Int) : KS := { s with now := IntKind.u64.wrap (s.now + IntKind.u64.wrap (cutI n 0 1048576)) }
def kTake (s : KS) (r n : Int) : KS := if (look s.tk r).isSome then { s with tk := ins s.tk r ((look s.tk r).getD 0 + n) } else s
def kTakeV (s : KS) (r n : Int) : Int := if (look s.tk r).isSome then (look s.tk r).getD 0 + 1 else 0
def kStopOk (s : KS) (t : Int) : Bool := (look s.th t).isSome && qHas s.q t
def kStop (s : KS) (t : Int) : KS := if kStopOk s t then { s with pr := ins s.pr t ((qGet s.q t).getD 0), q := qRem s.q t } else s
def kPrio (s : KS) (t : Int) : Int := (look s.pr t).getD 4
def kGoOk (s : KS) (t : Int) : Bool := (look s.th t).isSome && qAddOk s.q t (kPrio s t)
def kGo (s : KS) (t : Int) : KS := if (look s.th t).isSome then { s with q := qAdd s.q t (kPrio s t) } else s
set_option maxRecDepth 100000 in
set_option maxHeartbeats 4000000 in
theorem coTake {E : World} {l m : List As} {p : Nat} {s : KS} (hp : Pick (coA p s) l m) {r n : Int} (h1 : -1000000000000 ≤ (look s.tk r).getD 0 ∧ (look s.tk r).getD 0 ≤ 1000000000000) (h2 : 0 ≤ n ∧ n ≤ 1000000) :
    Con Tryz.prog 10 #[.pointer (some ⟨p, 0, none⟩), .int .i64 r, .int .i64 n] E l (fun _ : Unit => .int .i64 (kTakeV s r n)) (fun _ => coA p (kTake s r n) :: m) := by
  refine Con.body (vs := [.pointer (some ⟨p, 0, none⟩), .int .i64 r, .int .i64 n]) (n := 37) Tryz.func10 rfl rfl [(0, .pointer (some ⟨p, 0, none⟩)), (1, .int .i64 r), (2, .int .i64 n)] (env_ok 3 rfl) <| J_pick hp <| J_coO fun bn be br bg bt bs bp bl bk _ => sr <| ag rfl rfl <| nxx <| mv rfl rfl <| nc rfl rfl ?_
  refine fa rfl rfl fa92_17 <| L_val rfl (v_loadL (o := 13) (i := 8) rfl ty67 HS rfl (by exact rfl)) ?_
  refine mv rfl rfl <| L_val rfl (v_lookOk (ek := kZ) (ev := evZ) (a := r) rfl rfl ky3 Tryz.underlying67 zv3 HS) ?_
  refine J_slot (t := 15) (v := .tuple #[.int .i64 ((look s.tk r).getD 0), .bool (look s.tk r).isSome]) rfl (by cases look s.tk r <;> rfl) <| mv rfl rfl <| L_pur rfl (p_extract rfl rfl) <| L_pur rfl (p_extract rfl rfl) <| ag rfl rfl <| ag rfl rfl <| nx <| mv rfl rfl ?_
  refine L_pur rfl (p_not rfl) <| nq ?_
  refine C_split rfl (fun h19 => ?_) (fun h19 => ?_)
  ·
    refine sr <| ag rfl rfl <| nq <| J_ret <| Q_then_ret <| J_coS (p := p) (s := s) bn be br bg bt bs bp bl bk PX trivial ?_
    refine J_asTo (B := coA p (kTake s r n)) (by simp_all [kTake]) ?_
    refine J_return (()) Tryz.results10 (.tmp rfl .nil) ?_ ?_
    · first | (simp_all [one, kTakeV]; done) | (simp_all [one, kTakeV, look_ins] <;> omega)
    · exact SU
  ·
    refine J_skip <| qx <| mv rfl rfl <| nc rfl rfl <| fa rfl rfl fa92_17 <| L_val rfl (v_loadL (o := 13) (i := 8) rfl ty67 HS rfl (by exact rfl)) ?_
    refine mv rfl rfl <| L_val rfl (v_look (ek := kZ) (ev := evZ) (a := r) rfl rfl ky3 Tryz.underlying67 zv3 HS) ?_
    refine J_slot (t := 25) (v := .int .i64 ((look s.tk r).getD 0)) rfl (by cases look s.tk r <;> rfl) <| mv rfl rfl <| L_pur rfl (p_add64 rfl rfl (by omega)) <| L_op <| x_mapUpdate (ek := kZ) (ev := evZ) (a := r) (c := (look s.tk r).getD 0 + n) rfl rfl rfl ky3 Tryz.underlying67 PC ?_
    refine nx <| mv rfl rfl <| nc rfl rfl <| fa rfl rfl fa92_17 <| L_val rfl (v_loadL (o := 13) (i := 8) rfl ty67 HS rfl (by exact rfl)) ?_
    refine mv rfl rfl <| L_val rfl (v_look (ek := kZ) (ev := evZ) (a := r) rfl rfl ky3 Tryz.underlying67 zv3 HS) ?_
    refine J_slot (t := 33) (v := .int .i64 ((look (ins s.tk r ((look s.tk r).getD 0 + n)) r).getD 0)) rfl (by cases look (ins s.tk r ((look s.tk r).getD 0 + n)) r <;> rfl) <| mv rfl rfl <| L_pur rfl (p_sub64 rfl rfl (by rw [look_ins]; simp; omega)) <| L_pur rfl (p_add64 rfl rfl (by rw [look_ins]; simp; omega)) <| ag rfl rfl <| nq <| J_ret <| J_coS (p := p) (s := { s with tk := ins s.tk r ((look s.tk r).getD 0 + n) }) bn be br bg bt bs bp bl bk PX trivial ?_
    refine J_asTo (B := coA p (kTake s r n)) (by simp_all [kTake]) ?_
    refine J_return (()) Tryz.results10 (.tmp rfl .nil) ?_ ?_
    · first | (simp_all [one, kTakeV]; done) | (simp_all [one, kTakeV, look_ins] <;> omega)
    · exact SU

end Go.Pse
