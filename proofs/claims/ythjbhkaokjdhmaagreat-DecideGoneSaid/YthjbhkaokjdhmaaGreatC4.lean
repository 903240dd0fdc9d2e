/-
  The state: what it hands out, and what is light.
-/
import Derived.Test.YthjbhkaokjdhmaaGreatC3
namespace Go.Pse
open Go.RowKit Go.Proofs

set_option maxRecDepth 100000 in
set_option maxHeartbeats 4000000 in
theorem coReqs {E : World} {l : List As} {p : Nat} :
    Con Tryz.prog 9 #[.pointer (some ⟨p, 0, none⟩)] E l (fun _ : Unit => .pointer (some ⟨p, 10, none⟩)) (fun _ => l) := by
  refine Con.body (vs := [.pointer (some ⟨p, 0, none⟩)]) (n := 6) Tryz.func9 rfl rfl [(0, .pointer (some ⟨p, 0, none⟩))] (env_ok 1 rfl) <| sr <| ag rfl rfl <| nx <| mv rfl rfl <| nc rfl rfl <| fa rfl rfl fa117_6 <| ag rfl rfl ?_
  refine nq <| J_ret ?_
  refine J_return (()) Tryz.results9 (.tmp rfl .nil) ?_ ?_
  · rfl
  · exact SU

set_option maxRecDepth 100000 in
set_option maxHeartbeats 4000000 in
theorem coTimers {E : World} {l : List As} {p : Nat} :
    Con Tryz.prog 22 #[.pointer (some ⟨p, 0, none⟩)] E l (fun _ : Unit => .pointer (some ⟨p, 11, none⟩)) (fun _ => l) := by
  refine Con.body (vs := [.pointer (some ⟨p, 0, none⟩)]) (n := 6) Tryz.func22 rfl rfl [(0, .pointer (some ⟨p, 0, none⟩))] (env_ok 1 rfl) <| sr <| ag rfl rfl <| nx <| mv rfl rfl <| nc rfl rfl <| fa rfl rfl fa117_7 <| ag rfl rfl ?_
  refine nq <| J_ret ?_
  refine J_return (()) Tryz.results22 (.tmp rfl .nil) ?_ ?_
  · rfl
  · exact SU

set_option maxRecDepth 100000 in
set_option maxHeartbeats 4000000 in
theorem coJournal {E : World} {l : List As} {p : Nat} :
    Con Tryz.prog 11 #[.pointer (some ⟨p, 0, none⟩)] E l (fun _ : Unit => .pointer (some ⟨p, 12, none⟩)) (fun _ => l) := by
  refine Con.body (vs := [.pointer (some ⟨p, 0, none⟩)]) (n := 6) Tryz.func11 rfl rfl [(0, .pointer (some ⟨p, 0, none⟩))] (env_ok 1 rfl) <| sr <| ag rfl rfl <| nx <| mv rfl rfl <| nc rfl rfl <| fa rfl rfl fa117_8 <| ag rfl rfl ?_
  refine nq <| J_ret ?_
  refine J_return (()) Tryz.results11 (.tmp rfl .nil) ?_ ?_
  · rfl
  · exact SU

set_option maxRecDepth 100000 in
set_option maxHeartbeats 4000000 in
theorem coRing {E : World} {l m : List As} {p : Nat} {s : KS} (hp : Pick (coA p s) l m) {u : Int} :
    Con Tryz.prog 10 #[.pointer (some ⟨p, 0, none⟩), .int .i64 u] E l (fun _ : Unit => ptrOf (look (ptrs s.rg) u)) (fun _ => coA p s :: m) := by
  refine Con.body (vs := [.pointer (some ⟨p, 0, none⟩), .int .i64 u]) (n := 11) Tryz.func10 rfl rfl [(0, .pointer (some ⟨p, 0, none⟩)), (1, .int .i64 u)] (env_ok 2 rfl) <| J_pick hp <| J_coO fun bn be br bg bt bs bp bl bk _ => sr <| ag rfl rfl <| nx <| mv rfl rfl <| nc rfl rfl ?_
  refine fa rfl rfl fa117_12 <| L_val rfl (v_loadL (o := 13) (i := 3) rfl ty91 HS rfl (by exact rfl)) ?_
  refine mv rfl rfl <| L_val rfl (v_look (ek := kZ) (ev := evA) (a := u) rfl rfl ky3 Tryz.underlying91 zv30 HS) ?_
  refine J_slot (t := 10) (v := ptrOf (look (ptrs s.rg) u)) rfl (by cases look (ptrs s.rg) u <;> rfl) <| ag rfl rfl <| nq <| J_ret <| J_coS (p := p) (s := s) bn be br bg bt bs bp bl bk PX trivial ?_
  exact J_return (()) Tryz.results10 (.tmp rfl .nil) rfl SU

abbrev kPass (s : KS) (n : Int) : KS := { s with now := IntKind.u64.wrap (s.now + IntKind.u64.wrap (cutI n 0 1048576)) }
def kTake (s : KS) (r n : Int) : KS := if (look s.tk r).isSome then { s with tk := ins s.tk r ((look s.tk r).getD 0 + n) } else s
def kTakeV (s : KS) (r n : Int) : Int := if (look s.tk r).isSome then (look s.tk r).getD 0 + 1 else 0
def kStopOk (s : KS) (t : Int) : Bool := (look s.th t).isSome && qHas s.q t
def kStop (s : KS) (t : Int) : KS := if kStopOk s t then { s with pr := ins s.pr t ((qGet s.q t).getD 0), q := qRem s.q t } else s
def kPrio (s : KS) (t : Int) : Int := (look s.pr t).getD 4
def kGoOk (s : KS) (t : Int) : Bool := (look s.th t).isSome && qAddOk s.q t (kPrio s t)
def kGo (s : KS) (t : Int) : KS := if (look s.th t).isSome then { s with q := qAdd s.q t (kPrio s t) } else s
end Go.Pse
