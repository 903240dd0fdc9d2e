/-
  What is gone.
-/
import Derived.Test.YthjbhkaokjdhmaaGreatC16
namespace Go.Pse
open Go.RowKit Go.Proofs

set_option maxRecDepth 100000 in
set_option maxHeartbeats 4000000 in
theorem dropClo {E : World} {l : List As} {bz : Nat} {z : Int} {a u : Int × Int} (hh : Has (blk bz 3 [.int .i64 z]) l) :
    Con Tryz.prog 113 #[kI a, kI u, .pointer (some ⟨bz, 0, none⟩)] E l (fun _ : Unit => .bool (decide (u.1 = z))) (fun _ => l) := by
  refine Con.body (vs := [kI a, kI u, .pointer (some ⟨bz, 0, none⟩)]) (n := 10) Tryz.func113 rfl rfl [(0, kI a), (1, kI u), (2, .pointer (some ⟨bz, 0, none⟩))] (env_ok 3 rfl) <| sr <| L_op <| x_box rfl rfl rfl fun b3 => L_op <| x_box rfl rfl rfl fun b4 => ag rfl rfl <| nx ?_
  refine fa rfl rfl fa171_0 <| L_val rfl (v_load rfl ty3 HS (by exact rfl)) ?_
  refine L_val rfl (v_load rfl ty3 (.there (.there hh)) (by exact rfl)) <| L_pur rfl (p_eql rfl rfl) <| ag rfl rfl <| nq <| J_ret ?_
  refine J_return (()) Tryz.results113 (.tmp rfl .nil) ?_ ?_
  · rfl
  · exact SU

set_option maxRecDepth 100000 in
set_option maxHeartbeats 4000000 in
theorem emptyClo {E : World} {l : List As} {bz : Nat} {z : Int} {a u : Int × Int} (hh : Has (blk bz 3 [.int .i64 z]) l) :
    Con Tryz.prog 114 #[kI a, kI u, .pointer (some ⟨bz, 0, none⟩)] E l (fun _ : Unit => .bool (decide (a.1 = z))) (fun _ => l) := by
  refine Con.body (vs := [kI a, kI u, .pointer (some ⟨bz, 0, none⟩)]) (n := 10) Tryz.func114 rfl rfl [(0, kI a), (1, kI u), (2, .pointer (some ⟨bz, 0, none⟩))] (env_ok 3 rfl) <| sr <| L_op <| x_box rfl rfl rfl fun b3 => L_op <| x_box rfl rfl rfl fun b4 => ag rfl rfl <| nx ?_
  refine fa rfl rfl fa169_0 <| L_val rfl (v_load rfl ty3 HS (by exact rfl)) ?_
  refine L_val rfl (v_load rfl ty3 (.there (.there hh)) (by exact rfl)) <| L_pur rfl (p_eql rfl rfl) <| ag rfl rfl <| nq <| J_ret ?_
  refine J_return (()) Tryz.results114 (.tmp rfl .nil) ?_ ?_
  · rfl
  · exact SU

set_option maxRecDepth 100000 in
set_option maxHeartbeats 4000000 in
theorem dropC {E : World} {l m : List As} {b o : Nat} {ps : List (Place × M1)} {z : Int} (hp : Pick (spA b o ps) l m) (hz : ps.length ≤ 1000000) :
    Con Tryz.prog 78 #[.pointer (some ⟨b, o, none⟩), .int .i64 z] E l (fun n : Int => .int .i64 n) (fun _ => spA b o (ps.filter fun e => !decide (e.2.1 = z)) :: m) := by
  refine Con.body (vs := [.pointer (some ⟨b, o, none⟩), .int .i64 z]) (n := 8) Tryz.func78 rfl rfl [(0, .pointer (some ⟨b, o, none⟩)), (1, .int .i64 z)] (env_ok 2 rfl) <| sr <| L_op <| x_box rfl rfl rfl fun b3 => ag rfl rfl <| nx <| mv rfl rfl <| L_pur rfl (p_makeFunc (.cons rfl .nil)) ?_
  refine L_op <| x_call Tryz.func112 nm112 bd112 (.cons rfl (.cons rfl .nil)) rfl (clearsC (ps := ps) (C := blk b3 3 [.int .i64 z]) (q := fun _ u => decide (u.1 = z)) Tryz.func113 nm113 bd113 (fun l' a u h => dropClo h) PX hz) fun _ => ?_
  refine ag rfl rfl <| nq <| J_ret ?_
  refine J_return (((ps.length : Int) - (((ps.filter fun e => !decide (e.2.1 = z)).length : Nat) : Int))) Tryz.results78 (.tmp rfl .nil) ?_ ?_
  · rfl
  · exact SU

set_option maxRecDepth 100000 in
set_option maxHeartbeats 4000000 in
theorem emptyC {E : World} {l m : List As} {b o : Nat} {ps : List (Place × M1)} {z : Int} (hp : Pick (spA b o ps) l m) (hz : ps.length ≤ 1000000) :
    Con Tryz.prog 79 #[.pointer (some ⟨b, o, none⟩), .int .i64 z] E l (fun n : Int => .int .i64 n) (fun _ => spA b o (ps.filter fun e => !decide (e.1.1 = z)) :: m) := by
  refine Con.body (vs := [.pointer (some ⟨b, o, none⟩), .int .i64 z]) (n := 8) Tryz.func79 rfl rfl [(0, .pointer (some ⟨b, o, none⟩)), (1, .int .i64 z)] (env_ok 2 rfl) <| sr <| L_op <| x_box rfl rfl rfl fun b3 => ag rfl rfl <| nx <| mv rfl rfl <| L_pur rfl (p_makeFunc (.cons rfl .nil)) ?_
  refine L_op <| x_call Tryz.func112 nm112 bd112 (.cons rfl (.cons rfl .nil)) rfl (clearsC (ps := ps) (C := blk b3 3 [.int .i64 z]) (q := fun a _ => decide (a.1 = z)) Tryz.func114 nm114 bd114 (fun l' a u h => emptyClo h) PX hz) fun _ => ?_
  refine ag rfl rfl <| nq <| J_ret ?_
  refine J_return (((ps.length : Int) - (((ps.filter fun e => !decide (e.1.1 = z)).length : Nat) : Int))) Tryz.results79 (.tmp rfl .nil) ?_ ?_
  · rfl
  · exact SU

def rem {α : Type} (xs : List (Int × α)) (u : Int) : List (Int × α) := xs.filter fun x => !decide (x.1 = u)
theorem ptrs_rem {α : Type} {xs : List (Int × Nat × α)} {u : Int} : del (ptrs xs) u = ptrs (rem xs u) := by
  unfold del ptrs rem
  rw [List.filter_map]; rfl
def kGone (s : KS) (k u : Int) : KS :=
  if k = 4 then { s with ep := rem s.ep u } else if k = 5 then { s with nt := rem s.nt u } else if k = 7 then { s with rp := rem s.rp u } else if k = 3 then { s with mp := s.mp.filter fun e => !decide (e.2.1 = u) } else if k = 8 then { s with mp := s.mp.filter fun e => !decide (e.1.1 = u), sp := del s.sp u } else if k = 6 then { s with q := qRem s.q u, th := del s.th u } else if k = 9 then { s with rg := rem s.rg u } else s
set_option maxRecDepth 100000 in
set_option maxHeartbeats 4000000 in
theorem coGone {E : World} {l m : List As} {p : Nat} {s : KS} (hp : Pick (coA p s) l m) {k u : Int} (hq : s.q.length ≤ 90000) (hz : s.mp.length ≤ 1000000) :
  Con Tryz.prog 53 #[.pointer (some ⟨p, 0, none⟩), .agg (encI (k, u)).toArray] E l (fun _ : Unit => .tuple #[]) (fun _ => coA p (kGone s k u) :: m) := by
 refine Con.body (vs := [.pointer (some ⟨p, 0, none⟩), .agg (encI (k, u)).toArray]) (n := 74) Tryz.func53 rfl rfl [(0, .pointer (some ⟨p, 0, none⟩)), (1, .agg (encI (k, u)).toArray)] (env_ok 2 rfl) <| J_pick hp <| J_coO fun bn be br bg bt bs bp bl bk _ => sr <| L_op <| x_box rfl rfl rfl fun b3 => nx <| fa rfl rfl fa82_0 ?_
 refine L_val rfl (v_load rfl ty3 HS (by exact rfl)) ?_
 refine nq <| J_block <| sr <| L_pur rfl (p_eql rfl rfl) <| ag rfl rfl <| nq ?_
 refine C_dec rfl (fun h6 => ?_) (fun h6 => ?_)
 ·
  refine J_drawT 6 mixed (by kernel_rfl) <| sm rfl rfl <| sp rfl (p_nilCheck rfl) <| sp rfl (p_fieldAddr rfl fa117_10) <| S_val rfl (v_loadL (o := 13) (i := 1) rfl ty89 HS rfl (by exact rfl)) ?_
  refine sp rfl (p_fieldAddr rfl fa82_1) <| S_val rfl (v_load rfl ty3 HS (by exact rfl)) ?_
  refine S_nil <| L_op <| x_delete (ek := kZ) (ev := evA) (a := u) rfl rfl ky3 Tryz.underlying89 PC ?_
  refine J_pick (A := mapV kZ evA (.map (some be)) _) PC ?_
  refine J_mapEq (qs := ptrs (rem s.ep u)) ptrs_rem <| J_pick (A := each epF s.ep) PC ?_
  refine J_eachSub (ys := rem s.ep u) List.filter_sublist <| L_nil <| Q_blk_normal <| J_endnormal <| J_coS (p := p) (s := { s with ep := rem s.ep u }) bn be br bg bt bs bp bl bk PX trivial ?_
  refine J_asTo (B := coA p (kGone s k u)) (by unfold kGone; rw [if_pos h6]) ?_
  exact J_return (()) Tryz.results53 .nil rfl SU
 ·
  refine sr <| L_pur rfl (p_eql rfl rfl) <| ag rfl rfl <| nq ?_
  refine C_dec rfl (fun h14 => ?_) (fun h14 => ?_)
  ·
   refine J_drawT 6 mixed (by kernel_rfl) <| sm rfl rfl <| sp rfl (p_nilCheck rfl) <| sp rfl (p_fieldAddr rfl fa117_9) <| S_val rfl (v_loadL (o := 13) (i := 0) rfl ty88 HS rfl (by exact rfl)) ?_
   refine sp rfl (p_fieldAddr rfl fa82_1) <| S_val rfl (v_load rfl ty3 HS (by exact rfl)) ?_
   refine S_nil <| L_op <| x_delete (ek := kZ) (ev := evA) (a := u) rfl rfl ky3 Tryz.underlying88 PC ?_
   refine J_pick (A := mapV kZ evA (.map (some bn)) _) PC ?_
   refine J_mapEq (qs := ptrs (rem s.nt u)) ptrs_rem <| J_pick (A := each ntF s.nt) PC ?_
   refine J_eachSub (ys := rem s.nt u) List.filter_sublist <| L_nil <| Q_blk_normal <| J_endnormal <| J_coS (p := p) (s := { s with nt := rem s.nt u }) bn be br bg bt bs bp bl bk PX trivial ?_
   refine J_asTo (B := coA p (kGone s k u)) (by unfold kGone; rw [if_neg h6, if_pos h14]) ?_
   exact J_return (()) Tryz.results53 .nil rfl SU
  ·
   refine sr <| L_pur rfl (p_eql rfl rfl) <| ag rfl rfl <| nq ?_
   refine C_dec rfl (fun h22 => ?_) (fun h22 => ?_)
   ·
    refine J_drawT 6 mixed (by kernel_rfl) <| sm rfl rfl <| sp rfl (p_nilCheck rfl) <| sp rfl (p_fieldAddr rfl fa117_11) <| S_val rfl (v_loadL (o := 13) (i := 2) rfl ty90 HS rfl (by exact rfl)) ?_
    refine sp rfl (p_fieldAddr rfl fa82_1) <| S_val rfl (v_load rfl ty3 HS (by exact rfl)) ?_
    refine S_nil <| L_op <| x_delete (ek := kZ) (ev := evA) (a := u) rfl rfl ky3 Tryz.underlying90 PC ?_
    refine J_pick (A := mapV kZ evA (.map (some br)) _) PC ?_
    refine J_mapEq (qs := ptrs (rem s.rp u)) ptrs_rem <| J_pick (A := each rpF s.rp) PC ?_
    refine J_eachSub (ys := rem s.rp u) List.filter_sublist <| L_nil <| Q_blk_normal <| J_endnormal <| J_coS (p := p) (s := { s with rp := rem s.rp u }) bn be br bg bt bs bp bl bk PX trivial ?_
    refine J_asTo (B := coA p (kGone s k u)) (by unfold kGone; rw [if_neg h6, if_neg h14, if_pos h22]) ?_
    exact J_return (()) Tryz.results53 .nil rfl SU
   ·
    refine sr <| L_pur rfl (p_eql rfl rfl) <| ag rfl rfl <| nq ?_
    refine C_dec rfl (fun h30 => ?_) (fun h30 => ?_)
    ·
     refine J_drawT 5 mixed (by kernel_rfl) <| sm rfl rfl <| sp rfl (p_nilCheck rfl) <| sp rfl (p_fieldAddr rfl fa117_4) <| sp rfl (p_fieldAddr rfl fa82_1) <| S_val rfl (v_load rfl ty3 HS (by exact rfl)) ?_
     refine S_nil <| L_op <| x_call Tryz.func78 nm78 bd78 (.cons rfl (.cons rfl .nil)) rfl (dropC (ps := s.mp) (z := u) PC hz) fun _ => ?_
     refine L_nil <| Q_blk_normal <| J_endnormal <| J_coS (p := p) (s := { s with mp := s.mp.filter fun e => !decide (e.2.1 = u) }) bn be br bg bt bs bp bl bk PX trivial ?_
     refine J_asTo (B := coA p (kGone s k u)) (by unfold kGone; rw [if_neg h6, if_neg h14, if_neg h22, if_pos h30]) ?_
     exact J_return (()) Tryz.results53 .nil rfl SU
    ·
     refine sr <| L_pur rfl (p_eql rfl rfl) <| ag rfl rfl <| nq ?_
     refine C_dec rfl (fun h38 => ?_) (fun h38 => ?_)
     ·
      refine J_seq <| J_drawT 5 mixed (by kernel_rfl) <| sm rfl rfl <| sp rfl (p_nilCheck rfl) <| sp rfl (p_fieldAddr rfl fa117_4) <| sp rfl (p_fieldAddr rfl fa82_1) <| S_val rfl (v_load rfl ty3 HS (by exact rfl)) ?_
      refine S_nil <| L_op <| x_call Tryz.func79 nm79 bd79 (.cons rfl (.cons rfl .nil)) rfl (emptyC (ps := s.mp) (z := u) PC hz) fun _ => ?_
      refine nq <| J_drawT 6 mixed (by kernel_rfl) <| sm rfl rfl <| sp rfl (p_nilCheck rfl) <| sp rfl (p_fieldAddr rfl fa117_14) <| S_val rfl (v_loadL (o := 13) (i := 5) rfl ty93 HS rfl (by exact rfl)) ?_
      refine sp rfl (p_fieldAddr rfl fa82_1) <| S_val rfl (v_load rfl ty3 HS (by exact rfl)) ?_
      refine S_nil <| L_op <| x_delete (ek := kZ) (ev := evB) (a := u) rfl rfl ky3 Tryz.underlying93 PC ?_
      refine L_nil <| Q_blk_normal <| J_endnormal <| J_coS (p := p) (s := { s with mp := s.mp.filter fun e => !decide (e.1.1 = u), sp := del s.sp u }) bn be br bg bt bs bp bl bk PX trivial ?_
      refine J_asTo (B := coA p (kGone s k u)) (by unfold kGone; rw [if_neg h6, if_neg h14, if_neg h22, if_neg h30, if_pos h38]) ?_
      exact J_return (()) Tryz.results53 .nil rfl SU
     ·
      refine sr <| L_pur rfl (p_eql rfl rfl) <| ag rfl rfl <| nq ?_
      refine C_dec rfl (fun h52 => ?_) (fun h52 => ?_)
      ·
       refine J_seq <| J_drawT 5 mixed (by kernel_rfl) <| sm rfl rfl <| sp rfl (p_nilCheck rfl) <| sp rfl (p_fieldAddr rfl fa117_5) <| sp rfl (p_fieldAddr rfl fa82_1) <| S_val rfl (v_load rfl ty3 HS (by exact rfl)) ?_
       refine S_nil <| L_op <| x_call Tryz.func80 nm80 bd80 (.cons rfl (.cons rfl .nil)) rfl (qRemC (q := s.q) (i := u) PC (by omega)) fun _ => ?_
       refine nq <| J_drawT 6 mixed (by kernel_rfl) <| sm rfl rfl <| sp rfl (p_nilCheck rfl) <| sp rfl (p_fieldAddr rfl fa117_13) <| S_val rfl (v_loadL (o := 13) (i := 4) rfl ty92 HS rfl (by exact rfl)) ?_
       refine sp rfl (p_fieldAddr rfl fa82_1) <| S_val rfl (v_load rfl ty3 HS (by exact rfl)) ?_
       refine S_nil <| L_op <| x_delete (ek := kZ) (ev := evT) (a := u) rfl rfl ky3 Tryz.underlying92 PC ?_
       refine L_nil <| Q_blk_normal <| J_endnormal <| J_coS (p := p) (s := { s with q := qRem s.q u, th := del s.th u }) bn be br bg bt bs bp bl bk PX trivial ?_
       refine J_asTo (B := coA p (kGone s k u)) (by unfold kGone; rw [if_neg h6, if_neg h14, if_neg h22, if_neg h30, if_neg h38, if_pos h52]) ?_
       exact J_return (()) Tryz.results53 .nil rfl SU
      ·
       refine sr <| L_pur rfl (p_eql rfl rfl) <| ag rfl rfl <| nq ?_
       refine C_dec rfl (fun h66 => ?_) (fun h66 => ?_)
       ·
        refine J_drawT 6 mixed (by kernel_rfl) <| sm rfl rfl <| sp rfl (p_nilCheck rfl) <| sp rfl (p_fieldAddr rfl fa117_12) <| S_val rfl (v_loadL (o := 13) (i := 3) rfl ty91 HS rfl (by exact rfl)) ?_
        refine sp rfl (p_fieldAddr rfl fa82_1) <| S_val rfl (v_load rfl ty3 HS (by exact rfl)) ?_
        refine S_nil <| L_op <| x_delete (ek := kZ) (ev := evA) (a := u) rfl rfl ky3 Tryz.underlying91 PC ?_
        refine J_pick (A := mapV kZ evA (.map (some bg)) _) PC ?_
        refine J_mapEq (qs := ptrs (rem s.rg u)) ptrs_rem <| J_pick (A := each (rgF s.mb) s.rg) PC ?_
        refine J_eachSub (ys := rem s.rg u) List.filter_sublist <| L_nil <| Q_blk_normal <| J_endnormal <| J_coS (p := p) (s := { s with rg := rem s.rg u }) bn be br bg bt bs bp bl bk PX trivial ?_
        refine J_asTo (B := coA p (kGone s k u)) (by unfold kGone; rw [if_neg h6, if_neg h14, if_neg h22, if_neg h30, if_neg h38, if_neg h52, if_pos h66]) ?_
        exact J_return (()) Tryz.results53 .nil rfl SU
       ·
        refine J_skip <| Q_blk_normal <| J_endnormal <| J_coS (p := p) (s := s) bn be br bg bt bs bp bl bk PX trivial ?_
        refine J_asTo (B := coA p (kGone s k u)) (by unfold kGone; rw [if_neg h6, if_neg h14, if_neg h22, if_neg h30, if_neg h38, if_neg h52, if_neg h66]) ?_
        exact J_return (()) Tryz.results53 .nil rfl SU

end Go.Pse
