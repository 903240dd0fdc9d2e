/-
  The units of those that are there, rising.
-/
import Derived.Test.YtkdifbmjhkfgoaaGreatC6
import Derived.Test.YtkdifbmjhkfgoaaGreatSeq
import Derived.Test.YtkdifbmjhkfgoaaGreatSort
import Derived.Test.YtkdifbmjhkfgoaaGreatSrt
namespace Go.Pse
open Go.RowKit Go.Proofs

set_option maxRecDepth 100000 in
set_option maxHeartbeats 4000000 in
theorem keys121 {E : World} {bm : Nat} {v : Value} {ps : List (Int × Th)} :
  Gives Tryz.prog 121 #[.pointer (some ⟨bm, 0, none⟩)] kZ (fun ss => ss.Perm (ps.map Prod.fst)) ps.length E (blk bm 137 [v]) (mapV kZ evT v ps) := by
 intro lp L hy
 show Con Tryz.prog 121 #[.func (.yield lp) #[] #[], .pointer (some ⟨bm, 0, none⟩)] E (blk bm 137 [v] :: mapV kZ evT v ps :: L []) _ _
 refine Con.body (vs := [.func (.yield lp) #[] #[], .pointer (some ⟨bm, 0, none⟩)]) (n := 14) Tryz.func121 rfl rfl [(0, .func (.yield lp) #[] #[]), (1, .pointer (some ⟨bm, 0, none⟩))] (env_ok 2 rfl) <| sr <| L_val rfl (v_load rfl ty137 HS (by exact rfl)) ?_
 refine L_op <| x_range (ek := kZ) (ev := evT) rfl Tryz.underlying137 PC rfl fun r5 => ?_
 refine nq <| J_block <| J_rangeKeyd (ek := kZ) (ev := evT) (ps := ps) HS fun hK => ?_
 refine J_loop (fun done => Come ps done) (fun done => rangeA kZ evT v r5 ps done :: blk bm 137 [v] :: L done) (fun done => [(5, .pointer (some ⟨r5, 0, none⟩)), (0, .func (.yield lp) #[] #[]), (1, .pointer (some ⟨bm, 0, none⟩))]) (fun done => ps.length - done.length) [] Come.nil SU KE ?_
 intro done hC
 refine sr ?_
 refine L_op (x_next (ek := kZ) (ev := evT) rfl PC rfl (fun k6 u6 hm6 hn6 => ?_) (fun hd6 => ?_))
 ·
  refine L_pur rfl (p_extract rfl rfl) <| nq <| J_seq <| C_true rfl <| J_skip <| Q_then <| J_block <| sr ?_
  refine L_val rfl (v_entry (ek := kZ) (ev := evT) rfl HS (by simp) hm6) ?_
  refine L_pur rfl (p_extract rfl rfl) <| ag rfl rfl <| nq <| J_seq <| J_regionIn <| LI_op <| J_pur (p_move rfl) rfl rfl rfl <| LI_op ?_
  refine J_pur (p_move rfl) rfl rfl rfl <| LI_yield rfl rfl rfl ((hy done k6 _ _ (hC.lt hK hm6 hn6))) <| LI_op <| J_pur (p_not rfl) rfl rfl rfl <| LI_nil <| Q_then <| C_false rfl <| J_skip ?_
  refine Q_blk_normal <| Q_then ?_
  exact J_again ((done ++ [k6])) (by have := hC.lt hK hm6 hn6; simp; omega) (hC.step hm6 hn6) SU KE
 ·
  refine L_pur rfl (p_extract rfl rfl) <| nq <| J_seq <| C_false rfl <| J_exit <| Q_then_exit <| Q_then_exit <| Q_blk_this ?_
  refine J_endnormal <| J_rangeEnd <| J_pure_in (p := done.Perm (ps.map Prod.fst)) (hC.perm hK hd6) ?_
  exact J_return (done) Tryz.results121 .nil rfl SU

set_option maxRecDepth 100000 in
set_option maxHeartbeats 4000000 in
theorem mapsKeys60 {E : World} {l : List As} {ob : Option Nat} :
    Con Tryz.prog 60 #[.map ob] E l (fun b : Nat => .func (.func 121) #[] #[.pointer (some ⟨b, 0, none⟩)]) (fun b => blk b 137 [.map ob] :: l) := by
  refine Con.body (vs := [.map ob]) (n := 4) Tryz.func60 rfl rfl [(0, .map ob)] (env_ok 1 rfl) <| sr <| L_op <| x_box rfl rfl rfl fun b1 => ag rfl rfl <| nx <| L_pur rfl (p_makeFunc (.cons rfl .nil)) <| ag rfl rfl ?_
  refine nq <| J_ret ?_
  exact J_return (b1) Tryz.results60 (.tmp rfl .nil) rfl SU

theorem appSeqI {E : World} {l m : List As} {gf : FuncId} {fng : Func} {caps : Array Value} {S : List Int → Prop} {N : Nat} {A B : As} (hg : Tryz.prog.funcs[gf]? = some fng) (hgn : (fng.name == "runtime.NumGoroutine") = false) (hgb : fng.body.isNone = false) (hN : N ≤ 1000000) (hseq : Gives Tryz.prog gf caps kZ S N E A B) (hp : Picks [A, B] l m) :
    Con Tryz.prog 155 #[.slice none 0 0, .func (.func gf) #[] caps] E l (fun x : Value × List Int => x.1) (fun x => As.pure (S x.2) :: row 3 1 x.1 (x.2.map encN) :: A :: B :: m) := fun w H =>
  appendSeq (sT := 22) (el := 3) (fT := 183) (cells := encN) Tryz.func155 (by kernel_rfl) (by kernel_rfl) (by kernel_rfl) hg hgn hgb Tryz.underlying22 ty3 ty22 rfl (by omega) rfl (fun _ => .one rfl .nil) (fun _ => ⟨rfl, rfl⟩) (by omega) (by omega) hseq w (hp.sep H)
set_option maxRecDepth 100000 in
set_option maxHeartbeats 4000000 in
theorem collectI {E : World} {l m : List As} {gf : FuncId} {fng : Func} {caps : Array Value} {S : List Int → Prop} {N : Nat} {A B : As} (hg : Tryz.prog.funcs[gf]? = some fng) (hgn : (fng.name == "runtime.NumGoroutine") = false) (hgb : fng.body.isNone = false) (hN : N ≤ 1000000) (hseq : Gives Tryz.prog gf caps kZ S N E A B) (hp : Picks [A, B] l m) :
    Con Tryz.prog 119 #[.func (.func gf) #[] caps] E l (fun x : Value × List Int => x.1) (fun x => As.pure (S x.2) :: row 3 1 x.1 (x.2.map encN) :: A :: B :: m) := by
  refine Con.body (vs := [.func (.func gf) #[] caps]) (n := 5) Tryz.func119 rfl rfl [(0, .func (.func gf) #[] caps)] (env_ok 1 rfl) <| sr <| ag rfl rfl <| nx <| mv rfl rfl <| L_op <| x_call Tryz.func155 nm155 bd155 (.cons rfl (.cons rfl .nil)) rfl (appSeqI hg hgn hgb hN hseq hp) fun x4 => ag rfl rfl ?_
  refine nq <| J_ret ?_
  exact J_return (x4) Tryz.results119 (.tmp rfl .nil) rfl SU

theorem sortC {E : World} {l m : List As} {v : Value} {xs : List Int} (hp : Pick (row 3 1 v (xs.map encN)) l m) (hb : xs.length ≤ 1000000) : Con Tryz.prog 120 #[v] E l (fun _ : Unit => .tuple #[]) (fun _ => row 3 1 v ((sortZ xs).map encN) :: m) :=
  con_sortZ (fun b o cap w hH hb' => AnyM.slices_Sort_int Tryz.sortA b o cap xs w hH hb' (by omega)) (fun p cap w => AnyM.slices_Sort_int_none Tryz.sortA p cap w) hp
set_option maxRecDepth 100000 in
set_option maxHeartbeats 4000000 in
theorem sortedI {E : World} {l m : List As} {gf : FuncId} {fng : Func} {caps : Array Value} {ks : List Int} {A B : As} (hg : Tryz.prog.funcs[gf]? = some fng) (hgn : (fng.name == "runtime.NumGoroutine") = false) (hgb : fng.body.isNone = false) (hN : ks.length ≤ 1000000) (hseq : Gives Tryz.prog gf caps kZ (fun ss => ss.Perm ks) ks.length E A B) (hp : Picks [A, B] l m) :
    Con Tryz.prog 59 #[.func (.func gf) #[] caps] E l (fun v : Value => v) (fun v => row 3 1 v ((sortZ ks).map encN) :: A :: B :: m) := by
  refine Con.body (vs := [.func (.func gf) #[] caps]) (n := 9) Tryz.func59 rfl rfl [(0, .func (.func gf) #[] caps)] (env_ok 1 rfl) <| sr <| ag rfl rfl <| nx <| mv rfl rfl <| L_op <| x_call Tryz.func119 nm119 bd119 (.cons rfl .nil) rfl (collectI hg hgn hgb hN hseq hp) fun x5 => J_pure fun hperm => ?_
  obtain ⟨v5, ss⟩ := x5
  dsimp only at hperm ⊢
  refine ag rfl rfl <| nx <| mv rfl rfl <| L_op <| x_call Tryz.func120 nm120 bd120 (.cons rfl .nil) rfl (sortC (xs := ss) PC (by rw [hperm.length_eq]; exact hN)) fun _ => ?_
  refine nx <| mv rfl rfl <| ag rfl rfl <| nq <| J_ret <| J_rowEq (ys := (sortZ ks).map encN) (by rw [sortZ_perm hperm]) ?_
  exact J_return (v5) Tryz.results59 (.tmp rfl .nil) rfl SU

set_option maxRecDepth 100000 in
set_option maxHeartbeats 4000000 in
theorem coThreads {E : World} {l m : List As}{p : Nat} {s : KS} (hp : Pick (coA p s) l m) (hb : s.th.length ≤ 1000) :
    Con Tryz.prog 11 #[.pointer (some ⟨p, 0, none⟩)] E l (fun v : Value => v) (fun v => row 3 1 v ((sortZ (s.th.map Prod.fst)).map encN) :: coA p s :: m) := by
  refine Con.body (vs := [.pointer (some ⟨p, 0, none⟩)]) (n := 9) Tryz.func11 rfl rfl [(0, .pointer (some ⟨p, 0, none⟩))] (env_ok 1 rfl) <| J_pick hp <| J_coO fun bn be br bg bt bs bp bl bk _ => sr <| ag rfl rfl <| nx <| mv rfl rfl <| nc rfl rfl ?_
  refine fa rfl rfl fa162_13 <| L_val rfl (v_loadL (o := 13) (i := 4) rfl ty137 HS rfl (by exact rfl)) ?_
  refine L_op <| x_call Tryz.func60 nm60 bd60 (.cons rfl .nil) rfl (mapsKeys60) fun b7 => L_op <| x_call Tryz.func59 nm59 bd59 (.cons rfl .nil) rfl (sortedI (ks := s.th.map Prod.fst) (A := blk b7 137 [.map (some bt)]) (B := mapV kZ evT (.map (some bt)) s.th) Tryz.func121 nm121 bd121 (by simp; omega) (by simpa using keys121) PX) <| JR fun a8 c8 hw8 hl8 hm8 hz8 => ag rfl rfl <| nq <| J_ret ?_
  refine J_coS (p := p) (s := s) bn be br bg bt bs bp bl bk PX trivial ?_
  exact J_return (_) Tryz.results11 (.tmp rfl .nil) rfl SU

end Go.Pse
