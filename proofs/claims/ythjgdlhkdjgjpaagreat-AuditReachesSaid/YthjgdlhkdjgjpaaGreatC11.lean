/-
  Places, pages: sorted keys of a map.
-/
import Derived.Test.YthjgdlhkdjgjpaaGreatC10
import Derived.Test.YthjgdlhkdjgjpaaGreatSeq
import Derived.Test.YthjgdlhkdjgjpaaGreatSrt
namespace Go.Pse
open Go.RowKit Go.Proofs

set_option maxRecDepth 100000 in
set_option maxHeartbeats 4000000 in
theorem keys120 {E : World} {bm : Nat} {v : Value} {ps : List ((Int × Int) × SV)} :
  Gives Tryz.prog 120 #[.pointer (some ⟨bm, 0, none⟩)] kI (fun ss => ss.Perm (ps.map Prod.fst)) ps.length E (blk bm 69 [v]) (mapV kI evS v ps) := by
 intro lp L hy
 show Con Tryz.prog 120 #[.func (.yield lp) #[] #[], .pointer (some ⟨bm, 0, none⟩)] E (blk bm 69 [v] :: mapV kI evS v ps :: L []) _ _
 refine Con.body (vs := [.func (.yield lp) #[] #[], .pointer (some ⟨bm, 0, none⟩)]) (n := 14) Tryz.func120 rfl rfl [(0, .func (.yield lp) #[] #[]), (1, .pointer (some ⟨bm, 0, none⟩))] (env_ok 2 rfl) <| sr <| L_val rfl (v_load rfl ty69 HS (by exact rfl)) ?_
 refine L_op <| x_range (ek := kI) (ev := evS) rfl Tryz.underlying69 PC rfl fun r5 => ?_
 refine nq <| J_block <| J_rangeKeyd (ek := kI) (ev := evS) (ps := ps) HS fun hK => ?_
 refine J_loop (fun done => Come ps done) (fun done => rangeA kI evS v r5 ps done :: blk bm 69 [v] :: L done) (fun done => [(5, .pointer (some ⟨r5, 0, none⟩)), (0, .func (.yield lp) #[] #[]), (1, .pointer (some ⟨bm, 0, none⟩))]) (fun done => ps.length - done.length) [] Come.nil SU KE ?_
 intro done hC
 refine sr ?_
 refine L_op (x_next (ek := kI) (ev := evS) rfl PC rfl (fun k6 u6 hm6 hn6 => ?_) (fun hd6 => ?_))
 ·
  refine L_pur rfl (p_extract rfl rfl) <| nq <| J_seq <| C_true rfl <| J_skip <| Q_then <| J_block <| sr ?_
  refine L_val rfl (v_entry (ek := kI) (ev := evS) rfl HS (by simp) hm6) ?_
  refine L_pur rfl (p_extract rfl rfl) <| L_op <| x_alloc ty129 rfl fun b3 => L_op <| x_store rfl rfl ty129 rfl SM SM RO PT ?_
  refine nq <| J_seq <| J_regionIn <| LI_op <| J_pur (p_move rfl) rfl rfl rfl <| LI_op <| J_val (v_loadA rfl ty129 HS CT) rfl rfl rfl ?_
  refine LI_yield rfl rfl rfl ((hy done k6 _ _ (hC.lt hK hm6 hn6)).drop) <| LI_op <| J_pur (p_not rfl) rfl rfl rfl <| LI_nil <| Q_then <| C_false rfl <| J_skip <| Q_blk_normal ?_
  refine Q_then ?_
  exact J_again ((done ++ [k6])) (by have := hC.lt hK hm6 hn6; simp; omega) (hC.step hm6 hn6) SU KE
 ·
  refine L_pur rfl (p_extract rfl rfl) <| nq <| J_seq <| C_false rfl <| J_exit <| Q_then_exit <| Q_then_exit <| Q_blk_this ?_
  refine J_endnormal <| J_rangeEnd <| J_pure_in (p := done.Perm (ps.map Prod.fst)) (hC.perm hK hd6) ?_
  exact J_return (done) Tryz.results120 .nil rfl SU

set_option maxRecDepth 100000 in
set_option maxHeartbeats 4000000 in
theorem mapsKeys81 {E : World} {l : List As} {ob : Option Nat} :
    Con Tryz.prog 81 #[.map ob] E l (fun b : Nat => .func (.func 120) #[] #[.pointer (some ⟨b, 0, none⟩)]) (fun b => blk b 69 [.map ob] :: l) := by
  refine Con.body (vs := [.map ob]) (n := 4) Tryz.func81 rfl rfl [(0, .map ob)] (env_ok 1 rfl) <| sr <| L_op <| x_box rfl rfl rfl fun b1 => ag rfl rfl <| nx <| L_pur rfl (p_makeFunc (.cons rfl .nil)) <| ag rfl rfl ?_
  refine nq <| J_ret ?_
  exact J_return (b1) Tryz.results81 (.tmp rfl .nil) rfl SU

theorem slApp {E : World} {l m : List As} {gf : FuncId} {fng : Func} {caps : Array Value} {S : List (Int × Int) → Prop} {N : Nat} {A B : As} (hg : Tryz.prog.funcs[gf]? = some fng) (hgn : (fng.name == "runtime.NumGoroutine") = false) (hgb : fng.body.isNone = false) (hN : N ≤ 1000000) (hseq : Gives Tryz.prog gf caps kI S N E A B) (hp : Picks [A, B] l m) :
    Con Tryz.prog 143 #[.slice none 0 0, .func (.func gf) #[] caps] E l (fun x : Value × List (Int × Int) => x.1) (fun x => As.pure (S x.2) :: row 129 2 x.1 (x.2.map encI) :: A :: B :: m) := fun w H =>
  appendSeqS (sT := 178) (el := 129) (fT := 204) (cells := encI) Tryz.func143 (by kernel_rfl) (by kernel_rfl) (by kernel_rfl) hg hgn hgb Tryz.underlying178 ty129 ty178 rfl (by omega) rfl (fun _ => rfl) (fun _ => ⟨rfl, rfl⟩) (by omega) (by omega) hseq w (hp.sep H)
set_option maxRecDepth 100000 in
set_option maxHeartbeats 4000000 in
theorem slCol {E : World} {l m : List As} {gf : FuncId} {fng : Func} {caps : Array Value} {S : List (Int × Int) → Prop} {N : Nat} {A B : As} (hg : Tryz.prog.funcs[gf]? = some fng) (hgn : (fng.name == "runtime.NumGoroutine") = false) (hgb : fng.body.isNone = false) (hN : N ≤ 1000000) (hseq : Gives Tryz.prog gf caps kI S N E A B) (hp : Picks [A, B] l m) :
    Con Tryz.prog 118 #[.func (.func gf) #[] caps] E l (fun x : Value × List (Int × Int) => x.1) (fun x => As.pure (S x.2) :: row 129 2 x.1 (x.2.map encI) :: A :: B :: m) := by
  refine Con.body (vs := [.func (.func gf) #[] caps]) (n := 5) Tryz.func118 rfl rfl [(0, .func (.func gf) #[] caps)] (env_ok 1 rfl) <| sr <| ag rfl rfl <| nx <| mv rfl rfl <| L_op <| x_call Tryz.func143 nm143 bd143 (.cons rfl (.cons rfl .nil)) rfl (slApp hg hgn hgb hN hseq hp) fun x4 => ag rfl rfl ?_
  refine nq <| J_ret ?_
  exact J_return (x4) Tryz.results118 (.tmp rfl .nil) rfl SU

theorem slSort {E : World} {l m : List As} {v : Value} {xs : List (Int × Int)} (hp : Pick (row 129 2 v (xs.map encI)) l m) (hb : xs.length ≤ 1000000) : Con Tryz.prog 119 #[v, .func (.func 82) #[] #[]] E l (fun _ : Unit => .tuple #[]) (fun _ => row 129 2 v ((sortP xs).map encI) :: m) :=
  con_sortF Tryz.sortPl (fun w => ty129.isAgg w) (fun w => ty129.sizeOf w) (fun _ => rfl) (fun x v hv => by simp [encI] at hv; rcases hv with rfl | rfl <;> rfl) cmpP_swo cmpP_total (enters_of Tryz.func82 nm82 rfl) (fun x y W => cmpSl) hb hp
set_option maxRecDepth 100000 in
set_option maxHeartbeats 4000000 in
theorem slSd {E : World} {l m : List As} {gf : FuncId} {fng : Func} {caps : Array Value} {ks : List (Int × Int)} {A B : As} (hg : Tryz.prog.funcs[gf]? = some fng) (hgn : (fng.name == "runtime.NumGoroutine") = false) (hgb : fng.body.isNone = false) (hN : ks.length ≤ 1000000) (hseq : Gives Tryz.prog gf caps kI (fun ss => ss.Perm ks) ks.length E A B) (hp : Picks [A, B] l m) :
    Con Tryz.prog 80 #[.func (.func gf) #[] caps, .func (.func 82) #[] #[]] E l (fun v : Value => v) (fun v => row 129 2 v ((sortP ks).map encI) :: A :: B :: m) := by
  refine Con.body (vs := [.func (.func gf) #[] caps, .func (.func 82) #[] #[]]) (n := 12) Tryz.func80 rfl rfl [(0, .func (.func gf) #[] caps), (1, .func (.func 82) #[] #[])] (env_ok 2 rfl) <| sr <| ag rfl rfl <| nx <| mv rfl rfl <| L_op <| x_call Tryz.func118 nm118 bd118 (.cons rfl .nil) rfl (slCol hg hgn hgb hN hseq hp) fun x7 => J_pure fun hperm => ?_
  obtain ⟨v7, ss⟩ := x7
  dsimp only at hperm ⊢
  refine ag rfl rfl <| nx <| mv rfl rfl <| mv rfl rfl <| L_op <| x_call Tryz.func119 nm119 bd119 (.cons rfl (.cons rfl .nil)) rfl (slSort (xs := ss) PC (by rw [hperm.length_eq]; exact hN)) fun _ => ?_
  refine nx <| mv rfl rfl <| ag rfl rfl <| nq <| J_ret <| J_rowEq (ys := (sortP ks).map encI) (by rw [sortP_perm hperm]) ?_
  exact J_return (v7) Tryz.results80 (.tmp rfl .nil) rfl SU

set_option maxRecDepth 100000 in
set_option maxHeartbeats 4000000 in
theorem keys109 {E : World} {bm : Nat} {v : Value} {ps : List ((Int × Int) × (Int × Int))} :
  Gives Tryz.prog 109 #[.pointer (some ⟨bm, 0, none⟩)] kI (fun ss => ss.Perm (ps.map Prod.fst)) ps.length E (blk bm 75 [v]) (mapV kI kI v ps) := by
 intro lp L hy
 show Con Tryz.prog 109 #[.func (.yield lp) #[] #[], .pointer (some ⟨bm, 0, none⟩)] E (blk bm 75 [v] :: mapV kI kI v ps :: L []) _ _
 refine Con.body (vs := [.func (.yield lp) #[] #[], .pointer (some ⟨bm, 0, none⟩)]) (n := 14) Tryz.func109 rfl rfl [(0, .func (.yield lp) #[] #[]), (1, .pointer (some ⟨bm, 0, none⟩))] (env_ok 2 rfl) <| sr <| L_val rfl (v_load rfl ty75 HS (by exact rfl)) ?_
 refine L_op <| x_range (ek := kI) (ev := kI) rfl Tryz.underlying75 PC rfl fun r5 => ?_
 refine nq <| J_block <| J_rangeKeyd (ek := kI) (ev := kI) (ps := ps) HS fun hK => ?_
 refine J_loop (fun done => Come ps done) (fun done => rangeA kI kI v r5 ps done :: blk bm 75 [v] :: L done) (fun done => [(5, .pointer (some ⟨r5, 0, none⟩)), (0, .func (.yield lp) #[] #[]), (1, .pointer (some ⟨bm, 0, none⟩))]) (fun done => ps.length - done.length) [] Come.nil SU KE ?_
 intro done hC
 refine sr ?_
 refine L_op (x_next (ek := kI) (ev := kI) rfl PC rfl (fun k6 u6 hm6 hn6 => ?_) (fun hd6 => ?_))
 ·
  refine L_pur rfl (p_extract rfl rfl) <| nq <| J_seq <| C_true rfl <| J_skip <| Q_then <| J_block <| sr ?_
  refine L_val rfl (v_entry (ek := kI) (ev := kI) rfl HS (by simp) hm6) ?_
  refine L_pur rfl (p_extract rfl rfl) <| L_op <| x_alloc ty54 rfl fun b3 => L_op <| x_store rfl rfl ty54 rfl SM SM RO PT ?_
  refine nq <| J_seq <| J_regionIn <| LI_op <| J_pur (p_move rfl) rfl rfl rfl <| LI_op <| J_val (v_loadA rfl ty54 HS CT) rfl rfl rfl ?_
  refine LI_yield rfl rfl rfl ((hy done k6 _ _ (hC.lt hK hm6 hn6)).drop) <| LI_op <| J_pur (p_not rfl) rfl rfl rfl <| LI_nil <| Q_then <| C_false rfl <| J_skip <| Q_blk_normal ?_
  refine Q_then ?_
  exact J_again ((done ++ [k6])) (by have := hC.lt hK hm6 hn6; simp; omega) (hC.step hm6 hn6) SU KE
 ·
  refine L_pur rfl (p_extract rfl rfl) <| nq <| J_seq <| C_false rfl <| J_exit <| Q_then_exit <| Q_then_exit <| Q_blk_this ?_
  refine J_endnormal <| J_rangeEnd <| J_pure_in (p := done.Perm (ps.map Prod.fst)) (hC.perm hK hd6) ?_
  exact J_return (done) Tryz.results109 .nil rfl SU

set_option maxRecDepth 100000 in
set_option maxHeartbeats 4000000 in
theorem mapsKeys76 {E : World} {l : List As} {ob : Option Nat} :
    Con Tryz.prog 76 #[.map ob] E l (fun b : Nat => .func (.func 109) #[] #[.pointer (some ⟨b, 0, none⟩)]) (fun b => blk b 75 [.map ob] :: l) := by
  refine Con.body (vs := [.map ob]) (n := 4) Tryz.func76 rfl rfl [(0, .map ob)] (env_ok 1 rfl) <| sr <| L_op <| x_box rfl rfl rfl fun b1 => ag rfl rfl <| nx <| L_pur rfl (p_makeFunc (.cons rfl .nil)) <| ag rfl rfl ?_
  refine nq <| J_ret ?_
  exact J_return (b1) Tryz.results76 (.tmp rfl .nil) rfl SU

theorem pgApp {E : World} {l m : List As} {gf : FuncId} {fng : Func} {caps : Array Value} {S : List (Int × Int) → Prop} {N : Nat} {A B : As} (hg : Tryz.prog.funcs[gf]? = some fng) (hgn : (fng.name == "runtime.NumGoroutine") = false) (hgb : fng.body.isNone = false) (hN : N ≤ 1000000) (hseq : Gives Tryz.prog gf caps kI S N E A B) (hp : Picks [A, B] l m) :
    Con Tryz.prog 138 #[.slice none 0 0, .func (.func gf) #[] caps] E l (fun x : Value × List (Int × Int) => x.1) (fun x => As.pure (S x.2) :: row 54 2 x.1 (x.2.map encI) :: A :: B :: m) := fun w H =>
  appendSeqS (sT := 171) (el := 54) (fT := 197) (cells := encI) Tryz.func138 (by kernel_rfl) (by kernel_rfl) (by kernel_rfl) hg hgn hgb Tryz.underlying171 ty54 ty171 rfl (by omega) rfl (fun _ => rfl) (fun _ => ⟨rfl, rfl⟩) (by omega) (by omega) hseq w (hp.sep H)
set_option maxRecDepth 100000 in
set_option maxHeartbeats 4000000 in
theorem pgCol {E : World} {l m : List As} {gf : FuncId} {fng : Func} {caps : Array Value} {S : List (Int × Int) → Prop} {N : Nat} {A B : As} (hg : Tryz.prog.funcs[gf]? = some fng) (hgn : (fng.name == "runtime.NumGoroutine") = false) (hgb : fng.body.isNone = false) (hN : N ≤ 1000000) (hseq : Gives Tryz.prog gf caps kI S N E A B) (hp : Picks [A, B] l m) :
    Con Tryz.prog 107 #[.func (.func gf) #[] caps] E l (fun x : Value × List (Int × Int) => x.1) (fun x => As.pure (S x.2) :: row 54 2 x.1 (x.2.map encI) :: A :: B :: m) := by
  refine Con.body (vs := [.func (.func gf) #[] caps]) (n := 5) Tryz.func107 rfl rfl [(0, .func (.func gf) #[] caps)] (env_ok 1 rfl) <| sr <| ag rfl rfl <| nx <| mv rfl rfl <| L_op <| x_call Tryz.func138 nm138 bd138 (.cons rfl (.cons rfl .nil)) rfl (pgApp hg hgn hgb hN hseq hp) fun x4 => ag rfl rfl ?_
  refine nq <| J_ret ?_
  exact J_return (x4) Tryz.results107 (.tmp rfl .nil) rfl SU

theorem pgSort {E : World} {l m : List As} {v : Value} {xs : List (Int × Int)} (hp : Pick (row 54 2 v (xs.map encI)) l m) (hb : xs.length ≤ 1000000) : Con Tryz.prog 108 #[v, .func (.func 77) #[] #[]] E l (fun _ : Unit => .tuple #[]) (fun _ => row 54 2 v ((sortP xs).map encI) :: m) :=
  con_sortF Tryz.sortPg (fun w => ty54.isAgg w) (fun w => ty54.sizeOf w) (fun _ => rfl) (fun x v hv => by simp [encI] at hv; rcases hv with rfl | rfl <;> rfl) cmpP_swo cmpP_total (enters_of Tryz.func77 nm77 rfl) (fun x y W => cmpPg) hb hp
set_option maxRecDepth 100000 in
set_option maxHeartbeats 4000000 in
theorem pgSd {E : World} {l m : List As} {gf : FuncId} {fng : Func} {caps : Array Value} {ks : List (Int × Int)} {A B : As} (hg : Tryz.prog.funcs[gf]? = some fng) (hgn : (fng.name == "runtime.NumGoroutine") = false) (hgb : fng.body.isNone = false) (hN : ks.length ≤ 1000000) (hseq : Gives Tryz.prog gf caps kI (fun ss => ss.Perm ks) ks.length E A B) (hp : Picks [A, B] l m) :
    Con Tryz.prog 75 #[.func (.func gf) #[] caps, .func (.func 77) #[] #[]] E l (fun v : Value => v) (fun v => row 54 2 v ((sortP ks).map encI) :: A :: B :: m) := by
  refine Con.body (vs := [.func (.func gf) #[] caps, .func (.func 77) #[] #[]]) (n := 12) Tryz.func75 rfl rfl [(0, .func (.func gf) #[] caps), (1, .func (.func 77) #[] #[])] (env_ok 2 rfl) <| sr <| ag rfl rfl <| nx <| mv rfl rfl <| L_op <| x_call Tryz.func107 nm107 bd107 (.cons rfl .nil) rfl (pgCol hg hgn hgb hN hseq hp) fun x7 => J_pure fun hperm => ?_
  obtain ⟨v7, ss⟩ := x7
  dsimp only at hperm ⊢
  refine ag rfl rfl <| nx <| mv rfl rfl <| mv rfl rfl <| L_op <| x_call Tryz.func108 nm108 bd108 (.cons rfl (.cons rfl .nil)) rfl (pgSort (xs := ss) PC (by rw [hperm.length_eq]; exact hN)) fun _ => ?_
  refine nx <| mv rfl rfl <| ag rfl rfl <| nq <| J_ret <| J_rowEq (ys := (sortP ks).map encI) (by rw [sortP_perm hperm]) ?_
  exact J_return (v7) Tryz.results75 (.tmp rfl .nil) rfl SU

end Go.Pse
