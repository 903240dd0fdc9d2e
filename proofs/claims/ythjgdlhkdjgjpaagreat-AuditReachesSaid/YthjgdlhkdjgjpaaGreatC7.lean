/-
  The units of those that are there, rising.
-/
import Derived.Test.YthjgdlhkdjgjpaaGreatC6
import Derived.Test.YthjgdlhkdjgjpaaGreatSeq
import Derived.Test.YthjgdlhkdjgjpaaGreatSort
import Derived.Test.YthjgdlhkdjgjpaaGreatSrt
namespace Go.Pse
open Go.RowKit Go.Proofs

theorem appSeqI {E : World} {l m : List As} {gf : FuncId} {fng : Func} {caps : Array Value} {S : List Int → Prop} {N : Nat} {A B : As} (hg : Tryz.prog.funcs[gf]? = some fng) (hgn : (fng.name == "runtime.NumGoroutine") = false) (hgb : fng.body.isNone = false) (hN : N ≤ 1000000) (hseq : Gives Tryz.prog gf caps kZ S N E A B) (hp : Picks [A, B] l m) :
    Con Tryz.prog 105 #[.slice none 0 0, .func (.func gf) #[] caps] E l (fun x : Value × List Int => x.1) (fun x => As.pure (S x.2) :: row 3 1 x.1 (x.2.map encN) :: A :: B :: m) := fun w H =>
  appendSeq (sT := 22) (el := 3) (fT := 161) (cells := encN) Tryz.func105 (by kernel_rfl) (by kernel_rfl) (by kernel_rfl) hg hgn hgb Tryz.underlying22 ty3 ty22 rfl (by omega) rfl (fun _ => .one rfl .nil) (fun _ => ⟨rfl, rfl⟩) (by omega) (by omega) hseq w (hp.sep H)
set_option maxRecDepth 100000 in
set_option maxHeartbeats 4000000 in
theorem collectI {E : World} {l m : List As} {gf : FuncId} {fng : Func} {caps : Array Value} {S : List Int → Prop} {N : Nat} {A B : As} (hg : Tryz.prog.funcs[gf]? = some fng) (hgn : (fng.name == "runtime.NumGoroutine") = false) (hgb : fng.body.isNone = false) (hN : N ≤ 1000000) (hseq : Gives Tryz.prog gf caps kZ S N E A B) (hp : Picks [A, B] l m) :
    Con Tryz.prog 72 #[.func (.func gf) #[] caps] E l (fun x : Value × List Int => x.1) (fun x => As.pure (S x.2) :: row 3 1 x.1 (x.2.map encN) :: A :: B :: m) := by
  refine Con.body (vs := [.func (.func gf) #[] caps]) (n := 5) Tryz.func72 rfl rfl [(0, .func (.func gf) #[] caps)] (env_ok 1 rfl) <| sr <| ag rfl rfl <| nx <| mv rfl rfl <| L_op <| x_call Tryz.func105 nm105 bd105 (.cons rfl (.cons rfl .nil)) rfl (appSeqI hg hgn hgb hN hseq hp) fun x4 => ag rfl rfl ?_
  refine nq <| J_ret ?_
  exact J_return (x4) Tryz.results72 (.tmp rfl .nil) rfl SU

theorem sortC {E : World} {l m : List As} {v : Value} {xs : List Int} (hp : Pick (row 3 1 v (xs.map encN)) l m) (hb : xs.length ≤ 1000000) : Con Tryz.prog 73 #[v] E l (fun _ : Unit => .tuple #[]) (fun _ => row 3 1 v ((sortZ xs).map encN) :: m) :=
  con_sortZ (fun b o cap w hH hb' => AnyM.slices_Sort_int Tryz.sortA b o cap xs w hH hb' (by omega)) (fun p cap w => AnyM.slices_Sort_int_none Tryz.sortA p cap w) hp
set_option maxRecDepth 100000 in
set_option maxHeartbeats 4000000 in
theorem sortedI {E : World} {l m : List As} {gf : FuncId} {fng : Func} {caps : Array Value} {ks : List Int} {A B : As} (hg : Tryz.prog.funcs[gf]? = some fng) (hgn : (fng.name == "runtime.NumGoroutine") = false) (hgb : fng.body.isNone = false) (hN : ks.length ≤ 1000000) (hseq : Gives Tryz.prog gf caps kZ (fun ss => ss.Perm ks) ks.length E A B) (hp : Picks [A, B] l m) :
    Con Tryz.prog 48 #[.func (.func gf) #[] caps] E l (fun v : Value => v) (fun v => row 3 1 v ((sortZ ks).map encN) :: A :: B :: m) := by
  refine Con.body (vs := [.func (.func gf) #[] caps]) (n := 9) Tryz.func48 rfl rfl [(0, .func (.func gf) #[] caps)] (env_ok 1 rfl) <| sr <| ag rfl rfl <| nx <| mv rfl rfl <| L_op <| x_call Tryz.func72 nm72 bd72 (.cons rfl .nil) rfl (collectI hg hgn hgb hN hseq hp) fun x5 => J_pure fun hperm => ?_
  obtain ⟨v5, ss⟩ := x5
  dsimp only at hperm ⊢
  refine ag rfl rfl <| nx <| mv rfl rfl <| L_op <| x_call Tryz.func73 nm73 bd73 (.cons rfl .nil) rfl (sortC (xs := ss) PC (by rw [hperm.length_eq]; exact hN)) fun _ => ?_
  refine nx <| mv rfl rfl <| ag rfl rfl <| nq <| J_ret <| J_rowEq (ys := (sortZ ks).map encN) (by rw [sortZ_perm hperm]) ?_
  exact J_return (v5) Tryz.results48 (.tmp rfl .nil) rfl SU


end Go.Pse
