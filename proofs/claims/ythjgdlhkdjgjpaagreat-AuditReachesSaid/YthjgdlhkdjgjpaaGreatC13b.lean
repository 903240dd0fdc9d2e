/-
  Readers of the parts of the state, told of the whole.
-/
import Derived.Test.YthjgdlhkdjgjpaaGreatC13
namespace Go.Pse
open Go.RowKit Go.Proofs

theorem fr0 : Fr 0 [] ({ tmps := #[], defers := [] } : Act) := ⟨rfl, rfl, fun t v hv => by cases hv⟩
theorem J_con {α : Type} {Q : Program} {f : FuncId} {args : Array Value} {E : World} {l : List As} {rv : α → Value} {L L' : α → List As} (hc : Con Q f args E l rv L) (k : ∀ x, Jk E (L x) 0 [] fun _ w' => Sep E w' (L' x)) : Jk E l 0 [] fun _ w => Calls Q f args w fun e w' => ∃ x, e = .returned (rv x) ∧ Sep E w' (L' x) :=
  fun w _ H _ => (hc w H).mono fun e w' ⟨x, he, H'⟩ => ⟨x, he, k x w' _ H' fr0⟩
theorem J_end {E : World} {l l' : List As} (h : Sub l l') : Jk E l 0 [] fun _ w => Sep E w l' := fun _ _ H _ => h.sep H
theorem coSlAll {E : World} {l m : List As} {p : Nat} {s : KS} (hp : Pick (coA p s) l m) (hb : s.sl.length ≤ 1000000) :
    Con Tryz.prog 59 #[.pointer (some ⟨p, 6, none⟩)] E l (fun x : Value => x) (fun x => row 129 2 x ((sortP (s.sl.map Prod.fst)).map encI) :: coA p s :: m) := fun w H => by
  refine (?_ : Jk E l 0 [] fun _ w => Calls Tryz.prog 59 #[.pointer (some ⟨p, 6, none⟩)] w fun e w' => ∃ x, e = .returned ((fun x : Value => x) x) ∧ Sep E w' ((fun x : Value => row 129 2 x ((sortP (s.sl.map Prod.fst)).map encI) :: coA p s :: m) x)) w _ H fr0
  refine J_pick hp <| J_coO fun bn be br bg bt bs bp bl bk _ => J_con (slAllC (ps := s.sl) PC hb) fun x => ?_
  refine J_coS (p := p) (s := s) bn be br bg bt bs bp bl bk PX trivial ?_
  exact J_end SU
theorem coSlGet {E : World} {l m : List As} {p : Nat} {s : KS} (hp : Pick (coA p s) l m) {a : Place} :
    Con Tryz.prog 32 #[.pointer (some ⟨p, 6, none⟩), .agg (encI a).toArray] E l (fun _ : Unit => .tuple #[.agg (encC ((look s.sl a).getD s0).1).toArray, .bool (look s.sl a).isSome]) (fun _ => coA p s :: m) := fun w H => by
  refine (?_ : Jk E l 0 [] fun _ w => Calls Tryz.prog 32 #[.pointer (some ⟨p, 6, none⟩), .agg (encI a).toArray] w fun e w' => ∃ x, e = .returned ((fun _ : Unit => .tuple #[.agg (encC ((look s.sl a).getD s0).1).toArray, .bool (look s.sl a).isSome]) x) ∧ Sep E w' ((fun _ : Unit => coA p s :: m) x)) w _ H fr0
  refine J_pick hp <| J_coO fun bn be br bg bt bs bp bl bk _ => J_con (slGetC (ps := s.sl) (p := a) PC) fun x => ?_
  refine J_coS (p := p) (s := s) bn be br bg bt bs bp bl bk PX trivial ?_
  exact J_end SU
theorem coSlPar {E : World} {l m : List As} {p : Nat} {s : KS} (hp : Pick (coA p s) l m) {a : Place} :
    Con Tryz.prog 60 #[.pointer (some ⟨p, 6, none⟩), .agg (encI a).toArray] E l (fun _ : Unit => .agg (encI ((look s.sl a).getD s0).2).toArray) (fun _ => coA p s :: m) := fun w H => by
  refine (?_ : Jk E l 0 [] fun _ w => Calls Tryz.prog 60 #[.pointer (some ⟨p, 6, none⟩), .agg (encI a).toArray] w fun e w' => ∃ x, e = .returned ((fun _ : Unit => .agg (encI ((look s.sl a).getD s0).2).toArray) x) ∧ Sep E w' ((fun _ : Unit => coA p s :: m) x)) w _ H fr0
  refine J_pick hp <| J_coO fun bn be br bg bt bs bp bl bk _ => J_con (slParC (ps := s.sl) (p := a) PC) fun x => ?_
  refine J_coS (p := p) (s := s) bn be br bg bt bs bp bl bk PX trivial ?_
  exact J_end SU
theorem coSpAll {E : World} {l m : List As} {p : Nat} {s : KS} (hp : Pick (coA p s) l m) (hb : s.mp.length ≤ 1000000) :
    Con Tryz.prog 52 #[.pointer (some ⟨p, 8, none⟩)] E l (fun x : Value => x) (fun x => row 54 2 x ((sortP (s.mp.map Prod.fst)).map encI) :: coA p s :: m) := fun w H => by
  refine (?_ : Jk E l 0 [] fun _ w => Calls Tryz.prog 52 #[.pointer (some ⟨p, 8, none⟩)] w fun e w' => ∃ x, e = .returned ((fun x : Value => x) x) ∧ Sep E w' ((fun x : Value => row 54 2 x ((sortP (s.mp.map Prod.fst)).map encI) :: coA p s :: m) x)) w _ H fr0
  refine J_pick hp <| J_coO fun bn be br bg bt bs bp bl bk _ => J_con (spAllC (ps := s.mp) PC hb) fun x => ?_
  refine J_coS (p := p) (s := s) bn be br bg bt bs bp bl bk PX trivial ?_
  exact J_end SU
theorem coSpGet {E : World} {l m : List As} {p : Nat} {s : KS} (hp : Pick (coA p s) l m) {a : Place} :
    Con Tryz.prog 53 #[.pointer (some ⟨p, 8, none⟩), .agg (encI a).toArray] E l (fun _ : Unit => .tuple #[.agg (encI ((look s.mp a).getD (0, 0))).toArray, .bool (look s.mp a).isSome]) (fun _ => coA p s :: m) := fun w H => by
  refine (?_ : Jk E l 0 [] fun _ w => Calls Tryz.prog 53 #[.pointer (some ⟨p, 8, none⟩), .agg (encI a).toArray] w fun e w' => ∃ x, e = .returned ((fun _ : Unit => .tuple #[.agg (encI ((look s.mp a).getD (0, 0))).toArray, .bool (look s.mp a).isSome]) x) ∧ Sep E w' ((fun _ : Unit => coA p s :: m) x)) w _ H fr0
  refine J_pick hp <| J_coO fun bn be br bg bt bs bp bl bk _ => J_con (spGetC (ps := s.mp) (p := a) PC) fun x => ?_
  refine J_coS (p := p) (s := s) bn be br bg bt bs bp bl bk PX trivial ?_
  exact J_end SU
theorem set_same {α : Type} {xs : List α} {i : Nat} {x : α} (h : xs[i]? = some x) : xs.set i x = xs := by
  obtain ⟨h1, h2⟩ := List.getElem?_eq_some_iff.1 h
  rw [← h2]; exact List.set_getElem_self h1
theorem coUnits {E : World} {l m : List As} {p : Nat} {s : KS} (hp : Pick (coA p s) l m) {n bR : Nat} {u : Int} {r : Rg} (hg : s.rg[n]? = some (u, bR, r)) :
    Con Tryz.prog 54 #[.pointer (some ⟨bR, 0, none⟩)] E l (fun _ : Unit => .tuple #[.int .i64 r.sq, .int .i64 r.cq]) (fun _ => coA p s :: m) := fun w H => by
  refine (?_ : Jk E l 0 [] fun _ w => Calls Tryz.prog 54 #[.pointer (some ⟨bR, 0, none⟩)] w fun e w' => ∃ x, e = .returned ((fun _ : Unit => .tuple #[.int .i64 r.sq, .int .i64 r.cq]) x) ∧ Sep E w' ((fun _ : Unit => coA p s :: m) x)) w _ H fr0
  refine J_pick hp <| J_coO fun bn be br bg bt bs bp bl bk _ => J_pick (A := each (rgF s.mb) s.rg) PC ?_
  refine J_eachOut hg <| J_asTo (B := rgA bR s.mb r) (by rfl) <| J_con (rgUnitsC (r := r) PC) fun x => ?_
  refine J_pick (A := each (rgF s.mb) _) PC ?_
  refine J_pick (A := rgA bR s.mb r) PC ?_
  refine J_asTo (B := rgF s.mb (u, bR, r)) (by rfl) ?_
  refine J_eachIn (u, bR, r) (List.getElem?_eq_some_iff.1 hg).1 ?_
  refine J_asTo (B := each (rgF s.mb) s.rg) (by rw [set_same hg]) <| J_coS (p := p) (s := s) bn be br bg bt bs bp bl bk PX trivial ?_
  exact J_end SU
end Go.Pse
