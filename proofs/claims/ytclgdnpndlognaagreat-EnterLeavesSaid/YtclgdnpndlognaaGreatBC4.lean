/-
  Own texts, merged: C94, C93, C95a, C96a, C97, C95, C96, C98, C74, C80, C99a, C99, Facts.
-/
import Derived.Test.YtclgdnpndlognaaGreatBC3
import Derived.Test.YtclgdnpndlognaaGreatRows
import Derived.ProofKit
import Derived.WalkKit
set_option linter.unusedVariables false
set_option linter.unusedSimpArgs false
set_option maxRecDepth 100000
set_option maxHeartbeats 4000000
namespace Go.Pse
open Go.RowKit Go.Proofs
theorem coRgWait {E : World} {l m : List As} {p : Nat} {s : KS} (hp : Pick (coA p s) l m) {u : Int} {b : Nat} {r : Rg} (hl : look s.rg u = some (b, r)) (hR : RgOk r) (hM : MemOk s.mem) :
  Con Tryz.prog 46 #[.pointer (some ⟨b, 0, none⟩)] E l (fun _ : Unit => .tuple #[.int .i64 (rgWait r s.mem), .bool (rgWaitOk r s.mem)]) (fun _ => coA p s :: m) := fun w H => by
 refine (?_ : Jk E l 0 [] fun _ w => Calls Tryz.prog 46 #[.pointer (some ⟨b, 0, none⟩)] w fun e w' => ∃ x, e = .returned ((fun _ : Unit => .tuple #[.int .i64 (rgWait r s.mem), .bool (rgWaitOk r s.mem)]) x) ∧ Sep E w' ((fun _ : Unit => coA p s :: m) x)) w _ H fr0
 obtain ⟨j, hj⟩ := look_ix hl
 have hjl := (List.getElem?_eq_some_iff.1 hj).1
 refine J_pick hp <| J_coO fun bn be br bg bt bs bp bl bk _ => J_keyd (ps := ptrs s.rg) HS fun hK => ?_
 refine J_pick (A := each (rgF s.mb) s.rg) PC ?_
 refine J_eachOut hj ?_
 skip
 refine J_asTo (B := rgA b s.mb r) (by rfl) <| J_con (rgaWait (r := r) (ms := s.mem) PX hR hM) fun x => ?_
 refine J_pick (A := rgA b s.mb r) PC ?_
 refine J_asTo (B := (rgF s.mb) (u, b, r)) (by rfl) <| J_pick (A := each (rgF s.mb) _) PC ?_
 refine J_pick (A := (rgF s.mb) (u, b, _)) PC ?_
 refine J_eachIn (u, b, r) hjl ?_
 skip
 refine J_asTo (B := each (rgF s.mb) s.rg) (by rw [lset_same hj]) <| J_coS (p := p) (s := s) bn be br bg bt bs bp bl bk PX trivial ?_
 exact J_end SU
theorem coRgValid {E : World} {l m : List As} {p : Nat} {s : KS} (hp : Pick (coA p s) l m) {u : Int} {b : Nat} {r : Rg} (hl : look s.rg u = some (b, r)) (hR : RgOk r) (hM : MemOk s.mem) :
  Con Tryz.prog 88 #[.pointer (some ⟨b, 0, none⟩)] E l (fun _ : Unit => .bool (rgValid r s.mem)) (fun _ => coA p s :: m) := fun w H => by
 refine (?_ : Jk E l 0 [] fun _ w => Calls Tryz.prog 88 #[.pointer (some ⟨b, 0, none⟩)] w fun e w' => ∃ x, e = .returned ((fun _ : Unit => .bool (rgValid r s.mem)) x) ∧ Sep E w' ((fun _ : Unit => coA p s :: m) x)) w _ H fr0
 obtain ⟨j, hj⟩ := look_ix hl
 have hjl := (List.getElem?_eq_some_iff.1 hj).1
 refine J_pick hp <| J_coO fun bn be br bg bt bs bp bl bk _ => J_keyd (ps := ptrs s.rg) HS fun hK => ?_
 refine J_pick (A := each (rgF s.mb) s.rg) PC ?_
 refine J_eachOut hj ?_
 skip
 refine J_asTo (B := rgA b s.mb r) (by rfl) <| J_con (rgaValid (r := r) (ms := s.mem) PX hR hM) fun x => ?_
 refine J_pick (A := rgA b s.mb r) PC ?_
 refine J_asTo (B := (rgF s.mb) (u, b, r)) (by rfl) <| J_pick (A := each (rgF s.mb) _) PC ?_
 refine J_pick (A := (rgF s.mb) (u, b, _)) PC ?_
 refine J_eachIn (u, b, r) hjl ?_
 skip
 refine J_asTo (B := each (rgF s.mb) s.rg) (by rw [lset_same hj]) <| J_coS (p := p) (s := s) bn be br bg bt bs bp bl bk PX trivial ?_
 exact J_end SU
theorem coRgFetch {E : World} {l m : List As} {p : Nat} {s : KS} (hp : Pick (coA p s) l m) {u : Int} {b : Nat} {r : Rg} (hl : look s.rg u = some (b, r)) (hR : RgOk r) (hM : MemOk s.mem) {i : Nat} (hi : i ≤ 1000) :
  Con Tryz.prog 135 #[.pointer (some ⟨b, 0, none⟩), .int .i64 (i : Int)] E l (fun x : Value => x) (fun x => row 5 1 x ((fetchB r s.mem i).map encU) :: coA p s :: m) := fun w H => by
 refine (?_ : Jk E l 0 [] fun _ w => Calls Tryz.prog 135 #[.pointer (some ⟨b, 0, none⟩), .int .i64 (i : Int)] w fun e w' => ∃ x, e = .returned ((fun x : Value => x) x) ∧ Sep E w' ((fun x : Value => row 5 1 x ((fetchB r s.mem i).map encU) :: coA p s :: m) x)) w _ H fr0
 obtain ⟨j, hj⟩ := look_ix hl
 have hjl := (List.getElem?_eq_some_iff.1 hj).1
 refine J_pick hp <| J_coO fun bn be br bg bt bs bp bl bk _ => J_keyd (ps := ptrs s.rg) HS fun hK => ?_
 refine J_pick (A := each (rgF s.mb) s.rg) PC ?_
 refine J_eachOut hj ?_
 skip
 refine J_asTo (B := rgA b s.mb r) (by rfl) <| J_con (rgaFetch (r := r) (ms := s.mem) (i := i) PX hi hR hM) fun x => ?_
 refine J_pick (A := rgA b s.mb r) PC ?_
 refine J_asTo (B := (rgF s.mb) (u, b, r)) (by rfl) <| J_pick (A := each (rgF s.mb) _) PC ?_
 refine J_pick (A := (rgF s.mb) (u, b, _)) PC ?_
 refine J_eachIn (u, b, r) hjl ?_
 skip
 refine J_asTo (B := each (rgF s.mb) s.rg) (by rw [lset_same hj]) <| J_coS (p := p) (s := s) bn be br bg bt bs bp bl bk PX trivial ?_
 exact J_end SU
theorem coRgTail {E : World} {l m : List As} {p : Nat} {s : KS} (hp : Pick (coA p s) l m) {u : Int} {b : Nat} {r : Rg} (hl : look s.rg u = some (b, r)) :
  Con Tryz.prog 44 #[.pointer (some ⟨b, 0, none⟩)] E l (fun _ : Unit => .int .u32 r.tail) (fun _ => coA p s :: m) := fun w H => by
 refine (?_ : Jk E l 0 [] fun _ w => Calls Tryz.prog 44 #[.pointer (some ⟨b, 0, none⟩)] w fun e w' => ∃ x, e = .returned ((fun _ : Unit => .int .u32 r.tail) x) ∧ Sep E w' ((fun _ : Unit => coA p s :: m) x)) w _ H fr0
 obtain ⟨j, hj⟩ := look_ix hl
 have hjl := (List.getElem?_eq_some_iff.1 hj).1
 refine J_pick hp <| J_coO fun bn be br bg bt bs bp bl bk _ => J_keyd (ps := ptrs s.rg) HS fun hK => ?_
 refine J_pick (A := each (rgF s.mb) s.rg) PC ?_
 refine J_eachOut hj ?_
 skip
 refine J_asTo (B := rgA b s.mb r) (by rfl) <| J_con (ringTail (r := r) PC) fun x => ?_
 refine J_pick (A := rgA b s.mb r) PC ?_
 refine J_asTo (B := (rgF s.mb) (u, b, r)) (by rfl) <| J_pick (A := each (rgF s.mb) _) PC ?_
 refine J_pick (A := (rgF s.mb) (u, b, _)) PC ?_
 refine J_eachIn (u, b, r) hjl ?_
 skip
 refine J_asTo (B := each (rgF s.mb) s.rg) (by rw [lset_same hj]) <| J_coS (p := p) (s := s) bn be br bg bt bs bp bl bk PX trivial ?_
 exact J_end SU
theorem coRgOver {E : World} {l m : List As} {p : Nat} {s : KS} (hp : Pick (coA p s) l m) {u : Int} {b : Nat} {r : Rg} (hl : look s.rg u = some (b, r)) (hb : r.over.length ≤ 100000) :
  Con Tryz.prog 48 #[.pointer (some ⟨b, 0, none⟩)] E l (fun x : Value => x) (fun x => row 93 4 x (r.over.map encX) :: coA p s :: m) := fun w H => by
 refine (?_ : Jk E l 0 [] fun _ w => Calls Tryz.prog 48 #[.pointer (some ⟨b, 0, none⟩)] w fun e w' => ∃ x, e = .returned ((fun x : Value => x) x) ∧ Sep E w' ((fun x : Value => row 93 4 x (r.over.map encX) :: coA p s :: m) x)) w _ H fr0
 obtain ⟨j, hj⟩ := look_ix hl
 have hjl := (List.getElem?_eq_some_iff.1 hj).1
 refine J_pick hp <| J_coO fun bn be br bg bt bs bp bl bk _ => J_keyd (ps := ptrs s.rg) HS fun hK => ?_
 refine J_pick (A := each (rgF s.mb) s.rg) PC ?_
 refine J_eachOut hj ?_
 skip
 refine J_asTo (B := rgA b s.mb r) (by rfl) <| J_con (rgaOver (r := r) PC hb) fun x => ?_
 refine J_pick (A := rgA b s.mb r) PC ?_
 refine J_asTo (B := (rgF s.mb) (u, b, r)) (by rfl) <| J_pick (A := each (rgF s.mb) _) PC ?_
 refine J_pick (A := (rgF s.mb) (u, b, _)) PC ?_
 refine J_eachIn (u, b, r) hjl ?_
 skip
 refine J_asTo (B := each (rgF s.mb) s.rg) (by rw [lset_same hj]) <| J_coS (p := p) (s := s) bn be br bg bt bs bp bl bk PX trivial ?_
 exact J_end SU
theorem coRgAdv {E : World} {l m : List As} {p : Nat} {s : KS} (hp : Pick (coA p s) l m) {u : Int} {b : Nat} {r : Rg} (hl : look s.rg u = some (b, r)) (hR : RgOk r) (hM : MemOk s.mem) {n : Int} :
  Con Tryz.prog 136 #[.pointer (some ⟨b, 0, none⟩), .int .i64 n] E l (fun _ : Unit => .tuple #[]) (fun _ => coA p { s with rg := updO s.rg u (fun r => advR r n), mem := advM r s.mem n } :: m) := fun w H => by
 refine (?_ : Jk E l 0 [] fun _ w => Calls Tryz.prog 136 #[.pointer (some ⟨b, 0, none⟩), .int .i64 n] w fun e w' => ∃ x, e = .returned ((fun _ : Unit => .tuple #[]) x) ∧ Sep E w' ((fun _ : Unit => coA p { s with rg := updO s.rg u (fun r => advR r n), mem := advM r s.mem n } :: m) x)) w _ H fr0
 obtain ⟨j, hj⟩ := look_ix hl
 have hjl := (List.getElem?_eq_some_iff.1 hj).1
 refine J_pick hp <| J_coO fun bn be br bg bt bs bp bl bk _ => J_keyd (ps := ptrs s.rg) HS fun hK => ?_
 refine J_pick (A := each (rgF s.mb) s.rg) PC ?_
 refine J_eachOut hj ?_
 skip
 refine J_asTo (B := rgA b s.mb r) (by rfl) <| J_con (rgaAdv (r := r) (ms := s.mem) (n := n) PX hR hM) fun x => ?_
 refine J_pick (A := rgA b s.mb (advR r n)) PC ?_
 refine J_asTo (B := (rgF s.mb) (u, b, ((fun r => advR r n)) (r))) (by rfl) <| J_pick (A := each (rgF s.mb) _) PC ?_
 refine J_pick (A := (rgF s.mb) (u, b, _)) PC ?_
 refine J_eachIn (u, b, ((fun r => advR r n)) (r)) hjl ?_
 skip
 refine J_asTo (B := each (rgF s.mb) (updO s.rg u (fun r => advR r n))) (by rw [updO_set hK hj]) <| J_pick (A := mapV kZ evA (.map (some bg)) (ptrs s.rg)) PC ?_
 refine J_mapEq (qs := ptrs (updO s.rg u (fun r => advR r n))) ptrs_updO.symm <| J_coS (p := p) (s := { s with rg := updO s.rg u (fun r => advR r n), mem := advM r s.mem n }) bn be br bg bt bs bp bl bk PX trivial ?_
 exact J_end SU
theorem coRgFlush {E : World} {l m : List As} {p : Nat} {s : KS} (hp : Pick (coA p s) l m) {u : Int} {b : Nat} {r : Rg} (hl : look s.rg u = some (b, r)) (hR : RgOk r) (hM : MemOk s.mem) (hb : r.over.length ≤ 100000) :
  Con Tryz.prog 89 #[.pointer (some ⟨b, 0, none⟩)] E l (fun x : Nat => .int .i64 (x : Int)) (fun x => coA p { s with rg := updO s.rg u (fun r => (flushR r s.mem).1), mem := (flushR r s.mem).2 } :: m) := fun w H => by
 refine (?_ : Jk E l 0 [] fun _ w => Calls Tryz.prog 89 #[.pointer (some ⟨b, 0, none⟩)] w fun e w' => ∃ x, e = .returned ((fun x : Nat => .int .i64 (x : Int)) x) ∧ Sep E w' ((fun x : Nat => coA p { s with rg := updO s.rg u (fun r => (flushR r s.mem).1), mem := (flushR r s.mem).2 } :: m) x)) w _ H fr0
 obtain ⟨j, hj⟩ := look_ix hl
 have hjl := (List.getElem?_eq_some_iff.1 hj).1
 refine J_pick hp <| J_coO fun bn be br bg bt bs bp bl bk _ => J_keyd (ps := ptrs s.rg) HS fun hK => ?_
 refine J_pick (A := each (rgF s.mb) s.rg) PC ?_
 refine J_eachOut hj ?_
 skip
 refine J_asTo (B := rgA b s.mb r) (by rfl) <| J_con (rgaFlush (r := r) (ms := s.mem) PX hb hR hM) fun x => ?_
 refine J_pick (A := rgA b s.mb (flushR r s.mem).1) PC ?_
 refine J_asTo (B := (rgF s.mb) (u, b, ((fun r => (flushR r s.mem).1)) (r))) (by rfl) <| J_pick (A := each (rgF s.mb) _) PC ?_
 refine J_pick (A := (rgF s.mb) (u, b, _)) PC ?_
 refine J_eachIn (u, b, ((fun r => (flushR r s.mem).1)) (r)) hjl ?_
 skip
 refine J_asTo (B := each (rgF s.mb) (updO s.rg u (fun r => (flushR r s.mem).1))) (by rw [updO_set hK hj]) <| J_pick (A := mapV kZ evA (.map (some bg)) (ptrs s.rg)) PC ?_
 refine J_mapEq (qs := ptrs (updO s.rg u (fun r => (flushR r s.mem).1))) ptrs_updO.symm <| J_coS (p := p) (s := { s with rg := updO s.rg u (fun r => (flushR r s.mem).1), mem := (flushR r s.mem).2 }) bn be br bg bt bs bp bl bk PX trivial ?_
 exact J_end SU
end Go.Pse
namespace Go.Pse
open Go.RowKit Go.Proofs
/-! ### plain: what hangs on what -/
def encSq (e : Sqe) : List Value := [.int .i64 e.op, .int .i64 e.flags, .int .u32 e.tag, .int .u32 e.cap, .int .u32 e.a, .int .u32 e.b, .int .u32 e.c, .int .u32 e.time]
def rightAt (gs : List Bool) (k : Int) : Bool := decide (0 ≤ k) && gs.getD k.toNat true
def prevP (first : Int) (p : Option Sqe) (k : Nat) : Int := match p with
  | none => 0
  | some d => if bits .and .i64 d.flags 3 ≠ 0 then first + k - 1 else 0
def softP (p : Option Sqe) : Bool := match p with
  | none => false
  | some d => decide (bits .and .i64 d.flags 1 ≠ 0)
def reqP (g first : Int) (p : Option Sqe) (k : Nat) (e : Sqe) : Rq := ⟨(g, first + k), e, prevP first p k, softP p, false⟩
def planP (g first : Int) : Option Sqe → Nat → List (Bool × Sqe) → List Rq
  | _, _, [] => []
  | p, k, z :: r => if z.1 = true then reqP g first p k z.2 :: planP g first (some z.2) (k + 1) r else planP g first none (k + 1) r
def nextP (z : Bool × Sqe) : Option Sqe := if z.1 = true then some z.2 else none
def lastP : Option Sqe → List (Bool × Sqe) → Option Sqe
  | p, [] => p
  | _, z :: r => lastP (nextP z) r
theorem lastP_snoc {z : Bool × Sqe} : ∀ (r : List (Bool × Sqe)) (p : Option Sqe), lastP p (r ++ [z]) = nextP z
  | [], _ => rfl
  | y :: r, _ => lastP_snoc r (nextP y)
theorem planP_snoc {g first : Int} {z : Bool × Sqe} : ∀ (r : List (Bool × Sqe)) (p : Option Sqe) (k : Nat), planP g first p k (r ++ [z]) = planP g first p k r ++ (if z.1 = true then [reqP g first (lastP p r) (k + r.length) z.2] else [])
  | [], p, k => by
    show planP g first p k [z] = _
    unfold planP planP
    split <;> rfl
  | y :: r, p, k => by
    rw [List.cons_append, planP, planP]
    by_cases h : y.1 = true
    · rw [if_pos h, if_pos h, planP_snoc r]
      simp only [lastP, nextP, if_pos h, List.cons_append, List.length_cons, Nat.add_assoc, Nat.add_comm 1]
    · rw [if_neg h, if_neg h, planP_snoc r]
      simp only [lastP, nextP, if_neg h, List.length_cons, Nat.add_assoc, Nat.add_comm 1]
theorem planP_len {g first : Int} : ∀ (r : List (Bool × Sqe)) (p : Option Sqe) (k : Nat), (planP g first p k r).length ≤ r.length
  | [], _, _ => Nat.le_refl _
  | y :: r, p, k => by
    rw [planP]
    split
    · exact Nat.succ_le_succ (planP_len r _ _)
    · exact Nat.le_succ_of_le (planP_len r _ _)
theorem rightAt_is {zs : List (Bool × Sqe)} {k : Nat} {z : Bool × Sqe} (h : zs[k]? = some z) : rightAt (zs.map Prod.fst) (k : Int) = z.1 := by
  unfold rightAt
  rw [decide_eq_true (by omega), Int.toNat_natCast, List.getD_eq_getElem?_getD, List.getElem?_map, h]; rfl
theorem last_right {zs : List (Bool × Sqe)} {k : Nat} (hk : k ≤ zs.length) : (rightAt (zs.map Prod.fst) ((k : Int) - 1) = true ∧ ∃ d, zs[((k : Int) - 1).toNat]? = some d ∧ 1 ≤ k ∧ lastP none (zs.take k) = some d.2) ∨ (rightAt (zs.map Prod.fst) ((k : Int) - 1) = false ∧ lastP none (zs.take k) = none) := by
  cases k with
  | zero => exact .inr ⟨rfl, rfl⟩
  | succ k =>
    obtain ⟨d, hd⟩ : ∃ d, zs[k]? = some d := ⟨_, List.getElem?_eq_getElem (by omega)⟩
    have e1 : ((k + 1 : Nat) : Int) - 1 = (k : Int) := by omega
    have e2 : lastP none (zs.take (k + 1)) = nextP d := by rw [List.take_add_one, hd]; exact lastP_snoc _ _
    rw [e1, rightAt_is hd, e2]
    cases h : d.1 with
    | true => exact .inl ⟨rfl, d, hd, by omega, if_pos h⟩
    | false => exact .inr ⟨rfl, if_neg (by rw [h]; decide)⟩
theorem right {E : World} {l : List As} {b : Nat} {v : Value} {gs : List Bool} {k : Int} (hc : Has (blk b 71 [v]) l) (hr : ∀ w, Sep E w l → Reads w 1 v (gs.map fun b => [Value.bool b])) :
    Con Tryz.prog 198 #[.int .i64 k, .pointer (some ⟨b, 0, none⟩)] E l (fun _ : Unit => .bool (rightAt gs k)) (fun _ => l) := by
  refine Con.body (vs := [.int .i64 k, .pointer (some ⟨b, 0, none⟩)]) (n := 18) Tryz.func198 rfl rfl [(0, .int .i64 k), (1, .pointer (some ⟨b, 0, none⟩))] (env_ok 2 rfl) <| J_readsB hr fun hw a cap hv h1 h2 h3 => ?_
  subst hv
  have hm : cap ≤ 9223372036854775807 := h2
  have hml : (gs.map fun b => [Value.bool b]).length = gs.length := List.length_map _
  refine sr <| ag rfl rfl <| nx <| mv rfl rfl <| L_pur rfl (p_geq rfl rfl) <| mv rfl rfl ?_
  refine J_gsplit (t := 6) rfl (fun h6 => ?_) (fun h6 => ?_)
  refine L_op <| G_on rfl rfl rfl <| J_pur (p_move rfl) rfl rfl rfl <| L_op <| G_on rfl rfl rfl <| J_val (v_load rfl ty71 HS (by exact rfl)) rfl rfl rfl ?_
  refine L_op <| G_on rfl rfl rfl <| J_pur (p_len rfl Tryz.underlying71) rfl rfl rfl <| L_op <| G_on rfl rfl rfl <| J_pur (p_geq rfl rfl) rfl rfl rfl <| L_op <| G_on rfl rfl rfl ?_
  refine J_pur (p_move rfl) rfl rfl rfl ?_
  refine J_gsplit (t := 11) rfl (fun h11 => ?_) (fun h11 => ?_)
  refine L_op <| G_off rfl rfl rfl rfl rfl rfl <| L_op <| G_off rfl rfl rfl rfl rfl rfl <| L_op <| G_off rfl rfl rfl rfl rfl rfl <| L_op <| G_off rfl rfl rfl rfl rfl rfl ?_
  refine L_op <| G_on rfl rfl rfl <| J_pur (p_pick_t rfl rfl) rfl rfl rfl <| L_pur rfl (p_pick_t rfl rfl) <| ag rfl rfl <| nq <| J_ret ?_
  refine J_return (()) Tryz.results198 (.tmp rfl .nil) ?_ ?_
  · show one _ = Value.bool (rightAt gs k)
    simp at h6 h11
    have e : gs[k.toNat]? = none := List.getElem?_eq_none (by omega)
    simp [one, rightAt, h6, List.getD, e]
  · exact SU
  simp at h6 h11
  have hlt : k.toNat < gs.length := by omega
  obtain ⟨bx, ox, rfl⟩ := h3 (by intro h; rw [h] at hml; simp at hml; omega)
  obtain ⟨c, hcc⟩ : ∃ c, gs[k.toNat]? = some c := ⟨_, List.getElem?_eq_getElem hlt⟩
  refine L_op <| G_on rfl rfl rfl <| J_val (v_load rfl ty71 HS (by exact rfl)) rfl rfl rfl ?_
  refine L_op <| G_on rfl rfl rfl <| J_pur (p_move rfl) rfl rfl rfl <| L_op <| G_on rfl rfl rfl <| J_pur (p_indexAddr rfl rfl Tryz.underlying71 ty4 (by omega) (by omega)) rfl rfl rfl <| L_op <| G_on rfl rfl rfl ?_
  refine J_val (v_loadR1 rfl ty4 (fun w H => hr w (Sub.sep SU H)) (by rw [List.getElem?_map, hcc]; rfl)) rfl rfl rfl ?_
  refine L_op <| G_on rfl rfl rfl <| J_pur (p_pick_f rfl rfl) rfl rfl rfl <| L_pur rfl (p_pick_t rfl rfl) <| ag rfl rfl <| nq <| J_ret ?_
  refine J_return (()) Tryz.results198 (.tmp rfl .nil) ?_ ?_
  · show one _ = Value.bool (rightAt gs k)
    simp [one, rightAt, h6, List.getD, hcc]
  · exact SU
  refine L_op <| G_off rfl rfl rfl rfl rfl rfl <| L_op <| G_off rfl rfl rfl rfl rfl rfl <| L_op <| G_off rfl rfl rfl rfl rfl rfl <| L_op <| G_off rfl rfl rfl rfl rfl rfl ?_
  refine L_op <| G_off rfl rfl rfl rfl rfl rfl <| L_op <| G_offU rfl rfl rfl rfl rfl <| L_op <| G_offU rfl rfl rfl rfl rfl <| L_op <| G_offU rfl rfl rfl rfl rfl ?_
  refine L_op <| G_offU rfl rfl rfl rfl rfl <| L_op <| G_off rfl rfl rfl rfl rfl rfl <| L_pur rfl (p_pick_f rfl rfl) <| ag rfl rfl <| nq <| J_ret ?_
  refine J_return (()) Tryz.results198 (.tmp rfl .nil) ?_ ?_
  · show one _ = Value.bool (rightAt gs k)
    simp at h6
    unfold rightAt
    rw [decide_eq_false (by omega)]; rfl
  · exact SU
theorem planC {E : World} {l : List As} {v u : Value} {zs : List (Bool × Sqe)} {ring seq : Int} (hr : ∀ w, Sep E w l → Reads w 1 v ((zs.map Prod.fst).map fun b => [Value.bool b])) (hs : ∀ w, Sep E w l → Reads w 8 u ((zs.map Prod.snd).map encSq)) (he : zs.length ≤ 1000) (hq : 0 ≤ seq) (hq2 : seq ≤ 10000000000) :
  Con Tryz.prog 138 #[.int .i64 ring, .int .i64 seq, v, u] E l (fun v' : Value => v') (fun v' => row 122 13 v' ((planP ring seq none 0 zs).map encQ) :: l) := by
 refine Con.body (vs := [.int .i64 ring, .int .i64 seq, v, u]) (n := 62) Tryz.func138 rfl rfl [(0, .int .i64 ring), (1, .int .i64 seq), (2, v), (3, u)] (env_ok 4 rfl) <| J_readsB hr fun hwg aG cg hv hg1 hg2 hg3 => ?_
 subst hv
 refine J_readsB hs fun hw a cap hv h1 h2 h3 => ?_
 subst hv
 have hm : cap ≤ 9223372036854775807 := h2
 have hml : ((zs.map Prod.snd).map encSq).length = zs.length := by simp
 refine sr <| L_op <| x_box rfl rfl rfl fun b6 => ag rfl rfl <| nx <| L_pur rfl (p_makeFunc (.cons rfl .nil)) <| ag rfl rfl <| nx ?_
 refine ag rfl rfl <| nxx <| mv rfl rfl <| L_pur rfl (p_len rfl Tryz.underlying54) <| mv rfl rfl <| nq <| J_block <| J_nil (el := 122) (sz := 13) ?_
 refine J_loop2 (fun k v' => k ≤ zs.length) (fun k v' => row 122 13 v' ((planP ring seq none 0 (zs.take k)).map encQ) :: blk b6 71 [.slice aG ((zs.map Prod.fst).map fun b => [Value.bool b]).length cg] :: l) (fun k v' => [(18, .int .i64 (k : Int)), (10, v'), (9, .func (.func 198) #[] #[.pointer (some ⟨b6, 0, none⟩)]), (17, .int .i64 (((zs.map Prod.snd).map encSq).length : Int)), (16, .slice a ((zs.map Prod.snd).map encSq).length cap), (3, .slice a ((zs.map Prod.snd).map encSq).length cap), (0, .int .i64 ring), (1, .int .i64 seq)]) (fun k v' => zs.length - k) 0 (.slice none 0 0) (by omega) SU KE ?_
 intro k v' hk
 refine sr <| L_pur rfl (p_lss rfl rfl) <| nq <| J_seq ?_
 refine C_dec rfl (fun h19 => ?_) (fun h19 => ?_)
 have hlt : k < zs.length := by simpa using h19
 obtain ⟨bx, ox, rfl⟩ := h3 (by intro h; have := congrArg List.length h; simp at this; subst this; simp at hlt)
 obtain ⟨c, hcc⟩ : ∃ c, zs[k]? = some c := ⟨_, List.getElem?_eq_getElem hlt⟩
 have hpl := planP_len (g := ring) (first := seq) (zs.take k) none 0
 have htl : (zs.take k).length = k := by rw [List.length_take]; omega
 have htk : zs.take (k + 1) = zs.take k ++ [c] := by rw [List.take_add_one, hcc]; rfl
 have hri := rightAt_is hcc
 refine J_skip <| Q_then <| J_seq <| J_block <| sr <| mv rfl rfl <| L_pur rfl (p_indexAddr rfl rfl Tryz.underlying54 ty34 (by omega) (by simp; omega)) ?_
 refine L_val rfl (v_loadR rfl ty34 (fun w H => hs w (Sub.sep SU H)) (by simp only [Int.toNat_natCast, List.getElem?_map, hcc]; rfl)) ?_
 refine L_op <| x_alloc ty34 rfl fun b12 => ag rfl rfl <| L_op <| x_store rfl rfl ty34 rfl SM SM RO PT ?_
 refine nxx <| mv rfl rfl <| mv rfl rfl <| L_op <| x_callc rfl Tryz.func198 nm198 bd198 (.cons rfl .nil) rfl (right (gs := (zs.map Prod.fst)) (k := (k : Int)) HS (fun w H => hr w (Sub.sep SU H))) fun _ => ?_
 refine L_pur rfl (p_not rfl) <| nq ?_
 refine C_split rfl (fun h26 => ?_) (fun h26 => ?_)
 refine J_exit <| Q_then_exit <| Q_blk_this <| qr <| L_pur rfl (p_add64 rfl rfl (by omega)) <| mv rfl rfl <| nq <| J_pick (A := row 122 13 v' ((planP ring seq none 0 (zs.take k)).map encQ)) PC ?_
 refine J_rowEq (ys := ((planP ring seq none 0 (zs.take (k + 1))).map encQ)) (by rw [htk, planP_snoc, if_neg (by rw [← hri]; simpa using h26), List.append_nil]) ?_
 exact J_again2 (k + 1) _ (by omega) (by omega) SU KE
 have hc1 : c.1 = true := by rw [← hri]; simpa using h26
 refine J_skip <| qx <| mv rfl rfl <| mv rfl rfl <| mv rfl rfl <| L_pur rfl (p_add64 rfl rfl (by omega)) <| L_pur rfl (bld36 (.cons rfl (.cons rfl .nil)) (by repeat constructor)) <| L_val rfl (v_loadA rfl ty34 HS CT) ?_
 refine L_pur rfl (bld122 (.cons rfl (.cons rfl .nil)) (by repeat constructor)) <| L_op <| x_alloc ty122 rfl fun b13 => L_op <| x_store rfl rfl ty122 rfl SM SM RO PT ?_
 refine nxx <| mv rfl rfl <| mv rfl rfl <| L_pur rfl (p_sub64 rfl rfl (by omega)) <| L_op <| x_callc rfl Tryz.func198 nm198 bd198 (.cons rfl .nil) rfl (right (gs := (zs.map Prod.fst)) (k := (k : Int) - 1) HS (fun w H => hr w (Sub.sep SU H))) fun _ => ?_
 refine nq ?_
 refine C_split rfl (fun h37 => ?_) (fun h37 => ?_)
 obtain ⟨_, d, hdd, hk1, hla⟩ := (last_right hk).resolve_right (fun e => by rw [h37] at e; cases e.1)
 have hsf : softP (lastP none (zs.take k)) = decide (bits .and .i64 d.2.flags 1 ≠ 0) := by rw [hla]; rfl
 refine sr <| mv rfl rfl <| mv rfl rfl <| L_pur rfl (p_sub64 rfl rfl (by omega)) <| L_pur rfl (p_indexAddr rfl rfl Tryz.underlying54 ty34 (by omega) (by simp; omega)) <| fa rfl rfl fa34_1 ?_
 refine L_val rfl (v_loadRF rfl ty3 (fun w H => hs w (Sub.sep SU H)) (by rw [List.getElem?_map, List.getElem?_map, hdd]; rfl) (by exact rfl)) ?_
 refine ag rfl rfl <| nx <| mv rfl rfl <| L_pur rfl (p_and rfl rfl) <| L_pur rfl (p_neq rfl rfl) <| fa rfl rfl fa122_3 <| L_op <| x_store rfl rfl ty4 rfl SM SM RO PT ?_
 refine nx <| mv rfl rfl <| L_pur rfl (p_and rfl rfl) <| L_pur rfl (p_neq rfl rfl) <| nq ?_
 refine C_dec rfl (fun h50 => ?_) (fun h50 => ?_)
 have hpv : prevP seq (lastP none (zs.take k)) k = seq + k - 1 := by rw [hla]; exact if_pos (by simpa using h50)
 refine J_region <| mv rfl rfl <| mv rfl rfl <| L_pur rfl (p_add64 rfl rfl (by omega)) <| L_pur rfl (p_sub64 rfl rfl (by omega)) <| fa rfl rfl fa122_2 <| L_op <| x_store rfl rfl ty3 rfl SM SM RO PT ?_
 refine ny <| mv rfl rfl <| L_val rfl (v_loadA rfl ty122 HS CT) ?_
 refine L_op <| x_lit (vals := [_]) Tryz.underlying46 ty122 rfl (.cons rfl .nil) (.agg .nil) (Wf.cons rfl rfl Wf.nil) rfl (by decide) rfl rfl <| JR fun a58 c58 hw58 hl58 hm58 hz58 => L_op <| x_app rfl rfl Tryz.underlying46 ty122 rfl rfl PC (fun w H => sep_reads HS H) (by simp; omega) (by simp; omega) rfl <| JE (((planP ring seq none 0 (zs.take (k + 1))).map encQ)) (by rw [htk, planP_snoc, if_pos hc1, List.map_append, htl, Nat.zero_add]; simp [reqP, encQ, hpv, hsf]) fun a59 c59 hw59 hl59 hm59 hz59 => ag rfl rfl <| L_nil ?_
 refine Q_blk_normal <| qr <| L_pur rfl (p_add64 rfl rfl (by omega)) <| mv rfl rfl <| nq ?_
 
 exact J_again2 (k + 1) _ (by omega) (by omega) SU KE
 have hpv : prevP seq (lastP none (zs.take k)) k = 0 := by rw [hla]; exact if_neg (by simpa using h50)
 refine J_skip <| qr <| mv rfl rfl <| L_val rfl (v_loadA rfl ty122 HS CT) ?_
 refine L_op <| x_lit (vals := [_]) Tryz.underlying46 ty122 rfl (.cons rfl .nil) (.agg .nil) (Wf.cons rfl rfl Wf.nil) rfl (by decide) rfl rfl <| JR fun a58 c58 hw58 hl58 hm58 hz58 => L_op <| x_app rfl rfl Tryz.underlying46 ty122 rfl rfl PC (fun w H => sep_reads HS H) (by simp; omega) (by simp; omega) rfl <| JE (((planP ring seq none 0 (zs.take (k + 1))).map encQ)) (by rw [htk, planP_snoc, if_pos hc1, List.map_append, htl, Nat.zero_add]; simp [reqP, encQ, hpv, hsf]) fun a59 c59 hw59 hl59 hm59 hz59 => ag rfl rfl <| L_nil ?_
 refine Q_blk_normal <| qr <| L_pur rfl (p_add64 rfl rfl (by omega)) <| mv rfl rfl <| nq ?_
 
 exact J_again2 (k + 1) _ (by omega) (by omega) SU KE
 obtain ⟨_, hla⟩ := (last_right hk).resolve_left (fun e => by rw [h37] at e; cases e.1)
 have hsf : softP (lastP none (zs.take k)) = false := by rw [hla]; rfl
 have hpv : prevP seq (lastP none (zs.take k)) k = 0 := by rw [hla]; rfl
 refine J_skip <| qr <| mv rfl rfl <| L_val rfl (v_loadA rfl ty122 HS CT) ?_
 refine L_op <| x_lit (vals := [_]) Tryz.underlying46 ty122 rfl (.cons rfl .nil) (.agg .nil) (Wf.cons rfl rfl Wf.nil) rfl (by decide) rfl rfl <| JR fun a58 c58 hw58 hl58 hm58 hz58 => L_op <| x_app rfl rfl Tryz.underlying46 ty122 rfl rfl PC (fun w H => sep_reads HS H) (by simp; omega) (by simp; omega) rfl <| JE (((planP ring seq none 0 (zs.take (k + 1))).map encQ)) (by rw [htk, planP_snoc, if_pos hc1, List.map_append, htl, Nat.zero_add]; simp [reqP, encQ, hpv, hsf]) fun a59 c59 hw59 hl59 hm59 hz59 => ag rfl rfl <| L_nil ?_
 refine Q_blk_normal <| qr <| L_pur rfl (p_add64 rfl rfl (by omega)) <| mv rfl rfl <| nq ?_
 
 exact J_again2 (k + 1) _ (by omega) (by omega) SU KE
 have hke : k = zs.length := by simp at h19; omega
 refine J_pick (A := row 122 13 v' _) PC ?_
 refine J_rowEq (ys := (planP ring seq none 0 zs).map encQ) (by rw [hke, List.take_length]) <| J_exit <| Q_then_exit <| Q_then_exit <| Q_blk_this <| qx <| mv rfl rfl <| ag rfl rfl ?_
 refine nq <| J_ret ?_
 exact J_return (_) Tryz.results138 (.tmp rfl .nil) rfl SU
end Go.Pse
namespace Go.Pse
open Go.RowKit Go.Proofs
/-! ### plain: entries are taken -/
def minI (a b : Int) : Int := if b < a then b else a
def maxI (a b : Int) : Int := if b > a then b else a
theorem p_min3 {P : Program} {F : Env} {n : Nat} {dst : Option Tmp} {T : TypeId} {p : String} {e : Array Edge} {g : Option (Nat × Bool)} {x y z : Operand} {k : IntKind} {a b c : Int} {ats : Array TypeId} (hx : evl F x = some (.int k a)) (hy : evl F y = some (.int k b)) (hz : evl F z = some (.int k c)) : Pur P ⟨dst, .call { callee := .builtin .min, args := #[x, y, z], argTypes := ats }, T, p, e, g⟩ F n (.int k (minI (minI a b) c)) := fun A hF w => by
  simp [execOp, resolve, invoke, builtin, hF.evl hx, hF.evl hy, hF.evl hz, Builtin.min_, Builtin.min2, minI]
  rfl
def addT (s : KS) (q : Rq) : KS := match deadE q.e s.now with
  | none => { s with rt := addQ s.rt q }
  | some d => { s with rt := addQ s.rt q, tm := hpush s.tm (d, q.id) }
def badD (g first : Int) (k : Nat) (bs : List Int) : Deed := ((g, first + k), getN bs 4 4, 0, -1, 0, false)
def takeF (g first : Int) : Option Sqe → Nat → List (List Int) → KS → KS
  | _, _, [], s => s
  | p, k, bs :: r, s => if goodE bs = true then takeF g first (some (entE bs)) (k + 1) r (addT s (reqP g first p k (entE bs))) else takeF g first none (k + 1) r (kTell (kDec s.rt.length) s (badD g first k bs))
def takeN (s : KS) (g most : Int) (r : Rg) : Int := maxI (minI (minI (rgWait r s.mem) most) (16 - (ofQ s.rt g).length)) 0
def takeRaw (s : KS) (r : Rg) (n : Nat) : List (List Int) := (List.range n).map (fetchB r s.mem)
def kAdv (s : KS) (g : Int) (r : Rg) (n : Int) : KS := { s with rg := updO s.rg g (fun r => advR r n), mem := advM r s.mem n }
def kTaken (s : KS) (g : Int) (r : Rg) (n : Int) : KS := takeF g (kTakeV (kAdv s g r n) g n) none 0 (takeRaw s r n.toNat) (kTake (kAdv s g r n) g n)
def kTakeIn (s : KS) (g most : Int) : KS × Int := match look s.rg g with
  | none => (s, 0)
  | some x => if rgValid x.2 s.mem = true then (kTaken s g x.2 (takeN s g most x.2), takeN s g most x.2) else (s, 0)
def zOf (bs : List Int) : Bool × Sqe := (goodE bs, entE bs)
theorem takeF_snoc {g first : Int} {bs : List Int} : ∀ (r : List (List Int)) (p : Option Sqe) (k : Nat) (s : KS), takeF g first p k (r ++ [bs]) s = (let t := takeF g first p k r s; if goodE bs = true then addT t (reqP g first (lastP p (r.map zOf)) (k + r.length) (entE bs)) else kTell (kDec t.rt.length) t (badD g first (k + r.length) bs))
  | [], p, k, s => by
    show takeF g first p k [bs] s = _
    unfold takeF
    split <;> rfl
  | y :: r, p, k, s => by
    rw [List.cons_append, takeF, takeF]
    by_cases h : goodE y = true
    · rw [if_pos h, if_pos h, takeF_snoc r]
      simp only [List.map_cons, lastP, nextP, zOf, if_pos h, List.length_cons, Nat.add_assoc, Nat.add_comm 1]
    · rw [if_neg h, if_neg h, takeF_snoc r]
      simp only [List.map_cons, lastP, nextP, zOf, if_neg h, List.length_cons, Nat.add_assoc, Nat.add_comm 1]
theorem takeN_in {s : KS} {g most : Int} {r : Rg} (h : RgOk r) : 0 ≤ takeN s g most r ∧ takeN s g most r ≤ 8 := by
  have := rgWait_in (ms := s.mem) h
  unfold takeN maxI minI
  (repeat' split) <;> omega
theorem fetchB_ok {r : Rg} {ms : List (List Int)} (h : RgOk r) (hM : MemOk ms) (i : Nat) : (fetchB r ms i).length = 32 ∧ Bytes (fetchB r ms i) := by
  obtain ⟨_, h2, h3⟩ := hM.at h.sq
  have h4 := pow_sb h.sb
  have h5 := wrap32_in (r.head + IntKind.u32.wrap (i : Int))
  have h6 := Int.emod_lt_of_pos (IntKind.u32.wrap (r.head + IntKind.u32.wrap (i : Int))) (b := 2 ^ r.sb.toNat) (by omega)
  have h7 := Int.emod_nonneg (IntKind.u32.wrap (r.head + IntKind.u32.wrap (i : Int))) (b := 2 ^ r.sb.toNat) (by omega)
  refine ⟨?_, part_bytes h3⟩
  unfold fetchB
  rw [List.length_take, List.length_drop, h2]
  omega
theorem entE_ok {bs : List Int} (h : Bytes bs) : SqeOk (entE bs) := by
  have hn : ∀ a, in32 (getN bs a 4) := fun a => getN_is h a 4
  unfold entE
  split
  · exact ⟨hn _, hn _, hn _, hn _⟩
  · exact ⟨⟨by decide, by decide⟩, ⟨by decide, by decide⟩, ⟨by decide, by decide⟩, ⟨by decide, by decide⟩⟩
theorem entE_time {bs : List Int} (h : Bytes bs) : 0 ≤ (entE bs).time ∧ (entE bs).time < 4294967296 := by
  unfold entE
  split
  · exact getN_is h 24 4
  · exact ⟨by decide, by decide⟩
variable {Q : Sqe → Prop}
theorem hpush_le (xs : List Tm) (x : Tm) : (hpush xs x).length ≤ xs.length + 1 := by
  have := hdrop_len xs x.2
  unfold hpush putT
  simp only [List.length_append, List.length_cons, List.length_take, List.length_drop]
  omega
theorem WellQ.addT {s : KS} {N M : Nat} (h : WellQ Q s N M) (hN : N + 1 ≤ 90000) (hM : M + 1 ≤ 90000) {q : Rq} (hq : SqeOk q.e ∧ Q q.e) : WellQ Q (addT s q) (N + 1) (M + 1) := by
  have h1 := (h.addq hM hq).more hN
  unfold Go.Pse.addT
  split
  · exact h1
  · have hf := h1.fit
    have hl := hpush_le s.tm
    have ht := h.fit.tm
    exact ⟨⟨hf.n, hf.mm, hf.ids, hf.jn, Nat.le_trans (hl _) (Nat.succ_le_succ ht), hf.ep, hf.nt, hf.rp, hf.rg, hf.mem⟩, h1.q, h1.mp, h1.sl, h1.rg, h1.tree, h1.marks, h1.thr, h1.ent, h1.rtk⟩
theorem addT_srt {s : KS} {q : Rq} (h : Srt s.tm) : Srt (addT s q).tm := by
  unfold addT
  split
  · exact h
  · exact h.push _
theorem WellQ.takeF {g first : Int} : ∀ (r : List (List Int)) {p : Option Sqe} {k : Nat} {s : KS} {N M : Nat}, WellQ Q s N M → N + r.length ≤ 90000 → M + r.length ≤ 90000 → Srt s.tm → (∀ bs ∈ r, Bytes bs ∧ (goodE bs = true → Q (entE bs))) → WellQ Q (takeF g first p k r s) (N + r.length) (M + r.length) ∧ Srt (takeF g first p k r s).tm
  | [], _, _, _, _, _, h, _, _, hs, _ => ⟨h, hs⟩
  | bs :: r, p, k, s, N, M, h, hN, hM, hs, hQ => by
    rw [List.length_cons] at hN hM
    have hb := hQ bs (List.mem_cons_self)
    have hr := fun b hb => hQ b (List.mem_cons_of_mem _ hb)
    rw [Go.Pse.takeF, List.length_cons, Nat.add_comm r.length 1, ← Nat.add_assoc, ← Nat.add_assoc]
    split
    · rename_i hg
      exact WellQ.takeF r (h.addT (by omega) (by omega) (q := reqP g first p k (entE bs)) ⟨entE_ok hb.1, hb.2 hg⟩) (by omega) (by omega) (addT_srt hs) hr
    · exact WellQ.takeF r ((h.tell (by omega) _ _).more (by omega)) (by omega) (by omega) (List.Pairwise.sublist (Ebb.tell (fun s i r v => Ebb.dec _ s i r v) s _).tm hs) hr
theorem WellQ.adv {s : KS} {N M : Nat} (h : WellQ Q s N M) {g : Int} {b : Nat} {r : Rg} (hl : look s.rg g = some (b, r)) (n : Int) : WellQ Q (kAdv s g r n) N M := by
  have hf := h.fit
  have hr : RgOk r := (hf.rg _ (mem_look hl)).1
  refine ⟨⟨hf.n, hf.mm, hf.ids, hf.jn, hf.tm, hf.ep, hf.nt, hf.rp, fun x hx => ?_, advM_ok hr hf.mem n⟩, h.q, h.mp, h.sl, by show (updO s.rg g (fun r => advR r n)).length ≤ 1000; unfold updO; rw [List.length_map]; exact h.rg, h.tree, h.marks, h.thr, h.ent, h.rtk⟩
  obtain ⟨y, hy, h1, h2⟩ := updO_mem (show x ∈ updO s.rg g (fun r => advR r n) from hx)
  obtain ⟨g1, g2⟩ := hf.rg y hy
  rcases h2 with h2 | h2 <;> rw [h2]
  · exact ⟨g1, g2⟩
  · exact ⟨advR_ok g1 n, g2⟩
theorem takeRaw_len (s : KS) (r : Rg) (n : Nat) : (takeRaw s r n).length = n := by unfold takeRaw; rw [List.length_map, List.length_range]
theorem takeRaw_mem {s : KS} {r : Rg} {n : Nat} (h : RgOk r) (hM : MemOk s.mem) : ∀ bs ∈ takeRaw s r n, bs.length = 32 ∧ Bytes bs := fun bs hb => by
  obtain ⟨i, _, rfl⟩ := List.mem_map.1 hb
  exact fetchB_ok h hM i
theorem kTake_tm (s : KS) (g n : Int) : (kTake s g n).tm = s.tm ∧ (kTake s g n).rt = s.rt := by unfold kTake; split <;> exact ⟨rfl, rfl⟩
theorem WellQ.taken {s : KS} {N M : Nat} (h : WellQ Q s N M) (hN : N + 8 ≤ 90000) (hM : M + 8 ≤ 90000) (hs : Srt s.tm) {g most : Int} {b : Nat} {r : Rg} (hl : look s.rg g = some (b, r)) (hQ : ∀ bs ∈ takeRaw s r (takeN s g most r).toNat, goodE bs = true → Q (entE bs)) :
  WellQ Q (kTaken s g r (takeN s g most r)) (N + (takeN s g most r).toNat) (M + (takeN s g most r).toNat) ∧ Srt (kTaken s g r (takeN s g most r)).tm := by
 have hr : RgOk r := (h.fit.rg _ (mem_look hl)).1
 have hn := takeN_in (s := s) (g := g) (most := most) hr
 have hm := takeRaw_mem (n := (takeN s g most r).toNat) hr h.fit.mem
 obtain ⟨n, hnn⟩ : ∃ n : Nat, takeN s g most r = (n : Int) := ⟨(takeN s g most r).toNat, by omega⟩
 rw [hnn] at hn hm hQ ⊢
 rw [Int.toNat_natCast] at hm hQ ⊢
 have hln := takeRaw_len s r n
 have h1 := WellQ.takeF (g := g) (first := kTakeV (kAdv s g r n) g n) (takeRaw s r n) (p := none) (k := 0) ((h.adv hl n).take g n) (by rw [hln]; omega) (by rw [hln]; omega) (by rw [(kTake_tm _ _ _).1]; exact hs) (fun bs hb => ⟨(hm bs hb).2, hQ bs hb⟩)
 rw [hln] at h1
 unfold kTaken
 rw [Int.toNat_natCast]
 exact h1
end Go.Pse
namespace Go.Pse
open Go.RowKit Go.Proofs
/-! ### plain: requests begin; the kernel is entered; time has come -/
variable {Q : Sqe → Prop}
def kRunN (g : Int) (β : Nat → Nat) : Nat → Nat → KS → KS × Nat
  | 0, _, s => (s, 0)
  | n + 1, j, s => match nextQ s.rt g with
    | none => (s, 0)
    | some i => ((kRunN g β n (j + 1) (kStart s i (β j)).1).1, (kRunN g β n (j + 1) (kStart s i (β j)).1).2 + 1)
def runS (g : Int) : List Nat → KS → KS
  | [], s => s
  | b :: bs, s => match nextQ s.rt g with
    | none => s
    | some i => runS g bs (kStart s i b).1
def okS (g : Int) : List Nat → KS → Bool
  | [], _ => true
  | b :: bs, s => match nextQ s.rt g with
    | none => false
    | some i => okS g bs (kStart s i b).1
theorem runS_snoc {g : Int} {b : Nat} {i : ID} : ∀ {bs : List Nat} {s : KS}, okS g bs s = true → nextQ (runS g bs s).rt g = some i → okS g (bs ++ [b]) s = true ∧ runS g (bs ++ [b]) s = (kStart (runS g bs s) i b).1
 | [], s, _, h => by
  have h2 : nextQ s.rt g = some i := h
  show okS g [b] s = true ∧ runS g [b] s = _
  unfold okS runS
  rw [h2]
  exact ⟨rfl, rfl⟩
 | c :: bs, s, ho, h => by
  rw [List.cons_append]
  unfold okS at ho ⊢
  unfold runS at h ⊢
  cases hn : nextQ s.rt g with
  | none => rw [hn] at ho; cases ho
  | some k =>
   rw [hn] at ho h
   exact runS_snoc (bs := bs) ho h
theorem kRunN_is {g : Int} : ∀ {bs : List Nat} {s : KS} {off B : Nat} {β : Nat → Nat}, okS g bs s = true → bs.length ≤ B → (B = bs.length ∨ nextQ (runS g bs s).rt g = none) → (∀ k, k < bs.length → β (off + k) = bs.getD k 0) → kRunN g β B off s = (runS g bs s, bs.length)
  | [], s, off, B, β, _, _, h, _ => by
    rcases h with h | h
    · rw [show B = 0 from h]; rfl
    · have h2 : nextQ s.rt g = none := h
      cases B with
      | zero => rfl
      | succ B => unfold kRunN; rw [h2]; rfl
  | b :: bs, s, off, B, β, ho, hl, h, hb => by
    obtain ⟨B, rfl⟩ : ∃ B', B = B' + 1 := ⟨B - 1, by rw [List.length_cons] at hl; omega⟩
    unfold okS at ho
    unfold runS at h
    unfold kRunN runS
    cases hn : nextQ s.rt g with
    | none => rw [hn] at ho; cases ho
    | some i =>
      rw [hn] at ho h
      have h0 : β off = b := hb 0 (by simp)
      have ih := kRunN_is (bs := bs) (s := (kStart s i b).1) (off := off + 1) (B := B) (β := β) ho (by rw [List.length_cons] at hl; omega) (by
        rcases h with h | h
        · rw [List.length_cons] at h; exact .inl (by omega)
        · exact .inr h) (fun k hk => by
        have := hb (k + 1) (by rw [List.length_cons]; omega)
        rw [show off + 1 + k = off + (k + 1) by omega, this]; rfl)
      dsimp only
      rw [h0, ih, List.length_cons]
theorem WellQ.runS {g : Int} : ∀ {bs : List Nat} {s : KS} {N M : Nat}, WellQ Q s N M → N + bs.length ≤ 90000 → WellQ Q (runS g bs s) (N + bs.length) M
  | [], _, _, _, h, _ => h
  | b :: bs, s, N, M, h, hN => by
    rw [List.length_cons] at hN ⊢
    unfold Go.Pse.runS
    split
    · have h1 : ∀ n, N + n ≤ 90000 → WellQ Q s (N + n) M := fun n => by
        induction n with
        | zero => exact fun _ => h
        | succ n ih => exact fun hn => (ih (by omega)).more (by omega)
      exact h1 _ hN
    · rename_i i _
      have := WellQ.runS (g := g) (bs := bs) (h.started (by omega) i b) (by omega)
      rw [show N + 1 + bs.length = N + (bs.length + 1) by omega] at this
      exact this
def clampB (n : Int) : Int := minI (maxI n 0) 64
def flushS (s : KS) (g : Int) (r : Rg) : KS := { s with rg := updO s.rg g (fun r => (flushR r s.mem).1), mem := (flushR r s.mem).2 }
def kGoOn (s : KS) (g n : Int) (β : Nat → Nat) : KS × Int := ((kRunN g β n.toNat 0 (kTakeIn s g n).1).1, (kTakeIn s g n).2)
def kEnter (s : KS) (t n : Int) (β : Nat → Nat) : KS × Int := match look s.th t with
  | none => (s, -11)
  | some T => match look s.rg T.ring with
    | none => (s, -15)
    | some x => if rgValid x.2 s.mem = false then (s, -14) else if (flushR x.2 s.mem).1.over.length ≥ 8 then (flushS s T.ring x.2, -13) else kGoOn (flushS s T.ring x.2) T.ring (clampB n) β
def kExpL : List ID → KS → KS × Nat
  | [], s => (s, 0)
  | i :: l, s => match look s.rt i with
    | none => kExpL l s
    | some q => ((kExpL l (kDec s.rt.length s i (if q.e.op = 19 then 0 else -10) 0)).1, (kExpL l (kDec s.rt.length s i (if q.e.op = 19 then 0 else -10) 0)).2 + 1)
def dueS (s : KS) : KS := { s with tm := late s.tm s.now }
def kExpire (s : KS) : KS × Nat := kExpL ((due s.tm s.now).map Prod.snd) (dueS s)
theorem kExpL_snoc {i : ID} : ∀ (l : List ID) (s : KS), kExpL (l ++ [i]) s = match look (kExpL l s).1.rt i with
  | none => kExpL l s
  | some q => (kDec (kExpL l s).1.rt.length (kExpL l s).1 i (if q.e.op = 19 then 0 else -10) 0, (kExpL l s).2 + 1)
 | [], s => by
  show kExpL [i] s = _
  unfold kExpL kExpL
  cases look s.rt i <;> rfl
 | k :: l, s => by
  rw [List.cons_append]
  unfold kExpL
  cases h : look s.rt k with
  | none => exact kExpL_snoc l s
  | some q =>
   dsimp only
   rw [kExpL_snoc l]
   cases look (kExpL l (kDec s.rt.length s k (if q.e.op = 19 then 0 else -10) 0)).1.rt i <;> rfl
theorem WellQ.expL : ∀ (l : List ID) {s : KS} {N M : Nat}, WellQ Q s N M → WellQ Q (kExpL l s).1 N M
  | [], _, _, _, h => h
  | i :: l, s, N, M, h => by
    unfold kExpL
    split
    · exact WellQ.expL l h
    · exact WellQ.expL l (h.dec _ _ _ _)
theorem expL_cnt : ∀ (l : List ID) (s : KS), (kExpL l s).2 ≤ l.length
  | [], _ => Nat.le_refl _
  | i :: l, s => by
    unfold kExpL
    split
    · exact Nat.le_succ_of_le (expL_cnt l s)
    · exact Nat.succ_le_succ (expL_cnt l _)
theorem due_le (xs : List Tm) (now : Int) : (due xs now).length ≤ xs.length ∧ (late xs now).length ≤ xs.length := by
  have := due_len xs now
  omega
theorem WellQ.dueS {s : KS} {N M : Nat} (h : WellQ Q s N M) : WellQ Q (dueS s) N M := by
  have hf := h.fit
  exact ⟨⟨hf.n, hf.mm, hf.ids, hf.jn, Nat.le_trans (due_le _ _).2 hf.tm, hf.ep, hf.nt, hf.rp, hf.rg, hf.mem⟩, h.q, h.mp, h.sl, h.rg, h.tree, h.marks, h.thr, h.ent, h.rtk⟩
theorem WellQ.flush {s : KS} {N M : Nat} (h : WellQ Q s N M) {g : Int} {b : Nat} {r : Rg} (hl : look s.rg g = some (b, r)) : WellQ Q (flushS s g r) N M := by
  have hf := h.fit
  have hr : RgOk r := (hf.rg _ (mem_look hl)).1
  refine ⟨⟨hf.n, hf.mm, hf.ids, hf.jn, hf.tm, hf.ep, hf.nt, hf.rp, fun x hx => ?_, (flush_ok r.over hr hf.mem).2.1⟩, h.q, h.mp, h.sl, by show (updO s.rg g (fun r => (flushR r s.mem).1)).length ≤ 1000; unfold updO; rw [List.length_map]; exact h.rg, h.tree, h.marks, h.thr, h.ent, h.rtk⟩
  obtain ⟨y, hy, h1, h2⟩ := updO_mem (show x ∈ updO s.rg g (fun r => (flushR r s.mem).1) from hx)
  obtain ⟨g1, g2⟩ := hf.rg y hy
  rcases h2 with h2 | h2 <;> rw [h2]
  · exact ⟨g1, g2⟩
  · have := flush_ok y.2.2.over g1 hf.mem
    exact ⟨this.1, by have h3 := this.2.2; show (flushX y.2.2 s.mem y.2.2.over).1.over.length + s.rt.length ≤ M; omega⟩
theorem look_updS {α : Type} : ∀ {xs : List (Int × Nat × α)} {u : Int} {b : Nat} {a : α} {f : α → α}, look xs u = some (b, a) → look (updO xs u f) u = some (b, f a)
  | [], _, _, _, _, h => by cases h
  | x :: xs, u, b, a, f, h => by
    obtain ⟨k, c⟩ := x
    rw [look_cons] at h
    show look ((if k = u then (k, c.1, f c.2) else (k, c)) :: updO xs u f) u = _
    by_cases hk : k = u
    · rw [if_pos hk] at h
      rw [if_pos hk, look_cons, if_pos hk]
      cases h; rfl
    · rw [if_neg hk] at h
      rw [if_neg hk, look_cons, if_neg hk]
      exact look_updS h
end Go.Pse
namespace Go.Pse
open Go.RowKit Go.Proofs
theorem coExpireG {E : World} {l m : List As} {p : Nat} {s : KS} (hp : Pick (coA p s) l m) {Q : Sqe → Prop} {N M : Nat} (hW : WellQ Q s N M) :
    Con Tryz.prog 56 #[.pointer (some ⟨p, 0, none⟩)] E l (fun _ : Unit => .int .i64 ((kExpire s).2 : Int)) (fun _ => coA p (kExpire s).1 :: m) := by
  refine Con.body (vs := [.pointer (some ⟨p, 0, none⟩)]) (n := 40) Tryz.func56 rfl rfl [(0, .pointer (some ⟨p, 0, none⟩))] (env_ok 1 rfl) <| J_pick hp <| sr <| ag rfl rfl <| nx <| ag rfl rfl <| nxx <| mv rfl rfl ?_
  refine L_op <| xc fc62 (.cons rfl .nil) rfl (coTimers) fun _ => mv rfl rfl <| L_op <| xc fc100 (.cons rfl .nil) rfl (coNow (s := s) PC) fun _ => ?_
  refine L_op <| xc fc99 (.cons rfl (.cons rfl .nil)) rfl (coTmDue (s := s) (now := s.now) PC (by have := hW.fit.tm; have := hW.fit.n; omega)) <| JR fun a13 c13 hw13 hl13 hm13 hz13 => L_pur rfl (p_len rfl Tryz.underlying224) ?_
  obtain ⟨ids, hids⟩ : ∃ ids, ids = ((due s.tm s.now).map Prod.snd) := ⟨_, rfl⟩
  have hil : ids.length ≤ 90000 := by rw [hids, List.length_map]; have := (due_le s.tm s.now).1; have := hW.fit.tm; have := hW.fit.n; omega
  refine J_pick (A := row 36 2 _ _) PC ?_
  refine J_rowTo (ys := ids.map encI) (v' := .slice a13 (ids.map encI).length c13) (by rw [hids]) (by rw [hids]) <| J_slot (t := 13) (v := .slice a13 (ids.map encI).length c13) rfl (by rw [hids]) <| J_slot (t := 14) (v := .int .i64 (ids.length : Int)) rfl (by rw [hids, List.length_map]) ?_
  rw [← hids] at hz13
  have hml : (ids.map encI).length = ids.length := List.length_map _
  have hWd := hW.dueS
  refine J_pick (A := coA p _) PC ?_
  refine J_asTo (B := coA p (kExpL (ids.take 0) (dueS s)).1) (by rfl) <| mv rfl rfl <| nq <| J_block <| J_loop (α := Nat) (fun k => k ≤ ids.length) (fun k => row 36 2 (.slice a13 (ids.map encI).length c13) (ids.map encI) :: coA p (kExpL (ids.take k) (dueS s)).1 :: m) (fun k => [(15, .int .i64 (k : Int)), (14, .int .i64 (ids.length : Int)), (13, .slice a13 (ids.map encI).length c13), (3, .int .i64 ((kExpL (ids.take k) (dueS s)).2 : Int)), (0, .pointer (some ⟨p, 0, none⟩))]) (fun k => ids.length - k) 0 (by omega) SU KE ?_
  intro k hk
  obtain ⟨S, hS⟩ : ∃ S, S = (kExpL (ids.take k) (dueS s)) := ⟨_, rfl⟩
  have hWS : WellQ Q S.1 N M := by rw [hS]; exact hWd.expL _
  have hct : S.2 ≤ k := by rw [hS]; exact Nat.le_trans (expL_cnt _ _) (by rw [List.length_take]; omega)
  rw [← hS]
  refine sr <| L_pur rfl (p_lss rfl rfl) <| nq <| J_seq ?_
  refine C_dec rfl (fun h16 => ?_) (fun h16 => ?_)
  have hlt : k < ids.length := by omega
  obtain ⟨bx, ox, rfl⟩ := hz13 (by intro h; rw [h] at hml; simp at hml; omega)
  obtain ⟨i, hcc⟩ : ∃ c, ids[k]? = some c := ⟨_, List.getElem?_eq_getElem hlt⟩
  have hsn0 := kExpL_snoc (i := i) (ids.take k) (dueS s)
  rw [← hS, show ids.take k ++ [i] = ids.take (k + 1) by rw [List.take_add_one, hcc]; rfl] at hsn0
  refine J_skip <| Q_then <| J_seq <| J_block <| sr <| L_pur rfl (p_indexAddr rfl rfl Tryz.underlying224 ty36 (by omega) (by omega)) ?_
  refine L_val rfl (v_loadE rfl ty36 HS (by simp only [Int.toNat_natCast, List.getElem?_map, hcc]; rfl)) ?_
  refine L_op <| x_alloc ty36 rfl fun b5 => L_op <| x_store rfl rfl ty36 rfl SM SM RO PT ?_
  refine nq <| J_seq <| J_drawL none mixed <| ip 0 rfl rfl rfl rfl (p_move rfl) <| iv 2 rfl rfl rfl rfl (fun _ => v_loadA rfl ty36 HS CT) ?_
  refine I_ready (rs := [1, 7]) SI (by kernel_rfl) (by simp) ?_
  refine (I_cons rfl ?_ (I_cons rfl ?_ I_nil))
  refine xc fc16 (.cons rfl .nil) rfl (coReqs) fun _ => I_ready (rs := [3, 7]) SI (by kernel_rfl) (by simp) ?_
  refine (I_cons rfl ?_ (I_cons rfl ?_ I_nil))
  refine xc fc69 (.cons rfl (.cons rfl .nil)) rfl (coRqGet (s := S.1) (i := i) PC) fun _ => ?_
  refine ip 4 rfl rfl rfl rfl (p_move rfl) <| ip 5 rfl rfl rfl rfl (p_extract rfl rfl) <| ip 6 rfl rfl rfl rfl (p_extract rfl rfl) <| i1 7 rfl <| x_alloc ty122 rfl fun b6 => i1 8 rfl <| x_store rfl rfl ty122 rfl SM SM RO PT ?_
  refine ip 9 rfl rfl rfl rfl (p_assign rfl) <| i0 <| Q_then <| J_seq <| sr <| mv rfl rfl <| L_pur rfl (p_not rfl) <| nq ?_
  refine C_split rfl (fun h27 => ?_) (fun h27 => ?_)
  have hno : look S.1.rt i = none := by
    cases hq : look S.1.rt i with
    | none => rfl
    | some y => rw [hq] at h27; simp at h27
  have hsn : kExpL (ids.take (k + 1)) (dueS s) = S := by rw [hsn0, hno]
  refine J_exit <| Q_then_exit <| Q_blk_this <| qr <| L_pur rfl (p_add64 rfl rfl (by omega)) <| mv rfl rfl <| nq <| J_pick (A := coA p _) PC ?_
  refine J_asTo (B := coA p (kExpL (ids.take (k + 1)) (dueS s)).1) (by rw [hsn]) <| J_slot (t := 3) (v := .int .i64 ((kExpL (ids.take (k + 1)) (dueS s)).2 : Int)) rfl (by rw [hsn]) ?_
  exact J_again (k + 1) (by omega) (by omega) SU KE
  obtain ⟨q, hq⟩ : ∃ x, look S.1.rt i = some x := by
    cases hq : look S.1.rt i with
    | none => rw [hq] at h27; simp at h27
    | some y => exact ⟨y, rfl⟩
  have hsn : kExpL (ids.take (k + 1)) (dueS s) = (kDec S.1.rt.length S.1 i (if q.e.op = 19 then 0 else -10) 0, S.2 + 1) := by rw [hsn0, hq]
  refine J_pick (A := blk b6 _ _) PC ?_
  refine J_asTo (B := blk b6 122 (encQ q)) (by rw [hq]; rfl) <| J_skip <| qx <| ag rfl rfl <| nxx <| fa rfl rfl fa122_1 <| fa rfl rfl fa34_0 <| L_val rfl (v_load rfl ty3 HS (by exact rfl)) ?_
  refine L_pur rfl (p_eql rfl rfl) <| nq ?_
  refine C_dec rfl (fun h31 => ?_) (fun h31 => ?_)
  refine J_region <| ag rfl rfl <| nq <| J_seq <| J_slot (t := 8) (v := .int .i64 (if q.e.op = 19 then 0 else -10)) rfl (by rw [if_pos h31]) <| J_region <| mv rfl rfl <| L_val rfl (v_loadA rfl ty36 HS CT) ?_
  refine mv rfl rfl <| L_op <| xc fc72 (.cons rfl (.cons rfl (.cons rfl (.cons rfl .nil)))) rfl (coDecide (s := S.1) (i := i) (r := if q.e.op = 19 then 0 else -10) (v := 0) PC hWS.fit) fun _ => ?_
  refine ny <| mv rfl rfl <| L_pur rfl (p_add64 rfl rfl (by omega)) <| ag rfl rfl <| L_nil <| Q_blk_normal <| qr <| L_pur rfl (p_add64 rfl rfl (by omega)) ?_
  refine mv rfl rfl <| nq <| J_pick (A := coA p _) PC ?_
  refine J_asTo (B := coA p (kExpL (ids.take (k + 1)) (dueS s)).1) (by rw [hsn]) <| J_slot (t := 3) (v := .int .i64 ((kExpL (ids.take (k + 1)) (dueS s)).2 : Int)) rfl (by rw [hsn]; rfl) ?_
  exact J_again (k + 1) (by omega) (by omega) SU KE
  refine J_skip <| Q_then <| J_seq <| J_slot (t := 8) (v := .int .i64 (if q.e.op = 19 then 0 else -10)) rfl (by rw [if_neg h31]) <| J_region <| mv rfl rfl <| L_val rfl (v_loadA rfl ty36 HS CT) ?_
  refine mv rfl rfl <| L_op <| xc fc72 (.cons rfl (.cons rfl (.cons rfl (.cons rfl .nil)))) rfl (coDecide (s := S.1) (i := i) (r := if q.e.op = 19 then 0 else -10) (v := 0) PC hWS.fit) fun _ => ?_
  refine ny <| mv rfl rfl <| L_pur rfl (p_add64 rfl rfl (by omega)) <| ag rfl rfl <| L_nil <| Q_blk_normal <| qr <| L_pur rfl (p_add64 rfl rfl (by omega)) ?_
  refine mv rfl rfl <| nq <| J_pick (A := coA p _) PC ?_
  refine J_asTo (B := coA p (kExpL (ids.take (k + 1)) (dueS s)).1) (by rw [hsn]) <| J_slot (t := 3) (v := .int .i64 ((kExpL (ids.take (k + 1)) (dueS s)).2 : Int)) rfl (by rw [hsn]; rfl) ?_
  exact J_again (k + 1) (by omega) (by omega) SU KE
  refine x_alloc ty122 rfl fun b6 => i1 3 rfl <| xc fc69 (.cons rfl (.cons rfl .nil)) rfl (coRqGet (s := S.1) (i := i) PC) fun _ => ?_
  refine ip 4 rfl rfl rfl rfl (p_move rfl) <| ip 5 rfl rfl rfl rfl (p_extract rfl rfl) <| ip 6 rfl rfl rfl rfl (p_extract rfl rfl) <| i1 8 rfl <| x_store rfl rfl ty122 rfl SM SM RO PT ?_
  refine ip 9 rfl rfl rfl rfl (p_assign rfl) <| i0 <| Q_then <| J_seq <| sr <| mv rfl rfl <| L_pur rfl (p_not rfl) <| nq ?_
  refine C_split rfl (fun h27 => ?_) (fun h27 => ?_)
  have hno : look S.1.rt i = none := by
    cases hq : look S.1.rt i with
    | none => rfl
    | some y => rw [hq] at h27; simp at h27
  have hsn : kExpL (ids.take (k + 1)) (dueS s) = S := by rw [hsn0, hno]
  refine J_exit <| Q_then_exit <| Q_blk_this <| qr <| L_pur rfl (p_add64 rfl rfl (by omega)) <| mv rfl rfl <| nq <| J_pick (A := coA p _) PC ?_
  refine J_asTo (B := coA p (kExpL (ids.take (k + 1)) (dueS s)).1) (by rw [hsn]) <| J_slot (t := 3) (v := .int .i64 ((kExpL (ids.take (k + 1)) (dueS s)).2 : Int)) rfl (by rw [hsn]) ?_
  exact J_again (k + 1) (by omega) (by omega) SU KE
  obtain ⟨q, hq⟩ : ∃ x, look S.1.rt i = some x := by
    cases hq : look S.1.rt i with
    | none => rw [hq] at h27; simp at h27
    | some y => exact ⟨y, rfl⟩
  have hsn : kExpL (ids.take (k + 1)) (dueS s) = (kDec S.1.rt.length S.1 i (if q.e.op = 19 then 0 else -10) 0, S.2 + 1) := by rw [hsn0, hq]
  refine J_pick (A := blk b6 _ _) PC ?_
  refine J_asTo (B := blk b6 122 (encQ q)) (by rw [hq]; rfl) <| J_skip <| qx <| ag rfl rfl <| nxx <| fa rfl rfl fa122_1 <| fa rfl rfl fa34_0 <| L_val rfl (v_load rfl ty3 HS (by exact rfl)) ?_
  refine L_pur rfl (p_eql rfl rfl) <| nq ?_
  refine C_dec rfl (fun h31 => ?_) (fun h31 => ?_)
  refine J_region <| ag rfl rfl <| nq <| J_seq <| J_slot (t := 8) (v := .int .i64 (if q.e.op = 19 then 0 else -10)) rfl (by rw [if_pos h31]) <| J_region <| mv rfl rfl <| L_val rfl (v_loadA rfl ty36 HS CT) ?_
  refine mv rfl rfl <| L_op <| xc fc72 (.cons rfl (.cons rfl (.cons rfl (.cons rfl .nil)))) rfl (coDecide (s := S.1) (i := i) (r := if q.e.op = 19 then 0 else -10) (v := 0) PC hWS.fit) fun _ => ?_
  refine ny <| mv rfl rfl <| L_pur rfl (p_add64 rfl rfl (by omega)) <| ag rfl rfl <| L_nil <| Q_blk_normal <| qr <| L_pur rfl (p_add64 rfl rfl (by omega)) ?_
  refine mv rfl rfl <| nq <| J_pick (A := coA p _) PC ?_
  refine J_asTo (B := coA p (kExpL (ids.take (k + 1)) (dueS s)).1) (by rw [hsn]) <| J_slot (t := 3) (v := .int .i64 ((kExpL (ids.take (k + 1)) (dueS s)).2 : Int)) rfl (by rw [hsn]; rfl) ?_
  exact J_again (k + 1) (by omega) (by omega) SU KE
  refine J_skip <| Q_then <| J_seq <| J_slot (t := 8) (v := .int .i64 (if q.e.op = 19 then 0 else -10)) rfl (by rw [if_neg h31]) <| J_region <| mv rfl rfl <| L_val rfl (v_loadA rfl ty36 HS CT) ?_
  refine mv rfl rfl <| L_op <| xc fc72 (.cons rfl (.cons rfl (.cons rfl (.cons rfl .nil)))) rfl (coDecide (s := S.1) (i := i) (r := if q.e.op = 19 then 0 else -10) (v := 0) PC hWS.fit) fun _ => ?_
  refine ny <| mv rfl rfl <| L_pur rfl (p_add64 rfl rfl (by omega)) <| ag rfl rfl <| L_nil <| Q_blk_normal <| qr <| L_pur rfl (p_add64 rfl rfl (by omega)) ?_
  refine mv rfl rfl <| nq <| J_pick (A := coA p _) PC ?_
  refine J_asTo (B := coA p (kExpL (ids.take (k + 1)) (dueS s)).1) (by rw [hsn]) <| J_slot (t := 3) (v := .int .i64 ((kExpL (ids.take (k + 1)) (dueS s)).2 : Int)) rfl (by rw [hsn]; rfl) ?_
  exact J_again (k + 1) (by omega) (by omega) SU KE
  refine x_alloc ty122 rfl fun b6 => i1 1 rfl <| xc fc16 (.cons rfl .nil) rfl (coReqs) fun _ => i1 3 rfl <| xc fc69 (.cons rfl (.cons rfl .nil)) rfl (coRqGet (s := S.1) (i := i) PC) fun _ => ?_
  refine ip 4 rfl rfl rfl rfl (p_move rfl) <| ip 5 rfl rfl rfl rfl (p_extract rfl rfl) <| ip 6 rfl rfl rfl rfl (p_extract rfl rfl) <| i1 8 rfl <| x_store rfl rfl ty122 rfl SM SM RO PT ?_
  refine ip 9 rfl rfl rfl rfl (p_assign rfl) <| i0 <| Q_then <| J_seq <| sr <| mv rfl rfl <| L_pur rfl (p_not rfl) <| nq ?_
  refine C_split rfl (fun h27 => ?_) (fun h27 => ?_)
  have hno : look S.1.rt i = none := by
    cases hq : look S.1.rt i with
    | none => rfl
    | some y => rw [hq] at h27; simp at h27
  have hsn : kExpL (ids.take (k + 1)) (dueS s) = S := by rw [hsn0, hno]
  refine J_exit <| Q_then_exit <| Q_blk_this <| qr <| L_pur rfl (p_add64 rfl rfl (by omega)) <| mv rfl rfl <| nq <| J_pick (A := coA p _) PC ?_
  refine J_asTo (B := coA p (kExpL (ids.take (k + 1)) (dueS s)).1) (by rw [hsn]) <| J_slot (t := 3) (v := .int .i64 ((kExpL (ids.take (k + 1)) (dueS s)).2 : Int)) rfl (by rw [hsn]) ?_
  exact J_again (k + 1) (by omega) (by omega) SU KE
  obtain ⟨q, hq⟩ : ∃ x, look S.1.rt i = some x := by
    cases hq : look S.1.rt i with
    | none => rw [hq] at h27; simp at h27
    | some y => exact ⟨y, rfl⟩
  have hsn : kExpL (ids.take (k + 1)) (dueS s) = (kDec S.1.rt.length S.1 i (if q.e.op = 19 then 0 else -10) 0, S.2 + 1) := by rw [hsn0, hq]
  refine J_pick (A := blk b6 _ _) PC ?_
  refine J_asTo (B := blk b6 122 (encQ q)) (by rw [hq]; rfl) <| J_skip <| qx <| ag rfl rfl <| nxx <| fa rfl rfl fa122_1 <| fa rfl rfl fa34_0 <| L_val rfl (v_load rfl ty3 HS (by exact rfl)) ?_
  refine L_pur rfl (p_eql rfl rfl) <| nq ?_
  refine C_dec rfl (fun h31 => ?_) (fun h31 => ?_)
  refine J_region <| ag rfl rfl <| nq <| J_seq <| J_slot (t := 8) (v := .int .i64 (if q.e.op = 19 then 0 else -10)) rfl (by rw [if_pos h31]) <| J_region <| mv rfl rfl <| L_val rfl (v_loadA rfl ty36 HS CT) ?_
  refine mv rfl rfl <| L_op <| xc fc72 (.cons rfl (.cons rfl (.cons rfl (.cons rfl .nil)))) rfl (coDecide (s := S.1) (i := i) (r := if q.e.op = 19 then 0 else -10) (v := 0) PC hWS.fit) fun _ => ?_
  refine ny <| mv rfl rfl <| L_pur rfl (p_add64 rfl rfl (by omega)) <| ag rfl rfl <| L_nil <| Q_blk_normal <| qr <| L_pur rfl (p_add64 rfl rfl (by omega)) ?_
  refine mv rfl rfl <| nq <| J_pick (A := coA p _) PC ?_
  refine J_asTo (B := coA p (kExpL (ids.take (k + 1)) (dueS s)).1) (by rw [hsn]) <| J_slot (t := 3) (v := .int .i64 ((kExpL (ids.take (k + 1)) (dueS s)).2 : Int)) rfl (by rw [hsn]; rfl) ?_
  exact J_again (k + 1) (by omega) (by omega) SU KE
  refine J_skip <| Q_then <| J_seq <| J_slot (t := 8) (v := .int .i64 (if q.e.op = 19 then 0 else -10)) rfl (by rw [if_neg h31]) <| J_region <| mv rfl rfl <| L_val rfl (v_loadA rfl ty36 HS CT) ?_
  refine mv rfl rfl <| L_op <| xc fc72 (.cons rfl (.cons rfl (.cons rfl (.cons rfl .nil)))) rfl (coDecide (s := S.1) (i := i) (r := if q.e.op = 19 then 0 else -10) (v := 0) PC hWS.fit) fun _ => ?_
  refine ny <| mv rfl rfl <| L_pur rfl (p_add64 rfl rfl (by omega)) <| ag rfl rfl <| L_nil <| Q_blk_normal <| qr <| L_pur rfl (p_add64 rfl rfl (by omega)) ?_
  refine mv rfl rfl <| nq <| J_pick (A := coA p _) PC ?_
  refine J_asTo (B := coA p (kExpL (ids.take (k + 1)) (dueS s)).1) (by rw [hsn]) <| J_slot (t := 3) (v := .int .i64 ((kExpL (ids.take (k + 1)) (dueS s)).2 : Int)) rfl (by rw [hsn]; rfl) ?_
  exact J_again (k + 1) (by omega) (by omega) SU KE
  have hkn : k = ids.length := by omega
  have hke : kExpire s = S := by unfold kExpire; rw [← hids, hS, hkn, List.take_length]
  refine J_exit <| Q_then_exit <| Q_then_exit <| Q_blk_this <| qx <| mv rfl rfl <| ag rfl rfl <| nq ?_
  refine J_ret <| J_pick (A := coA p _) PC ?_
  refine J_asTo (B := coA p (kExpire s).1) (by rw [hke]) ?_
  refine J_return (()) Tryz.results56 (.tmp rfl .nil) ?_ ?_
  · rw [hke]; rfl
  · exact SU
end Go.Pse
namespace Go.Pse
open Go.RowKit Go.Proofs
def rawP (v : Value) (ms : List (List Int)) (xs : List (Value × List Int)) : Prop := xs.map Prod.snd = ms
def rawL (v : Value) (ms : List (List Int)) (xs : List (Value × List Int)) : List As := [row 73 1 v (xs.map fun x => [x.1]), each memF xs]
def rawA (v : Value) (ms : List (List Int)) : As := As.ex fun g : (List (Value × List Int)) => As.all (As.pure (rawP v ms g) :: rawL v ms g)
theorem J_rawO {E : World} {l : List As} {n : Nat} {F : Env} {K : Act → World → Prop} {v : Value} {ms : List (List Int)} (k : ∀ xs, rawP v ms xs → Jk E (row 73 1 v (xs.map fun x => [x.1]) :: each memF xs :: l) n F K) : Jk E (rawA v ms :: l) n F K := J_unfold (f := fun g : (List (Value × List Int)) => As.all (As.pure (rawP v ms g) :: rawL v ms g)) (fun _ => rfl) (fun g h => k g h)
theorem J_rawS {E : World} {l m : List As} {n : Nat} {F : Env} {K : Act → World → Prop} {v : Value} {ms : List (List Int)} (xs : List (Value × List Int)) (hs : Picks [row 73 1 v (xs.map fun x => [x.1]), each memF xs] l m) (h : rawP v ms xs) (k : Jk E (rawA v ms :: m) n F K) : Jk E l n F K := J_fold (f := fun g : (List (Value × List Int)) => As.all (As.pure (rawP v ms g) :: rawL v ms g)) (xs) rfl hs h k
theorem takeRaw_succ (s : KS) (r : Rg) (k : Nat) : takeRaw s r (k + 1) = takeRaw s r k ++ [fetchB r s.mem k] := by unfold takeRaw; rw [List.range_succ, List.map_append]; rfl
theorem takeF_take {g first : Int} {raw : List (List Int)} {k : Nat} {bs : List Int} {s t : KS} (h : raw[k]? = some bs) (ht : t = takeF g first none 0 (raw.take k) s) : takeF g first none 0 (raw.take (k + 1)) s = if goodE bs = true then addT t (reqP g first (lastP none ((raw.map zOf).take k)) k (entE bs)) else kTell (kDec t.rt.length) t (badD g first k bs) := by
  have hl : (raw.take k).length = k := by
    have := (List.getElem?_eq_some_iff.1 h).1
    rw [List.length_take]; omega
  rw [List.take_add_one, h, Option.toList_some, takeF_snoc, hl, Nat.zero_add, List.map_take, ← ht]
theorem coTakeIn {E : World} {l m : List As} {p : Nat} {s : KS} (hp : Pick (coA p s) l m) {g most : Int} {Q : Sqe → Prop} {N M : Nat} (hW : WellQ Q s N M) (hN : N + 9 ≤ 90000) (hM : M + 9 ≤ 90000) (hS : Srt s.tm) (htk : 0 ≤ (look s.tk g).getD 0 ∧ (look s.tk g).getD 0 ≤ 1000000000) (hQ : ∀ b r, look s.rg g = some (b, r) → ∀ bs ∈ takeRaw s r (takeN s g most r).toNat, goodE bs = true → Q (entE bs)) :
    Con Tryz.prog 90 #[.pointer (some ⟨p, 0, none⟩), .int .i64 g, .int .i64 most] E l (fun _ : Unit => .int .i64 (kTakeIn s g most).2) (fun _ => coA p (kTakeIn s g most).1 :: m) := by
  refine Con.body (vs := [.pointer (some ⟨p, 0, none⟩), .int .i64 g, .int .i64 most]) (n := 143) Tryz.func90 rfl rfl [(0, .pointer (some ⟨p, 0, none⟩)), (1, .int .i64 g), (2, .int .i64 most)] (env_ok 3 rfl) <| J_pick hp <| sr <| ag rfl rfl <| nx <| mv rfl rfl <| mv rfl rfl <| L_op <| xc fc43 (.cons rfl (.cons rfl .nil)) rfl (coRing (s := s) (u := g) PC) fun _ => ?_
  refine J_slot (t := 26) (v := .pointer ((look (ptrs (KS.rg s)) g).map fun b => ⟨b, 0, none⟩)) rfl rfl <| ag rfl rfl <| nxx <| mv rfl rfl <| L_pur rfl (p_eqNilPtr Tryz.underlying80 rfl) <| mv rfl rfl ?_
  refine J_gsplit (t := 29) rfl (fun h29 => ?_) (fun h29 => ?_)
  have hno : look (KS.rg s) g = none := by
    cases hq : look (KS.rg s) g with
    | none => rfl
    | some y => rw [look_ptrs, hq] at h29; simp at h29
  have hki : (kTakeIn s g most) = (s, 0) := by unfold kTakeIn; rw [hno]
  refine L_op <| G_off rfl rfl rfl rfl rfl rfl <| L_op <| G_off rfl rfl rfl rfl rfl rfl <| L_op <| G_off rfl rfl rfl rfl rfl rfl <| L_pur rfl (p_pick_t rfl rfl) <| nq ?_
  refine C_true rfl <| J_seq <| J_pick (A := coA p _) PC ?_
  refine J_asTo (B := coA p (kTakeIn s g most).1) (by rw [hki]) <| J_region <| ag rfl rfl <| nq <| J_ret <| Q_then_ret ?_
  refine J_return (()) Tryz.results90 (.tmp rfl .nil) ?_ ?_
  · rw [hki]; rfl
  · exact SU
  obtain ⟨⟨b, r⟩, hl⟩ : ∃ x, look (KS.rg s) g = some x := by
    cases hq : look (KS.rg s) g with
    | none => rw [look_ptrs, hq] at h29; simp at h29
    | some y => exact ⟨y, rfl⟩
  have hR : RgOk r := (hW.fit.rg _ (mem_look hl)).1
  have hov : r.over.length + s.rt.length ≤ M := (hW.fit.rg _ (mem_look hl)).2
  have hMm := hW.fit.mem
  have hQ1 := hQ b r hl
  clear hQ
  refine J_slot (t := 7) (v := .pointer (some ⟨b, 0, none⟩)) rfl (by rw [look_ptrs, hl]; rfl) <| L_op <| G_on rfl rfl rfl <| J_pur (p_move rfl) rfl rfl rfl <| L_op <| G_on rfl rfl rfl <| xc fc88 (.cons rfl .nil) rfl (coRgValid (s := s) (u := g) PC hl hR hMm) fun _ => ?_
  refine L_op <| G_on rfl rfl rfl <| J_pur (p_not rfl) rfl rfl rfl <| L_pur rfl (p_pick_f rfl rfl) <| nq ?_
  refine C_split rfl (fun h33 => ?_) (fun h33 => ?_)
  have hki : (kTakeIn s g most) = (s, 0) := by unfold kTakeIn; rw [hl]; exact if_neg (by simpa using h33)
  refine J_seq <| J_pick (A := coA p _) PC ?_
  refine J_asTo (B := coA p (kTakeIn s g most).1) (by rw [hki]) <| J_region <| ag rfl rfl <| nq <| J_ret <| Q_then_ret ?_
  refine J_return (()) Tryz.results90 (.tmp rfl .nil) ?_ ?_
  · rw [hki]; rfl
  · exact SU
  have hvl : rgValid r s.mem = true := by simpa using h33
  have hki : (kTakeIn s g most) = (kTaken s g r (takeN s g most r), takeN s g most r) := by unfold kTakeIn; rw [hl]; exact if_pos hvl
  refine J_skip <| qx <| mv rfl rfl <| L_op <| xc fc46 (.cons rfl .nil) rfl (coRgWait (s := s) (u := g) PC hl hR hMm) fun _ => ?_
  refine mv rfl rfl <| L_pur rfl (p_extract rfl rfl) <| L_pur rfl (p_extract rfl rfl) <| ag rfl rfl <| ag rfl rfl <| nx <| mv rfl rfl <| mv rfl rfl ?_
  refine mv rfl rfl <| L_op <| xc fc16 (.cons rfl .nil) rfl (coReqs) fun _ => mv rfl rfl <| L_op <| xc fc23 (.cons rfl (.cons rfl .nil)) rfl (coRqOf (s := s) (g := g) PC hW.fit.ids (by have := hW.fit.jn; omega)) <| JR fun a44 c44 hw44 hl44 hm44 hz44 => ?_
  have hol := ofQ_len s.rt g
  have hjn := hW.fit.jn
  refine L_pur rfl (p_len rfl Tryz.underlying46) <| J_slot (t := 45) (v := .int .i64 ((ofQ s.rt g).length : Int)) rfl (by rw [List.length_map]) <| L_pur rfl (p_sub64 rfl rfl (by omega)) <| L_pur rfl (p_min3 rfl rfl rfl) <| L_pur rfl (p_max rfl rfl) ?_
  have hni := takeN_in (s := s) (g := g) (most := most) hR
  obtain ⟨n, hn⟩ : ∃ n : Nat, takeN s g most r = (n : Int) := ⟨(takeN s g most r).toNat, by omega⟩
  have hki : (kTakeIn s g most) = (kTaken s g r (n : Int), (n : Int)) := by rw [hki, hn]
  rw [hn] at hni hQ1
  rw [Int.toNat_natCast] at hQ1
  refine J_slot (t := 48) (v := .int .i64 (n : Int)) rfl (by rw [← hn]; rfl) <| ag rfl rfl <| nx <| ag rfl rfl <| nq <| J_seq <| J_seq <| J_nil (el := 73) (sz := 1) ?_
  refine J_rowEq (ys := ([] : List (Value × List Int)).map fun x : Value × List Int => [x.1]) (by rfl) <| J_eachNil memF <| J_rawS (v := .slice none 0 0) (ms := takeRaw s r 0) [] PX rfl ?_
  refine J_region <| mv rfl rfl <| mv rfl rfl <| nq <| J_block <| J_loop2 (fun k v => k ≤ n) (fun k v => rawA v (takeRaw s r k) :: coA p s :: m) (fun k v => [(50, .int .i64 (k : Int)), (49, .int .i64 (n : Int)), (10, v), (7, .pointer (some ⟨b, 0, none⟩)), (8, .int .i64 (n : Int)), (0, .pointer (some ⟨p, 0, none⟩)), (1, .int .i64 g)]) (fun k v => n - k) 0 _ (by omega) SU KE ?_
  intro k v hk
  refine sr <| L_pur rfl (p_lss rfl rfl) <| nq <| J_seq ?_
  refine C_dec rfl (fun h51 => ?_) (fun h51 => ?_)
  refine J_pick (A := rawA v _) PC ?_
  refine J_rawO fun xs hxs => ?_
  have hxl : xs.length = k := by have := congrArg List.length (show xs.map Prod.snd = _ from hxs); rw [List.length_map, takeRaw_len] at this; exact this
  refine J_row .here fun hwv av cv hvv h1v h2v h3v => ?_
  subst hvv
  have hml : (xs.map fun x : Value × List Int => [x.1]).length = xs.length := List.length_map _
  have hmv : cv ≤ 9223372036854775807 := h2v
  refine J_skip <| Q_then <| J_seq <| J_block <| sr <| mv rfl rfl <| ag rfl rfl <| ny ?_
  refine mv rfl rfl <| mv rfl rfl <| mv rfl rfl <| L_op <| xc fc135 (.cons rfl (.cons rfl .nil)) rfl (coRgFetch (s := s) (u := g) (i := k) PC hl hR hMm (by omega)) <| JR fun a56 c56 hw56 hl56 hm56 hz56 => L_op <| x_lit (vals := [_]) Tryz.underlying290 ty73 rfl (.cons rfl .nil) (.one rfl .nil) (Wf.cons rfl rfl Wf.nil) rfl (by decide) rfl rfl ?_
  refine JE ([[(Value.slice a56 ((fetchB r s.mem k).map encU).length c56)]]) (by rfl) fun a57 c57 hw57 hl57 hm57 hz57 => L_op <| x_app rfl rfl Tryz.underlying290 ty73 rfl rfl PC (fun w H => sep_reads HS H) (by simp; omega) (by simp; omega) rfl <| JE ((xs ++ [((Value.slice a56 ((fetchB r s.mem k).map encU).length c56), fetchB r s.mem k)]).map fun x : Value × List Int => [x.1]) (by simp) fun a58 c58 hw58 hl58 hm58 hz58 => ag rfl rfl <| L_nil <| Q_blk_normal <| Q_then ?_
  refine J_pick (A := each memF xs) PC ?_
  refine J_pick (A := row 5 1 (Value.slice a56 ((fetchB r s.mem k).map encU).length c56) _) PC ?_
  refine J_asTo (B := memF ((Value.slice a56 ((fetchB r s.mem k).map encU).length c56), fetchB r s.mem k)) (by rfl) <| J_pick (A := each memF xs) PC ?_
  refine J_pick (A := memF ((Value.slice a56 ((fetchB r s.mem k).map encU).length c56), fetchB r s.mem k)) PC ?_
  refine J_eachPush <| J_rawS (v := .slice a58 _ c58) (ms := takeRaw s r (k + 1)) (xs ++ [((Value.slice a56 ((fetchB r s.mem k).map encU).length c56), fetchB r s.mem k)]) PX (by show List.map Prod.snd _ = _; rw [List.map_append, show xs.map Prod.snd = _ from hxs, takeRaw_succ]; rfl) ?_
  refine J_region <| L_pur rfl (p_add64 rfl rfl (by omega)) <| mv rfl rfl <| nq ?_
  exact J_again2 (k + 1) _ (by omega) (by omega) SU KE
  have hkn : k = n := by omega
  obtain ⟨raw, hraw⟩ : ∃ raw, raw = takeRaw s r n := ⟨_, rfl⟩
  have hrl : raw.length = n := by rw [hraw]; exact takeRaw_len s r n
  have hRm : ∀ bs ∈ raw, bs.length = 32 ∧ Bytes bs := by rw [hraw]; exact takeRaw_mem hR hMm
  refine J_pick (A := rawA v _) PC ?_
  refine J_asTo (B := rawA v raw) (by rw [hkn, hraw]) ?_
  clear hkn hk
  refine J_rawO fun xs hxs => ?_
  have hxs : xs.map Prod.snd = raw := hxs
  have hxl : xs.length = n := by rw [← hrl, ← hxs, List.length_map]
  refine J_row .here fun hw10 a10 c10 hv10 hl10 hm10 hz10 => ?_
  subst hv10
  have hml : (xs.map fun x : Value × List Int => [x.1]).length = xs.length := List.length_map _
  have hmv : c10 ≤ 9223372036854775807 := hm10
  refine J_exit <| Q_then_exit <| Q_then_exit <| Q_blk_this <| qx <| mv rfl rfl <| mv rfl rfl <| L_op <| xc fc136 (.cons rfl (.cons rfl .nil)) rfl (coRgAdv (s := s) (u := g) (n := (n : Int)) PC hl hR hMm) fun _ => ?_
  refine nq <| J_seq <| J_pick (A := coA p _) PC ?_
  refine J_asTo (B := coA p (kAdv s g r (n : Int))) (by rfl) <| J_region <| mv rfl rfl <| mv rfl rfl <| mv rfl rfl <| L_op <| xc fc67 (.cons rfl (.cons rfl (.cons rfl .nil))) rfl (coTake (s := kAdv s g r (n : Int)) (r := g) (n := (n : Int)) PC (by show _ ≤ (look s.tk g).getD 0 ∧ (look s.tk g).getD 0 ≤ _; omega) (by omega)) fun _ => ?_
  obtain ⟨S2, hS2⟩ : ∃ S, S = kTake (kAdv s g r (n : Int)) g (n : Int) := ⟨_, rfl⟩
  obtain ⟨first, hfi⟩ : ∃ f, f = kTakeV (kAdv s g r (n : Int)) g (n : Int) := ⟨_, rfl⟩
  have hfr : 0 ≤ first ∧ first ≤ 1000000001 := by
    rw [hfi]; unfold kTakeV
    split
    · show 0 ≤ (look s.tk g).getD 0 + 1 ∧ (look s.tk g).getD 0 + 1 ≤ _; omega
    · omega
  refine J_slot (t := 66) (v := .int .i64 first) rfl (by rw [hfi]) <| J_pick (A := coA p _) PC ?_
  refine J_asTo (B := coA p S2) (by rw [hS2]) ?_
  have hW2 : WellQ Q S2 N M := by rw [hS2]; exact (hW.adv hl _).take g _
  have hs2 : Srt S2.tm := by rw [hS2, (kTake_tm _ _ _).1]; exact hS
  have hQR : ∀ bs ∈ raw, Bytes bs ∧ (goodE bs = true → Q (entE bs)) := fun bs hb => ⟨(hRm bs hb).2, hQ1 bs (by rw [← hraw]; exact hb)⟩
  have hkt : kTaken s g r (n : Int) = takeF g first none 0 raw S2 := by unfold kTaken; rw [Int.toNat_natCast, ← hraw, ← hfi, ← hS2]
  refine ag rfl rfl <| nx <| ag rfl rfl <| nx <| ag rfl rfl <| nq <| J_seq <| J_seq ?_
  refine J_nil (el := 4) (sz := 1) <| J_nil (el := 34) (sz := 8) <| J_rowEq (ys := ((((raw.take 0).map zOf).map Prod.snd).map encSq)) (by rfl) <| J_pick (A := row 4 1 (.slice none 0 0) []) PC ?_
  refine J_rowEq (ys := ((((raw.take 0).map zOf).map Prod.fst).map fun b => [Value.bool b])) (by rfl) <| J_region <| mv rfl rfl <| L_pur rfl (p_len rfl Tryz.underlying290) <| mv rfl rfl <| nq <| J_block <| J_loop3 (fun k v13 v14 => k ≤ n) (fun (k : Nat) (v13 v14 : Value) => row 34 8 v13 ((((raw.take k).map zOf).map Prod.snd).map encSq) :: row 4 1 v14 ((((raw.take k).map zOf).map Prod.fst).map fun b => [Value.bool b]) :: row 73 1 (.slice a10 (xs.map fun x : Value × List Int => [x.1]).length c10) (xs.map fun x : Value × List Int => [x.1]) :: each memF xs :: coA p S2 :: m) (fun (k : Nat) (v13 v14 : Value) => [(69, .int .i64 (k : Int)), (68, .int .i64 ((xs.map fun x : Value × List Int => [x.1]).length : Int)), (67, .slice a10 (xs.map fun x : Value × List Int => [x.1]).length c10), (10, .slice a10 (xs.map fun x : Value × List Int => [x.1]).length c10), (13, v13), (14, v14), (8, .int .i64 (n : Int)), (12, .int .i64 first), (0, .pointer (some ⟨p, 0, none⟩)), (1, .int .i64 g)]) (fun k v13 v14 => n - k) 0 _ _ (by omega) SU KE ?_
  intro k v13 v14 hk
  have htl : (raw.take k).length ≤ k := by rw [List.length_take]; omega
  refine sr <| L_pur rfl (p_lss rfl rfl) <| nq <| J_seq ?_
  refine C_dec rfl (fun h70 => ?_) (fun h70 => ?_)
  have hlt : k < n := by omega
  obtain ⟨⟨vk, bk⟩, hxk⟩ : ∃ x, xs[k]? = some x := ⟨_, List.getElem?_eq_getElem (by omega)⟩
  have hlx : k < xs.length := by omega
  have hbk : raw[k]? = some bk := by rw [← hxs, List.getElem?_map, hxk]; rfl
  obtain ⟨hb32, hbB⟩ := hRm bk (List.mem_of_getElem? hbk)
  have htk : raw.take (k + 1) = raw.take k ++ [bk] := by rw [List.take_add_one, hbk]; rfl
  obtain ⟨ba, oa, rfl⟩ := hz10 (by intro h; have := congrArg List.length h; simp at this; subst this; simp at hlx)
  
  refine J_skip <| Q_then <| J_seq <| J_block <| sr <| L_pur rfl (p_indexAddr rfl rfl Tryz.underlying290 ty73 (by omega) (by omega)) ?_
  refine L_val rfl (v_loadE1 rfl ty73 HS (by simp only [Int.toNat_natCast, List.getElem?_map, hxk]; rfl)) ?_
  refine ag rfl rfl <| nq <| J_seq <| J_pick (A := each memF xs) PC ?_
  refine J_eachOut hxk <| J_asTo (B := row 5 1 vk (bk.map encU)) (by rfl) <| J_region <| mv rfl rfl <| L_op <| xc fc137 (.cons rfl .nil) rfl (readEC (bs := bk) (fun w H => sep_reads (xs := bk.map encU) HS H) hb32 hbB) fun _ => ?_
  refine mv rfl rfl <| L_pur rfl (p_extract rfl rfl) <| L_pur rfl (p_extract rfl rfl) <| L_op <| x_alloc ty34 rfl fun b17 => L_op <| x_store rfl rfl ty34 rfl SM SM RO PT ?_
  refine ag rfl rfl <| nq <| J_pick (A := row 5 1 vk _) PC ?_
  refine J_asTo (B := memF (vk, bk)) (by rfl) <| J_pick (A := each memF _) PC ?_
  refine J_pick (A := memF (vk, bk)) PC ?_
  refine J_eachIn (vk, bk) hlx <| J_asTo (B := each memF xs) (by rw [lset_same hxk]) <| J_region <| mv rfl rfl <| L_val rfl (v_loadA rfl ty34 HS CT) ?_
  refine L_op <| x_lit (vals := [_]) Tryz.underlying54 ty34 rfl (.cons rfl .nil) (.agg .nil) (Wf.cons rfl rfl Wf.nil) rfl (by decide) rfl rfl <| JE ([encSq (entE bk)]) (by rfl) fun a80 c80 hw80 hl80 hm80 hz80 => L_op <| x_app rfl rfl Tryz.underlying54 ty34 rfl rfl PC (fun w H => sep_reads HS H) (by simp; omega) (by simp; omega) rfl <| JE (((((raw.take (k + 1)).map zOf).map Prod.snd).map encSq)) (by rw [htk]; simp [zOf]) fun a81 c81 hw81 hl81 hm81 hz81 => mv rfl rfl <| mv rfl rfl ?_
  refine L_op <| x_lit (vals := [_]) Tryz.underlying71 ty4 rfl (.cons rfl .nil) (.one rfl .nil) (Wf.cons rfl rfl Wf.nil) rfl (by decide) rfl rfl <| JE ([[Value.bool (goodE bk)]]) (by rfl) fun a84 c84 hw84 hl84 hm84 hz84 => L_op <| x_app rfl rfl Tryz.underlying71 ty4 rfl rfl PC (fun w H => sep_reads HS H) (by simp; omega) (by simp; omega) rfl <| JE (((((raw.take (k + 1)).map zOf).map Prod.fst).map fun b => [Value.bool b])) (by rw [htk]; simp [zOf]) fun a85 c85 hw85 hl85 hm85 hz85 => ag rfl rfl <| ag rfl rfl ?_
  refine L_nil <| Q_blk_normal <| qr <| L_pur rfl (p_add64 rfl rfl (by omega)) <| mv rfl rfl <| nq ?_
  exact J_again3 (k + 1) _ _ (by omega) (by omega) SU KE
  have hkn : k = n := by omega
  obtain ⟨zs, hzs⟩ : ∃ zs, zs = raw.map zOf := ⟨_, rfl⟩
  have hzl : zs.length = n := by rw [hzs, List.length_map, hrl]
  refine J_pick (A := row 34 8 v13 _) PC ?_
  refine J_rowEq (ys := ((zs.map Prod.snd).map encSq)) (by rw [hkn, List.take_of_length_le (by omega), hzs]) <| J_row .here fun hw13 a13 c13 hv13 hl13 hm13 hz13 => ?_
  subst hv13
  refine J_pick (A := row 4 1 v14 _) PC ?_
  refine J_rowEq (ys := ((zs.map Prod.fst).map fun b => [Value.bool b])) (by rw [hkn, List.take_of_length_le (by omega), hzs]) <| J_row .here fun hw14 a14 c14 hv14 hl14 hm14 hz14 => ?_
  subst hv14
  have hmc13 : c13 ≤ 9223372036854775807 := hm13
  have hmc14 : c14 ≤ 9223372036854775807 := hm14
  refine J_exit <| Q_then_exit <| Q_then_exit <| Q_blk_this <| qx <| mv rfl rfl <| mv rfl rfl <| mv rfl rfl ?_
  refine mv rfl rfl <| L_op <| xc fc138 (.cons rfl (.cons rfl (.cons rfl (.cons rfl .nil)))) rfl (planC (zs := zs) (ring := g) (seq := first) (fun w H => sep_reads (xs := ((zs.map Prod.fst).map fun b => [Value.bool b])) HS H) (fun w H => sep_reads (xs := ((zs.map Prod.snd).map encSq)) HS H) (by omega) hfr.1 (by omega)) <| JR fun a91 c91 hw91 hl91 hm91 hz91 => ag rfl rfl <| nq <| J_seq <| J_seq ?_
  refine J_pick (A := row 122 13 _ _) PC ?_
  refine J_rowEq (ys := (planP g first (lastP none (zs.take 0)) 0 (zs.drop 0)).map encQ) (by rfl) <| J_pick (A := coA p _) PC ?_
  refine J_asTo (B := coA p (takeF g first none 0 (raw.take 0) S2)) (by rfl) <| J_region <| mv rfl rfl <| L_pur rfl (p_len rfl Tryz.underlying290) <| mv rfl rfl <| nq <| J_block <| J_loop2 (fun k v19 => k ≤ n) (fun (k : Nat) (v19 : Value) => row 122 13 v19 ((planP g first (lastP none (zs.take k)) k (zs.drop k)).map encQ) :: row 34 8 (.slice a13 ((zs.map Prod.snd).map encSq).length c13) ((zs.map Prod.snd).map encSq) :: row 4 1 (.slice a14 ((zs.map Prod.fst).map fun b => [Value.bool b]).length c14) ((zs.map Prod.fst).map fun b => [Value.bool b]) :: row 73 1 (.slice a10 (xs.map fun x : Value × List Int => [x.1]).length c10) (xs.map fun x : Value × List Int => [x.1]) :: each memF xs :: coA p (takeF g first none 0 (raw.take k) S2) :: m) (fun (k : Nat) (v19 : Value) => [(94, .int .i64 (k : Int)), (93, .int .i64 ((xs.map fun x : Value × List Int => [x.1]).length : Int)), (92, .slice a10 (xs.map fun x : Value × List Int => [x.1]).length c10), (19, v19), (13, .slice a13 ((zs.map Prod.snd).map encSq).length c13), (14, .slice a14 ((zs.map Prod.fst).map fun b => [Value.bool b]).length c14), (8, .int .i64 (n : Int)), (12, .int .i64 first), (0, .pointer (some ⟨p, 0, none⟩)), (1, .int .i64 g)]) (fun k v19 => n - k) 0 _ (by omega) SU KE ?_
  intro k v19 hk
  refine sr <| L_pur rfl (p_lss rfl rfl) <| nq <| J_seq ?_
  refine C_dec rfl (fun h95 => ?_) (fun h95 => ?_)
  have hlt : k < n := by omega
  obtain ⟨⟨vk, bk⟩, hxk⟩ : ∃ x, xs[k]? = some x := ⟨_, List.getElem?_eq_getElem (by omega)⟩
  have hlx : k < xs.length := by omega
  have hbk : raw[k]? = some bk := by rw [← hxs, List.getElem?_map, hxk]; rfl
  obtain ⟨hb32, hbB⟩ := hRm bk (List.mem_of_getElem? hbk)
  have htk : raw.take (k + 1) = raw.take k ++ [bk] := by rw [List.take_add_one, hbk]; rfl
  obtain ⟨ba, oa, rfl⟩ := hz10 (by intro h; have := congrArg List.length h; simp at this; subst this; simp at hlx)
  have hzk : zs[k]? = some (zOf bk) := by rw [hzs, List.getElem?_map, hbk]; rfl
  have hdz : zs.drop k = zOf bk :: zs.drop (k + 1) := by rw [List.drop_eq_getElem_cons (by omega), (List.getElem?_eq_some_iff.1 hzk).2]
  have hla : lastP none (zs.take (k + 1)) = nextP (zOf bk) := by rw [List.take_add_one, hzk]; exact lastP_snoc _ _
  have htl : (raw.take k).length = k := by rw [List.length_take]; omega
  obtain ⟨Sk, hSk⟩ : ∃ S, S = (takeF g first none 0 (raw.take k) S2) := ⟨_, rfl⟩
  have hsn := takeF_take (g := g) (first := first) hbk hSk
  rw [← hzs] at hsn
  have hWS := WellQ.takeF (g := g) (first := first) (p := none) (k := 0) (raw.take k) hW2 (by rw [htl]; omega) (by rw [htl]; omega) hs2 (fun bs hb => hQR bs (List.mem_of_mem_take hb))
  rw [htl, ← hSk] at hWS
  obtain ⟨hWk, hsk⟩ := hWS
  have hjk := hWk.fit.jn
  have htmk := hWk.fit.tm
  refine J_pick (A := coA p _) PC ?_
  refine J_asTo (B := coA p Sk) (by rw [hSk]) ?_
  obtain ⟨b14, o14, rfl⟩ := hz14 (by intro h; have := congrArg List.length h; simp at this; subst this; simp at hzk)
  obtain ⟨b13, o13, rfl⟩ := hz13 (by intro h; have := congrArg List.length h; simp at this; subst this; simp at hzk)
  refine J_skip <| Q_then <| J_seq <| J_block <| sr <| mv rfl rfl <| L_pur rfl (p_indexAddr rfl rfl Tryz.underlying290 ty73 (by omega) (by omega)) ?_
  refine L_val rfl (v_loadE1 rfl ty73 HS (by simp only [Int.toNat_natCast, List.getElem?_map, hxk]; rfl)) ?_
  refine ag rfl rfl <| ag rfl rfl <| nxx <| mv rfl rfl <| mv rfl rfl <| L_pur rfl (p_indexAddr rfl rfl Tryz.underlying71 ty4 (by omega) (by simp; omega)) ?_
  refine L_val rfl (v_loadE1 rfl ty4 HS (by simp only [Int.toNat_natCast, List.getElem?_map, hzk]; rfl)) ?_
  refine L_pur rfl (p_not rfl) <| nq ?_
  refine C_split rfl (fun h103 => ?_) (fun h103 => ?_)
  have hgb : goodE bk = false := by simpa [zOf] using h103
  refine J_seq <| J_pick (A := each memF xs) PC ?_
  refine J_eachOut hxk <| J_asTo (B := row 5 1 vk (bk.map encU)) (by rfl) <| J_region <| mv rfl rfl <| mv rfl rfl <| mv rfl rfl <| mv rfl rfl <| L_pur rfl (p_add64 rfl rfl (by omega)) ?_
  refine L_pur rfl (bld36 (.cons rfl (.cons rfl .nil)) (by repeat constructor)) <| mv rfl rfl <| L_op <| xc fc139 (.cons rfl (.cons rfl .nil)) rfl (u32C (a := 4) (bs := bk) (fun w H => sep_reads (xs := bk.map encU) HS H) (by omega) (by omega) hbB) fun _ => ?_
  refine L_pur rfl (bld45 (.cons rfl (.cons rfl (.cons rfl .nil))) (by repeat constructor)) <| J_slot (t := 112) (v := .agg (encD (badD g first k bk)).toArray) rfl rfl <| J_pick (A := row 5 1 vk _) PC ?_
  refine J_asTo (B := memF (vk, bk)) (by rfl) <| J_pick (A := each memF _) PC ?_
  refine J_pick (A := memF (vk, bk)) PC ?_
  refine J_eachIn (vk, bk) hlx <| J_asTo (B := each memF xs) (by rw [lset_same hxk]) <| L_op <| xc fc121 (.cons rfl (.cons rfl .nil)) rfl (coTell (s := Sk) (d := badD g first k bk) PC (decC Sk.rt.length (N + k) (M + k + 1)) (Nat.le_refl _) hWk.fit (by omega)) fun _ => ?_
  refine nq <| J_exit <| Q_then_exit <| Q_blk_this <| qr <| L_pur rfl (p_add64 rfl rfl (by omega)) <| mv rfl rfl <| nq ?_
  refine J_pick (A := coA p _) PC ?_
  refine J_asTo (B := coA p (takeF g first none 0 (raw.take (k + 1)) S2)) (by rw [hsn, if_neg (by rw [hgb]; decide)]) <| J_pick (A := row 122 13 _ _) PC ?_
  refine J_rowEq (ys := (planP g first (lastP none (zs.take (k + 1))) (k + 1) (zs.drop (k + 1))).map encQ) (by rw [hdz, planP, if_neg (by rw [show (zOf bk).1 = goodE bk from rfl, hgb]; decide), hla, nextP, if_neg (by rw [show (zOf bk).1 = goodE bk from rfl, hgb]; decide)]) ?_
  exact J_again2 (k + 1) _ (by omega) (by omega) SU KE
  have hgg : goodE bk = true := by simpa [zOf] using h103
  obtain ⟨qk, hqk⟩ : ∃ q, q = reqP g first (lastP none (zs.take k)) k (entE bk) := ⟨_, rfl⟩
  have hqe : qk.e = entE bk := by rw [hqk]; rfl
  refine J_pick (A := row 122 13 v19 _) PC ?_
  refine J_rowEq (ys := encQ qk :: (planP g first (some (entE bk)) (k + 1) (zs.drop (k + 1))).map encQ) (by rw [hdz, planP, if_pos (show (zOf bk).1 = true from hgg), hqk]; rfl) <| J_row .here fun hw19 a19 c19 hv19 hl19 hm19 hz19 => ?_
  subst hv19
  have hmc19 : c19 ≤ 9223372036854775807 := hm19
  obtain ⟨b19, o19, rfl⟩ := hz19 (by simp)
  refine J_skip <| Q_then <| J_seq <| J_drawL (some 5) mixed <| ip 0 rfl rfl rfl rfl (p_move rfl) <| ip 2 rfl rfl rfl rfl (p_move rfl) <| ip 3 rfl rfl rfl rfl (p_indexAddr rfl rfl Tryz.underlying46 ty122 (by omega) (by simp)) <| iv 4 rfl rfl rfl rfl (fun _ => v_loadE rfl ty122 HS (by rfl)) ?_
  refine i1 1 rfl <| xc fc16 (.cons rfl .nil) rfl (coReqs) fun _ => i1 5 rfl <| xc fc64 (.cons rfl (.cons rfl .nil)) rfl (coRqAdd (s := Sk) (q := qk) PC hWk.fit.ids (by omega)) fun _ => ?_
  refine i0 <| Q_then <| J_seq <| J_seq <| J_drawL none mixed <| ip 0 rfl rfl rfl rfl (p_move rfl) <| ip 1 rfl rfl rfl rfl (p_move rfl) <| ip 2 rfl rfl rfl rfl (p_indexAddr rfl rfl Tryz.underlying54 ty34 (by omega) (by simp; omega)) ?_
  refine I_take (i := 3) rfl rfl rfl rfl (by kernel_rfl) (fun _ _ _ _ h => h) (fun _ => v_loadE rfl ty34 HS (by simp only [Int.toNat_natCast, List.getElem?_map, hzk]; rfl)) ?_
  refine ip 4 rfl rfl rfl rfl (p_move rfl) <| i1 5 rfl <| xc fc100 (.cons rfl .nil) rfl (coNow (s := { Sk with rt := addQ Sk.rt qk }) PC) fun _ => ?_
  refine i1 6 rfl <| xc fc140 (.cons rfl (.cons rfl .nil)) rfl (deadEC (e := entE bk) (now := Sk.now) (entE_time hbB)) fun _ => ip 7 rfl rfl rfl rfl (p_move rfl) <| ip 8 rfl rfl rfl rfl (p_extract rfl rfl) <| ip 9 rfl rfl rfl rfl (p_extract rfl rfl) <| ip 10 rfl rfl rfl rfl (p_assign rfl) <| ip 11 rfl rfl rfl rfl (p_assign rfl) <| i0 ?_
  refine qx <| mv rfl rfl <| nq ?_
  refine C_split rfl (fun h130 => ?_) (fun h130 => ?_)
  obtain ⟨d, hdd⟩ : ∃ x, deadE (entE bk) Sk.now = some x := by
    cases hq : deadE (entE bk) Sk.now with
    | none => rw [hq] at h130; simp at h130
    | some y => exact ⟨y, rfl⟩
  refine J_slot (t := 22) (v := .int .u64 d) rfl (by rw [hdd]; rfl) <| J_drawL (some 7) mixed <| ip 0 rfl rfl rfl rfl (p_move rfl) <| ip 2 rfl rfl rfl rfl (p_move rfl) <| ip 3 rfl rfl rfl rfl (p_move rfl) <| ip 4 rfl rfl rfl rfl (p_indexAddr rfl rfl Tryz.underlying46 ty122 (by omega) (by simp)) <| ip 5 rfl rfl rfl rfl (p_fieldAddr rfl fa122_0) <| iv 6 rfl rfl rfl rfl (fun _ => v_loadFA rfl ty36 HS (by rfl) CT) ?_
  refine i1 1 rfl <| xc fc62 (.cons rfl .nil) rfl (coTimers) fun _ => i1 7 rfl <| xc fc141 (.cons rfl (.cons rfl (.cons rfl .nil))) rfl (coTmPush (s := { Sk with rt := addQ Sk.rt qk }) (d := d) (i := qk.id) PC (by show Sk.tm.length ≤ _; omega) hsk) fun _ => ?_
  refine i0 <| qr <| mv rfl rfl <| L_pur rfl (p_slice rfl Tryz.underlying46 ty122 rfl rfl (by omega) (by simp; omega) (by simp at hl19 ⊢; omega)) <| J_pick (A := row 122 13 _ _) PC ?_
  refine J_dropS (t := 140) (lo := 1) rfl (by simp) fun a140 => ag rfl rfl <| L_nil <| Q_blk_normal <| qr <| L_pur rfl (p_add64 rfl rfl (by omega)) <| mv rfl rfl <| nq ?_
  refine J_pick (A := coA p _) PC ?_
  refine J_asTo (B := coA p (takeF g first none 0 (raw.take (k + 1)) S2)) (by rw [hsn, if_pos hgg, ← hqk]; unfold addT; rw [hqe, hdd]) <| J_pick (A := row 122 13 _ _) PC ?_
  refine J_rowEq (ys := (planP g first (lastP none (zs.take (k + 1))) (k + 1) (zs.drop (k + 1))).map encQ) (by rw [hla, nextP, if_pos (show (zOf bk).1 = true from hgg)]; rfl) ?_
  exact J_again2 (k + 1) _ (by omega) (by omega) SU KE
  have hdd : deadE (entE bk) Sk.now = none := by
    cases hq : deadE (entE bk) Sk.now with
    | none => rfl
    | some y => rw [hq] at h130; simp at h130
  refine J_skip <| qr <| mv rfl rfl <| L_pur rfl (p_slice rfl Tryz.underlying46 ty122 rfl rfl (by omega) (by simp; omega) (by simp at hl19 ⊢; omega)) <| J_pick (A := row 122 13 _ _) PC ?_
  refine J_dropS (t := 140) (lo := 1) rfl (by simp) fun a140 => ag rfl rfl <| L_nil <| Q_blk_normal <| qr <| L_pur rfl (p_add64 rfl rfl (by omega)) <| mv rfl rfl <| nq ?_
  refine J_pick (A := coA p _) PC ?_
  refine J_asTo (B := coA p (takeF g first none 0 (raw.take (k + 1)) S2)) (by rw [hsn, if_pos hgg, ← hqk]; unfold addT; rw [hqe, hdd]) <| J_pick (A := row 122 13 _ _) PC ?_
  refine J_rowEq (ys := (planP g first (lastP none (zs.take (k + 1))) (k + 1) (zs.drop (k + 1))).map encQ) (by rw [hla, nextP, if_pos (show (zOf bk).1 = true from hgg)]; rfl) ?_
  exact J_again2 (k + 1) _ (by omega) (by omega) SU KE
  have hkn : k = n := by omega
  refine J_pick (A := coA p _) PC ?_
  refine J_asTo (B := coA p (kTakeIn s g most).1) (by rw [hki, hkt, hkn, List.take_of_length_le (by omega)]) <| J_exit <| Q_then_exit <| Q_then_exit <| Q_blk_this <| qx <| mv rfl rfl <| ag rfl rfl ?_
  refine nq <| J_ret ?_
  refine J_return (()) Tryz.results90 (.tmp rfl .nil) ?_ ?_
  · rw [hki]; rfl
  · exact SU
end Go.Pse
namespace Go.Pse
open Go.RowKit Go.Proofs
variable {Q : Sqe → Prop}
theorem WellQ.upTo {s : KS} {N M N2 M2 : Nat} (h : WellQ Q s N M) (hN : N ≤ N2) (hM : M ≤ M2) (hN2 : N2 ≤ 90000) (hM2 : M2 ≤ 90000) : WellQ Q s N2 M2 := by
  have hf := h.fit
  exact ⟨⟨hN2, hM2, hf.ids, Nat.le_trans hf.jn hM, Nat.le_trans hf.tm hN, fun x hx => ⟨(hf.ep x hx).1, Nat.le_trans (hf.ep x hx).2.1 hN, Nat.le_trans (hf.ep x hx).2.2 hN⟩, fun x hx => ⟨(hf.nt x hx).1, Nat.le_trans (hf.nt x hx).2 hN⟩, hf.rp, fun x hx => ⟨(hf.rg x hx).1, Nat.le_trans (hf.rg x hx).2 hM⟩, hf.mem⟩, Nat.le_trans h.q hN, Nat.le_trans h.mp hN, Nat.le_trans h.sl hN, h.rg, h.tree, h.marks, h.thr, h.ent, h.rtk⟩
theorem WellQ.takeIn {s : KS} {N M : Nat} (h : WellQ Q s N M) (hN : N + 8 ≤ 90000) (hM : M + 8 ≤ 90000) (hs : Srt s.tm) {g most : Int} (hQ : ∀ b r, look s.rg g = some (b, r) → ∀ bs ∈ takeRaw s r (takeN s g most r).toNat, goodE bs = true → Q (entE bs)) : WellQ Q (kTakeIn s g most).1 (N + 8) (M + 8) ∧ Srt (kTakeIn s g most).1.tm := by
  unfold kTakeIn
  cases hl : look s.rg g with
  | none => exact ⟨h.upTo (by omega) (by omega) hN hM, hs⟩
  | some x =>
    obtain ⟨b, r⟩ := x
    dsimp only
    have hr : RgOk r := (h.fit.rg _ (mem_look hl)).1
    have hn := takeN_in (s := s) (g := g) (most := most) hr
    by_cases hv : rgValid r s.mem = true
    · rw [if_pos hv]
      have h4 := h.taken hN hM hs hl (hQ b r hl)
      exact ⟨h4.1.upTo (by omega) (by omega) hN hM, h4.2⟩
    · rw [if_neg hv]; exact ⟨h.upTo (by omega) (by omega) hN hM, hs⟩
theorem coRunG {E : World} {l m : List As} {p : Nat} {s : KS} (hp : Pick (coA p s) l m) {g bud : Int} {Q : Sqe → Prop} {N M : Nat} (hW : WellQ Q s N M) (hb : bud ≤ 1000) (hN : N + 1010 ≤ 90000) (hM : M ≤ 45000) (hD : ∀ (s : KS) (N M : Nat) (q : Rq) (T : Th) (i : ID), Good s N M → SqeOk q.e → Q q.e → DoesC s T q i) :
    Con Tryz.prog 57 #[.pointer (some ⟨p, 0, none⟩), .int .i64 g, .int .i64 bud] E l (fun β : Nat → Nat => .int .i64 ((kRunN g β bud.toNat 0 s).2 : Int)) (fun β => coA p (kRunN g β bud.toNat 0 s).1 :: m) := by
  refine Con.body (vs := [.pointer (some ⟨p, 0, none⟩), .int .i64 g, .int .i64 bud]) (n := 31) Tryz.func57 rfl rfl [(0, .pointer (some ⟨p, 0, none⟩)), (1, .int .i64 g), (2, .int .i64 bud)] (env_ok 3 rfl) <| J_pick hp <| sr <| ag rfl rfl <| nxx <| mv rfl rfl <| L_pur rfl (p_max rfl rfl) ?_
  obtain ⟨B, hB⟩ : ∃ B : Nat, (if (0 : Int) > bud then 0 else bud) = (B : Int) := ⟨(if (0 : Int) > bud then 0 else bud).toNat, by split <;> omega⟩
  have hB2 : B = bud.toNat := by split at hB <;> omega
  refine J_slot (t := 11) (v := .int .i64 (B : Int)) rfl (by rw [hB]) <| mv rfl rfl <| nq <| J_block <| J_loop2 (fun (j : Nat) (bs : List Nat) => j ≤ B ∧ bs.length = j ∧ okS g bs s = true) (fun j bs => coA p (runS g bs s) :: m) (fun j bs => [(12, .int .i64 (j : Int)), (11, .int .i64 (B : Int)), (0, .pointer (some ⟨p, 0, none⟩)), (1, .int .i64 g), (2, .int .i64 bud)]) (fun j bs => B - j) 0 [] ⟨by omega, rfl, rfl⟩ SU KE ?_
  intro j bs ⟨hj, hbl, hok⟩
  have hWS0 := hW.runS (g := g) (bs := bs) (by omega)
  rw [hbl] at hWS0
  obtain ⟨S, hS⟩ : ∃ S, S = (runS g bs s) := ⟨_, rfl⟩
  refine J_asTo (B := coA p S) (by rw [hS]) ?_
  have hWS : WellQ Q S (N + j) M := by rw [hS]; exact hWS0
  refine sr <| L_pur rfl (p_lss rfl rfl) <| nq <| J_seq ?_
  refine C_dec rfl (fun h13 => ?_) (fun h13 => ?_)
  refine J_skip <| Q_then <| J_seq <| J_block <| sr <| mv rfl rfl <| ag rfl rfl <| nx ?_
  refine mv rfl rfl <| L_op <| xc fc16 (.cons rfl .nil) rfl (coReqs) fun _ => mv rfl rfl <| L_op <| xc fc101 (.cons rfl (.cons rfl .nil)) rfl (coRqNext (s := S) (g := g) PC hWS.fit.ids (by have := hWS.fit.jn; omega)) fun _ => ?_
  refine mv rfl rfl <| L_pur rfl (p_extract rfl rfl) <| L_pur rfl (p_extract rfl rfl) <| L_op <| x_alloc ty36 rfl fun b8 => L_op <| x_store rfl rfl ty36 rfl SM SM RO PT ?_
  refine ag rfl rfl <| nxx <| mv rfl rfl <| L_pur rfl (p_not rfl) <| nq ?_
  refine C_split rfl (fun h23 => ?_) (fun h23 => ?_)
  have hno : nextQ S.rt g = none := by
    cases hq : nextQ S.rt g with
    | none => rfl
    | some y => rw [hq] at h23; simp at h23
  have hkr : kRunN g (fun k => bs.getD k 0) bud.toNat 0 s = ((runS g bs s), bs.length) := kRunN_is hok (by omega) (.inr (by rw [← hS]; exact hno)) (fun k _ => by rw [Nat.zero_add])
  refine sr <| mv rfl rfl <| ag rfl rfl <| nq <| J_ret <| Q_then_ret <| Q_blk_ret <| Q_then_ret ?_
  refine Q_then_ret <| Q_blk_ret <| Q_then_ret <| J_pick (A := coA p _) PC ?_
  refine J_asTo (B := coA p (kRunN g (fun k => bs.getD k 0) bud.toNat 0 s).1) (by rw [hkr, hS]) ?_
  refine J_return ((fun k => bs.getD k 0)) Tryz.results57 (.tmp rfl .nil) ?_ ?_
  · rw [hkr, hbl]; rfl
  · exact SU
  obtain ⟨i, hni⟩ : ∃ x, nextQ S.rt g = some x := by
    cases hq : nextQ S.rt g with
    | none => rw [hq] at h23; simp at h23
    | some y => exact ⟨y, rfl⟩
  have hni0 : nextQ (runS g bs s).rt g = some i := by rw [← hS]; exact hni
  refine J_pick (A := blk b8 _ _) PC ?_
  refine J_asTo (B := blk b8 36 (encI i)) (by rw [hni]; rfl) <| J_skip <| qr <| mv rfl rfl <| L_val rfl (v_loadA rfl ty36 HS CT) ?_
  refine L_op <| xc fc20 (.cons rfl (.cons rfl .nil)) rfl (coStartG (s := S) (i := i) PC hWS (by omega) hM (fun q T hq => hD _ _ _ q T i ((hWS.start i).good (by omega) hM) ((hWS.start i).ent (i, q) (mem_look hq)).1 ((hWS.start i).ent (i, q) (mem_look hq)).2)) fun x27 => ?_
  refine L_nil <| Q_blk_normal <| qr <| L_pur rfl (p_add64 rfl rfl (by omega)) <| mv rfl rfl <| nq <| J_pick (A := coA p _) PC ?_
  refine J_asTo (B := coA p (runS g (bs ++ [x27]) s)) (by rw [(runS_snoc (b := x27) hok hni0).2, hS]) ?_
  exact J_again2 (j + 1) (bs ++ [x27]) (by omega) (⟨by omega, by rw [List.length_append, hbl]; rfl, (runS_snoc (b := x27) hok hni0).1⟩) SU KE
  have hkr : kRunN g (fun k => bs.getD k 0) bud.toNat 0 s = ((runS g bs s), bs.length) := kRunN_is hok (by omega) (.inl (by omega)) (fun k _ => by rw [Nat.zero_add])
  have hjB : j = B := by omega
  refine J_exit <| Q_then_exit <| Q_then_exit <| Q_blk_this <| qx <| mv rfl rfl <| L_pur rfl (p_max rfl rfl) <| J_slot (t := 30) (v := .int .i64 (B : Int)) rfl (by rw [hB]) ?_
  refine ag rfl rfl <| nq <| J_ret <| J_pick (A := coA p _) PC ?_
  refine J_asTo (B := coA p (kRunN g (fun k => bs.getD k 0) bud.toNat 0 s).1) (by rw [hkr, hS]) ?_
  refine J_return ((fun k => bs.getD k 0)) Tryz.results57 (.tmp rfl .nil) ?_ ?_
  · rw [hkr, hbl, hjB]; rfl
  · exact SU
theorem coEnterG {E : World} {l m : List As} {p : Nat} {s : KS} (hp : Pick (coA p s) l m) {t n : Int} {Q : Sqe → Prop} {N M : Nat} (hW : WellQ Q s N M) (hN : N + 2000 ≤ 90000) (hM : M + 9 ≤ 45000) (hS : Srt s.tm) (htk : ∀ g, 0 ≤ (look s.tk g).getD 0 ∧ (look s.tk g).getD 0 ≤ 1000000000) (hQ : ∀ T b r, look s.th t = some T → look s.rg T.ring = some (b, r) → ∀ bs ∈ takeRaw (flushS s T.ring r) (flushR r s.mem).1 (takeN (flushS s T.ring r) T.ring (clampB n) (flushR r s.mem).1).toNat, goodE bs = true → Q (entE bs)) (hD : ∀ (s : KS) (N M : Nat) (q : Rq) (T : Th) (i : ID), Good s N M → SqeOk q.e → Q q.e → DoesC s T q i) :
    Con Tryz.prog 42 #[.pointer (some ⟨p, 0, none⟩), .int .i64 t, .int .i64 n] E l (fun β : Nat → Nat => .int .i64 (kEnter s t n β).2) (fun β => coA p (kEnter s t n β).1 :: m) := by
  refine Con.body (vs := [.pointer (some ⟨p, 0, none⟩), .int .i64 t, .int .i64 n]) (n := 50) Tryz.func42 rfl rfl [(0, .pointer (some ⟨p, 0, none⟩)), (1, .int .i64 t), (2, .int .i64 n)] (env_ok 3 rfl) <| J_pick hp <| sr <| ag rfl rfl <| nx <| mv rfl rfl <| L_pur rfl (p_max rfl rfl) <| L_pur rfl (p_min rfl rfl) ?_
  refine J_slot (t := 13) (v := .int .i64 (clampB n)) rfl rfl ?_
  have hcl : 0 ≤ clampB n ∧ clampB n ≤ 64 := by unfold clampB minI maxI; (repeat' split) <;> omega
  refine ag rfl rfl <| nx <| mv rfl rfl <| mv rfl rfl <| L_op <| xc fc87 (.cons rfl (.cons rfl .nil)) rfl (coThr (s := s) (u := t) PC) fun _ => ?_
  refine mv rfl rfl <| L_pur rfl (p_extract rfl rfl) <| L_pur rfl (p_extract rfl rfl) <| L_op <| x_alloc ty213 rfl fun b7 => L_op <| x_store rfl rfl ty213 rfl SM SM RO PT ?_
  refine ag rfl rfl <| nxx <| mv rfl rfl <| L_pur rfl (p_not rfl) <| nq ?_
  refine C_split rfl (fun h21 => ?_) (fun h21 => ?_)
  have hno : look s.th t = none := by
    cases hq : look s.th t with
    | none => rfl
    | some y => rw [hq] at h21; simp at h21
  have hke : ∀ β, kEnter s t n β = (s, -11) := fun β => by unfold kEnter; rw [hno]
  refine sr <| ag rfl rfl <| nq <| J_ret <| Q_then_ret <| J_pick (A := coA p _) PC ?_
  refine J_asTo (B := coA p (kEnter s t n (fun _ : Nat => (0 : Nat))).1) (by rw [hke]) ?_
  refine J_return ((fun _ : Nat => (0 : Nat))) Tryz.results42 (.tmp rfl .nil) ?_ ?_
  · rw [hke]; rfl
  · exact SU
  obtain ⟨T, hT⟩ : ∃ x, look s.th t = some x := by
    cases hq : look s.th t with
    | none => rw [hq] at h21; simp at h21
    | some y => exact ⟨y, rfl⟩
  refine J_pick (A := blk b7 _ _) PC ?_
  refine J_asTo (B := blk b7 213 [.int .i64 T.unit, .int .i64 T.space, .int .i64 T.ring, .int .i64 T.root.kind, .int .i64 T.root.obj, .int .i64 T.root.size, .int .i64 T.root.badge, .int .i64 T.root.rights]) (by rw [hT]; rfl) <| J_skip <| qx <| mv rfl rfl <| fa rfl rfl fa213_2 <| L_val rfl (v_load rfl ty3 HS (by exact rfl)) ?_
  refine L_op <| xc fc43 (.cons rfl (.cons rfl .nil)) rfl (coRing (s := s) (u := T.ring) PC) fun _ => ?_
  refine J_slot (t := 25) (v := .pointer ((look (ptrs (KS.rg s)) T.ring).map fun b => ⟨b, 0, none⟩)) rfl rfl <| ag rfl rfl <| nq <| J_seq <| J_block <| sr <| mv rfl rfl <| L_pur rfl (p_eqNilPtr Tryz.underlying80 rfl) ?_
  refine ag rfl rfl <| nq ?_
  refine C_split rfl (fun h26 => ?_) (fun h26 => ?_)
  have hno : look (KS.rg s) T.ring = none := by
    cases hq : look (KS.rg s) T.ring with
    | none => rfl
    | some y => rw [look_ptrs, hq] at h26; simp at h26
  have hke : ∀ β, kEnter s t n β = (s, -15) := fun β => by unfold kEnter; rw [hT]; dsimp only; rw [hno]
  refine sr <| ag rfl rfl <| nq <| J_ret <| Q_blk_ret <| Q_then_ret <| J_pick (A := coA p _) PC ?_
  refine J_asTo (B := coA p (kEnter s t n (fun _ : Nat => (0 : Nat))).1) (by rw [hke]) ?_
  refine J_return ((fun _ : Nat => (0 : Nat))) Tryz.results42 (.tmp rfl .nil) ?_ ?_
  · rw [hke]; rfl
  · exact SU
  obtain ⟨⟨b, r⟩, hl⟩ : ∃ x, look (KS.rg s) T.ring = some x := by
    cases hq : look (KS.rg s) T.ring with
    | none => rw [look_ptrs, hq] at h26; simp at h26
    | some y => exact ⟨y, rfl⟩
  have hR : RgOk r := (hW.fit.rg _ (mem_look hl)).1
  have hov : r.over.length + s.rt.length ≤ M := (hW.fit.rg _ (mem_look hl)).2
  have hMm := hW.fit.mem
  have hQ1 := hQ T b r hT hl
  clear hQ
  refine J_slot (t := 9) (v := .pointer (some ⟨b, 0, none⟩)) rfl (by rw [look_ptrs, hl]; rfl) <| sr <| mv rfl rfl <| L_op <| xc fc88 (.cons rfl .nil) rfl (coRgValid (s := s) (u := T.ring) PC hl hR hMm) fun _ => ?_
  refine L_pur rfl (p_not rfl) <| ag rfl rfl <| nq ?_
  refine C_split rfl (fun h29 => ?_) (fun h29 => ?_)
  have hke : ∀ β, kEnter s t n β = (s, -14) := fun β => by unfold kEnter; rw [hT]; dsimp only; rw [hl]; exact if_pos (by simpa using h29)
  refine sr <| ag rfl rfl <| nq <| J_ret <| Q_blk_ret <| Q_then_ret <| J_pick (A := coA p _) PC ?_
  refine J_asTo (B := coA p (kEnter s t n (fun _ : Nat => (0 : Nat))).1) (by rw [hke]) ?_
  refine J_return ((fun _ : Nat => (0 : Nat))) Tryz.results42 (.tmp rfl .nil) ?_ ?_
  · rw [hke]; rfl
  · exact SU
  have hvl : ¬ rgValid r s.mem = false := by simpa using h29
  refine J_skip <| Q_blk_normal <| qx <| mv rfl rfl <| L_op <| xc fc89 (.cons rfl .nil) rfl (coRgFlush (s := s) (u := T.ring) PC hl hR hMm (by omega)) fun x34 => ?_
  refine nq <| J_seq <| J_seq ?_
  have hl1 : look (KS.rg (flushS s T.ring r)) T.ring = some (b, (flushR r s.mem).1) := look_updS (f := fun r => (flushR r s.mem).1) hl
  have hW1 := hW.flush hl
  have hfo := (flush_ok r.over hR hMm).2.2
  obtain ⟨r1, hr1⟩ : ∃ r1, r1 = (flushR r s.mem).1 := ⟨_, rfl⟩
  rw [← hr1] at hl1 hQ1
  have hfo : r1.over.length ≤ r.over.length := by rw [hr1]; exact hfo
  refine J_pick (A := coA p _) PC ?_
  refine J_asTo (B := coA p (flushS s T.ring r)) (by rfl) <| J_region <| mv rfl rfl <| L_op <| xc fc48 (.cons rfl .nil) rfl (coRgOver (s := (flushS s T.ring r)) (u := T.ring) PC hl1 (by omega)) <| JR fun a36 c36 hw36 hl36 hm36 hz36 => L_pur rfl (p_len rfl Tryz.underlying88) <| J_slot (t := 37) (v := .int .i64 (r1.over.length : Int)) rfl (by rw [List.length_map]) ?_
  refine L_pur rfl (p_geq rfl rfl) <| nq ?_
  refine C_dec rfl (fun h38 => ?_) (fun h38 => ?_)
  have hke : ∀ β, kEnter s t n β = ((flushS s T.ring r), -13) := fun β => by unfold kEnter; rw [hT]; dsimp only; rw [hl]; dsimp only; rw [if_neg hvl, ← hr1, if_pos (by omega)]
  refine sr <| ag rfl rfl <| nq <| J_ret <| Q_then_ret <| J_pick (A := coA p _) PC ?_
  refine J_asTo (B := coA p (kEnter s t n (fun _ : Nat => (0 : Nat))).1) (by rw [hke]) ?_
  refine J_return ((fun _ : Nat => (0 : Nat))) Tryz.results42 (.tmp rfl .nil) ?_ ?_
  · rw [hke]; rfl
  · exact SU
  have hke : ∀ β, kEnter s t n β = kGoOn (flushS s T.ring r) T.ring (clampB n) β := fun β => by unfold kEnter; rw [hT]; dsimp only; rw [hl]; dsimp only; rw [if_neg hvl, ← hr1, if_neg (by omega)]
  refine J_skip <| qx <| mv rfl rfl <| fa rfl rfl fa213_2 <| L_val rfl (v_load rfl ty3 HS (by exact rfl)) ?_
  refine mv rfl rfl <| L_op <| xc fc90 (.cons rfl (.cons rfl (.cons rfl .nil))) rfl (coTakeIn (s := (flushS s T.ring r)) (g := T.ring) (most := clampB n) PC hW1 (by omega) (by omega) hS (htk T.ring) (fun b2 r2 h2 => by rw [hl1] at h2; cases h2; exact hQ1)) fun _ => ?_
  have hr1k : RgOk r1 := (hW1.fit.rg _ (mem_look hl1)).1
  have hni := takeN_in (s := (flushS s T.ring r)) (g := T.ring) (most := clampB n) hr1k
  have hW2 := (hW1.takeIn (by omega) (by omega) hS (g := T.ring) (most := clampB n) (fun b2 r2 h2 => by rw [hl1] at h2; cases h2; exact hQ1)).1
  refine ag rfl rfl <| nx <| mv rfl rfl <| fa rfl rfl fa213_2 <| L_val rfl (v_load rfl ty3 HS (by exact rfl)) ?_
  refine mv rfl rfl <| L_op <| xc fc57 (.cons rfl (.cons rfl (.cons rfl .nil))) rfl (coRunG (s := (kTakeIn (flushS s T.ring r) T.ring (clampB n)).1) (g := T.ring) (bud := clampB n) PC hW2 (by omega) (by omega) (by omega) hD) fun x48 => ?_
  refine nx <| mv rfl rfl <| ag rfl rfl <| nq <| J_ret <| J_pick (A := coA p _) PC ?_
  refine J_asTo (B := coA p (kEnter s t n x48).1) (by rw [hke]; rfl) ?_
  refine J_return (x48) Tryz.results42 (.tmp rfl .nil) ?_ ?_
  · rw [hke]; rfl
  · exact SU
end Go.Pse
namespace Go.Pse
open Go.RowKit Go.Proofs
theorem rcheckEC {E : World} {l : List As} {e : Sqe} :
    Con Tryz.prog 84 #[.agg #[.int .i64 e.op, .int .i64 e.flags, .int .u32 e.tag, .int .u32 e.cap, .int .u32 e.a, .int .u32 e.b, .int .u32 e.c, .int .u32 e.time]] E l (fun _ : Unit => .bool (checkE e)) (fun _ => l) := by
  refine Con.body (vs := [.agg #[.int .i64 e.op, .int .i64 e.flags, .int .u32 e.tag, .int .u32 e.cap, .int .u32 e.a, .int .u32 e.b, .int .u32 e.c, .int .u32 e.time]]) (n := 27) Tryz.func84 rfl rfl [(0, .agg #[.int .i64 e.op, .int .i64 e.flags, .int .u32 e.tag, .int .u32 e.cap, .int .u32 e.a, .int .u32 e.b, .int .u32 e.c, .int .u32 e.time])] (env_ok 1 rfl) <| sr <| L_op <| x_box rfl rfl rfl fun b1 => ag rfl rfl <| nx <| fa rfl rfl fa34_0 <| L_val rfl (v_load rfl ty3 HS (by exact rfl)) ?_
  refine L_pur rfl (p_geq rfl rfl) <| mv rfl rfl ?_
  refine J_gsplit (t := 6) rfl (fun h6 => ?_) (fun h6 => ?_)
  refine L_op <| G_on rfl rfl rfl <| J_pur (p_fieldAddr rfl fa34_0) rfl rfl rfl <| L_op <| G_on rfl rfl rfl <| J_val (v_load rfl ty3 HS (by exact rfl)) rfl rfl rfl ?_
  refine L_op <| G_on rfl rfl rfl <| J_pur (p_leq rfl rfl) rfl rfl rfl <| L_pur rfl (p_pick_t rfl rfl) <| mv rfl rfl ?_
  refine J_gsplit (t := 11) rfl (fun h11 => ?_) (fun h11 => ?_)
  refine L_op <| G_on rfl rfl rfl <| J_pur (p_fieldAddr rfl fa34_1) rfl rfl rfl <| L_op <| G_on rfl rfl rfl <| J_val (v_load rfl ty3 HS (by exact rfl)) rfl rfl rfl ?_
  refine L_op <| G_on rfl rfl rfl <| J_pur (p_geq rfl rfl) rfl rfl rfl <| L_pur rfl (p_pick_t rfl rfl) <| mv rfl rfl ?_
  refine J_gsplit (t := 16) rfl (fun h16 => ?_) (fun h16 => ?_)
  refine L_op <| G_on rfl rfl rfl <| J_pur (p_fieldAddr rfl fa34_1) rfl rfl rfl <| L_op <| G_on rfl rfl rfl <| J_val (v_load rfl ty3 HS (by exact rfl)) rfl rfl rfl ?_
  refine L_op <| G_on rfl rfl rfl <| J_pur (p_leq rfl rfl) rfl rfl rfl <| L_pur rfl (p_pick_t rfl rfl) <| mv rfl rfl ?_
  refine J_gsplit (t := 21) rfl (fun h21 => ?_) (fun h21 => ?_)
  refine L_op <| G_on rfl rfl rfl <| J_pur (p_fieldAddr rfl fa34_1) rfl rfl rfl <| L_op <| G_on rfl rfl rfl <| J_val (v_load rfl ty3 HS (by exact rfl)) rfl rfl rfl ?_
  refine L_op <| G_on rfl rfl rfl <| J_pur (p_and rfl rfl) rfl rfl rfl <| L_op <| G_on rfl rfl rfl <| J_pur (p_neq rfl rfl) rfl rfl rfl <| L_pur rfl (p_pick_t rfl rfl) <| ag rfl rfl ?_
  refine nq <| J_ret ?_
  refine J_return (()) Tryz.results84 (.tmp rfl .nil) ?_ ?_
  · first | rfl | (simp_all [one, checkE]; done) | (simp_all [one, checkE] <;> omega)
  · exact SU
  refine L_op <| G_off rfl rfl rfl rfl rfl rfl <| L_op <| G_off rfl rfl rfl rfl rfl rfl <| L_op <| G_off rfl rfl rfl rfl rfl rfl <| L_op <| G_off rfl rfl rfl rfl rfl rfl ?_
  refine L_pur rfl (p_pick_f rfl rfl) <| ag rfl rfl <| nq <| J_ret ?_
  refine J_return (()) Tryz.results84 (.tmp rfl .nil) ?_ ?_
  · first | rfl | (simp_all [one, checkE]; done) | (simp_all [one, checkE] <;> omega)
  · exact SU
  refine L_op <| G_off rfl rfl rfl rfl rfl rfl <| L_op <| G_off rfl rfl rfl rfl rfl rfl <| L_op <| G_off rfl rfl rfl rfl rfl rfl <| L_pur rfl (p_pick_f rfl rfl) <| mv rfl rfl ?_
  refine L_op <| G_off rfl rfl rfl rfl rfl rfl <| L_op <| G_off rfl rfl rfl rfl rfl rfl <| L_op <| G_off rfl rfl rfl rfl rfl rfl <| L_op <| G_off rfl rfl rfl rfl rfl rfl ?_
  refine L_pur rfl (p_pick_f rfl rfl) <| ag rfl rfl <| nq <| J_ret ?_
  refine J_return (()) Tryz.results84 (.tmp rfl .nil) ?_ ?_
  · first | rfl | (simp_all [one, checkE]; done) | (simp_all [one, checkE] <;> omega)
  · exact SU
  refine L_op <| G_off rfl rfl rfl rfl rfl rfl <| L_op <| G_off rfl rfl rfl rfl rfl rfl <| L_op <| G_off rfl rfl rfl rfl rfl rfl <| L_pur rfl (p_pick_f rfl rfl) <| mv rfl rfl ?_
  refine L_op <| G_off rfl rfl rfl rfl rfl rfl <| L_op <| G_off rfl rfl rfl rfl rfl rfl <| L_op <| G_off rfl rfl rfl rfl rfl rfl <| L_pur rfl (p_pick_f rfl rfl) <| mv rfl rfl ?_
  refine L_op <| G_off rfl rfl rfl rfl rfl rfl <| L_op <| G_off rfl rfl rfl rfl rfl rfl <| L_op <| G_off rfl rfl rfl rfl rfl rfl <| L_op <| G_off rfl rfl rfl rfl rfl rfl ?_
  refine L_pur rfl (p_pick_f rfl rfl) <| ag rfl rfl <| nq <| J_ret ?_
  refine J_return (()) Tryz.results84 (.tmp rfl .nil) ?_ ?_
  · first | rfl | (simp_all [one, checkE]; done) | (simp_all [one, checkE] <;> omega)
  · exact SU
  refine L_op <| G_off rfl rfl rfl rfl rfl rfl <| L_op <| G_off rfl rfl rfl rfl rfl rfl <| L_op <| G_off rfl rfl rfl rfl rfl rfl <| L_pur rfl (p_pick_f rfl rfl) <| mv rfl rfl ?_
  refine L_op <| G_off rfl rfl rfl rfl rfl rfl <| L_op <| G_off rfl rfl rfl rfl rfl rfl <| L_op <| G_off rfl rfl rfl rfl rfl rfl <| L_pur rfl (p_pick_f rfl rfl) <| mv rfl rfl ?_
  refine L_op <| G_off rfl rfl rfl rfl rfl rfl <| L_op <| G_off rfl rfl rfl rfl rfl rfl <| L_op <| G_off rfl rfl rfl rfl rfl rfl <| L_pur rfl (p_pick_f rfl rfl) <| mv rfl rfl ?_
  refine L_op <| G_off rfl rfl rfl rfl rfl rfl <| L_op <| G_off rfl rfl rfl rfl rfl rfl <| L_op <| G_off rfl rfl rfl rfl rfl rfl <| L_op <| G_off rfl rfl rfl rfl rfl rfl ?_
  refine L_pur rfl (p_pick_f rfl rfl) <| ag rfl rfl <| nq <| J_ret ?_
  refine J_return (()) Tryz.results84 (.tmp rfl .nil) ?_ ?_
  · first | rfl | (simp_all [one, checkE]; done) | (simp_all [one, checkE] <;> omega)
  · exact SU
theorem rcopyC {E : World} {l : List As} {v : Value} {bs : List Int} (hr : ∀ w, Sep E w l → Reads w 1 v (bs.map encU)) (hl : bs.length ≤ 1000) :
  Con Tryz.prog 132 #[v] E l (fun v' : Value => v') (fun v' => row 5 1 v' (bs.map encU) :: l) := by
 refine Con.body (vs := [v]) (n := 22) Tryz.func132 rfl rfl [(0, v)] (env_ok 1 rfl) <| J_readsB hr fun hw a cap hv h1 h2 h3 => ?_
 subst hv
 have hm : cap ≤ 9223372036854775807 := h2
 have hml : (bs.map encU).length = bs.length := List.length_map _
 refine sr <| ag rfl rfl <| nx <| mv rfl rfl <| L_pur rfl (p_len rfl Tryz.underlying73) <| J_slot (t := 6) (v := .int .i64 (bs.length : Int)) rfl (by rw [List.length_map]) <| L_op <| x_make (len := 0) rfl rfl Tryz.underlying73 ty5 rfl rfl (by omega) (by omega) rfl rfl ?_
 refine JE (((bs.take 0).map encU)) (by rfl) fun a7 c7 hw7 hl7 hm7 hz7 => ag rfl rfl <| nxx <| ag rfl rfl <| nq <| J_block <| J_loop2 (fun k v' => k ≤ bs.length) (fun k v' => row 5 1 v' ((bs.take k).map encU) :: l) (fun k v' => [(4, .int .i64 (k : Int)), (3, v'), (0, .slice a (bs.map encU).length cap)]) (fun k v' => bs.length - k) 0 _ (by omega) SU KE ?_
 intro k v' hk
 have htl : (bs.take k).length ≤ k := by rw [List.length_take]; omega
 refine J_seq <| sr <| mv rfl rfl <| mv rfl rfl <| L_pur rfl (p_len rfl Tryz.underlying73) <| L_pur rfl (p_lss rfl rfl) <| nq ?_
 refine C_dec rfl (fun h11 => ?_) (fun h11 => ?_)
 have hlt : k < bs.length := by simp at h11; omega
 obtain ⟨bx, ox, rfl⟩ := h3 (by intro h; rw [h] at hml; simp at hml; omega)
 obtain ⟨c, hcc⟩ : ∃ c, bs[k]? = some c := ⟨_, List.getElem?_eq_getElem hlt⟩
 refine J_skip <| Q_then <| J_seq <| J_block <| J_region <| mv rfl rfl <| mv rfl rfl <| mv rfl rfl ?_
 refine L_pur rfl (p_indexAddr rfl rfl Tryz.underlying73 ty5 (by omega) (by omega)) ?_
 refine L_val rfl (v_loadR1 rfl ty5 (fun w H => hr w (Sub.sep SU H)) (by simp only [Int.toNat_natCast, List.getElem?_map, hcc]; rfl)) ?_
 refine L_op <| x_lit (vals := [_]) Tryz.underlying73 ty5 rfl (.cons rfl .nil) (.one rfl .nil) (Wf.cons rfl rfl Wf.nil) rfl (by decide) rfl rfl <| JE ([[.int .u8 c]]) (by rfl) fun a19 c19 hw19 hl19 hm19 hz19 => L_op <| x_app rfl rfl Tryz.underlying73 ty5 rfl rfl PC (fun w H => sep_reads HS H) (by simp; omega) (by simp; omega) rfl <| JE (((bs.take (k + 1)).map encU)) (by rw [List.take_add_one, hcc]; simp [encU]) fun a20 c20 hw20 hl20 hm20 hz20 => ag rfl rfl <| L_nil ?_
 refine Q_blk_normal <| qr <| mv rfl rfl <| L_pur rfl (p_add64 rfl rfl (by omega)) <| ag rfl rfl <| nq ?_
 exact J_again2 (k + 1) _ (by omega) (by omega) SU KE
 have hkn : k = bs.length := by simp at h11; omega
 refine J_pick (A := row 5 1 _ _) PC ?_
 refine J_rowEq (ys := bs.map encU) (by rw [hkn, List.take_length]) <| J_exit <| Q_then_exit <| Q_then_exit <| Q_blk_this <| qx <| mv rfl rfl <| ag rfl rfl ?_
 refine nq <| J_ret ?_
 exact J_return (_) Tryz.results132 (.tmp rfl .nil) rfl SU
theorem rputC {E : World} {l : List As} {v : Value} {bs : List Int} {a : Nat} (hr : ∀ w, Sep E w l → Reads w 1 v (bs.map encU)) (ha : a + 4 ≤ bs.length) (hl : bs.length ≤ 1000) {n : Int} :
  Con Tryz.prog 86 #[v, .int .i64 (a : Int), .int .i64 4, .int .u32 n] E l (fun v' : Value => v') (fun v' => row 5 1 v' ((putB bs a (le4 n)).map encU) :: l) := by
 refine Con.body (vs := [v, .int .i64 (a : Int), .int .i64 4, .int .u32 n]) (n := 42) Tryz.func86 rfl rfl [(0, v), (1, .int .i64 (a : Int)), (2, .int .i64 4), (3, .int .u32 n)] (env_ok 4 rfl) <| sr <| ag rfl rfl <| nx <| mv rfl rfl <| L_op <| xc fc132 (.cons rfl .nil) rfl (rcopyC (bs := bs) hr hl) <| JR fun a12 c12 hw12 hl12 hm12 hz12 => ?_
 obtain ⟨bq, oq, rfl⟩ := hz12 (by intro h; have := congrArg List.length h; simp at this; subst this; simp at ha)
 have hmq : c12 ≤ 9223372036854775807 := hm12
 refine ag rfl rfl <| nxx <| ag rfl rfl <| nq <| J_block <| J_pick (A := row 5 1 _ _) PC ?_
 refine J_rowEq (ys := (putB bs a ((le4 n).take 0)).map encU) (by rw [List.take_zero, putB_nil]) <| J_loop (α := Nat) (fun i => i ≤ 4) (fun i => row 5 1 (.slice (some ⟨bq, oq, none⟩) (bs.map encU).length c12) ((putB bs a ((le4 n).take i)).map encU) :: l) (fun i => [(10, .int .i64 (i : Int)), (2, .int .i64 4), (9, .slice (some ⟨bq, oq, none⟩) (bs.map encU).length c12), (1, .int .i64 (a : Int)), (3, .int .u32 n)]) (fun i => 4 - i) 0 (by omega) SU KE ?_
 intro i hi
 refine J_seq <| sr <| mv rfl rfl <| mv rfl rfl <| L_pur rfl (p_lss rfl rfl) <| nq ?_
 refine C_dec rfl (fun h15 => ?_) (fun h15 => ?_)
 have hpl : ((putB bs a ((le4 n).take i)).map encU).length = bs.length := by rw [List.length_map, putB_len (by simp [le4]; omega)]
 have hml : (bs.map encU).length = bs.length := List.length_map _
 refine J_skip <| Q_then <| J_seq <| J_block <| sr <| mv rfl rfl <| mv rfl rfl <| L_pur rfl (p_neg64 rfl (by omega)) ?_
 refine L_pur rfl (p_geq rfl rfl) <| mv rfl rfl <| J_bool (t := 22) (c := true) rfl (by first | (simp; omega) | simp) <| L_op <| G_on rfl rfl rfl <| J_pur (p_move rfl) rfl rfl rfl <| L_op <| G_on rfl rfl rfl ?_
 refine J_pur (p_move rfl) rfl rfl rfl <| L_op <| G_on rfl rfl rfl <| J_pur (p_len rfl Tryz.underlying73) rfl rfl rfl <| L_op <| G_on rfl rfl rfl <| J_pur (p_move rfl) rfl rfl rfl <| L_op <| G_on rfl rfl rfl ?_
 refine J_pur (p_sub64 rfl rfl (by omega)) rfl rfl rfl <| L_op <| G_on rfl rfl rfl <| J_pur (p_lss rfl rfl) rfl rfl rfl <| L_pur rfl (p_pick_t rfl rfl) <| nq <| J_bool (t := 29) (c := true) rfl (by first | (simp; omega) | simp) <| C_true rfl ?_
 refine J_region <| mv rfl rfl <| mv rfl rfl <| mv rfl rfl <| L_pur rfl (p_add64 rfl rfl (by omega)) <| mv rfl rfl <| mv rfl rfl <| L_pur rfl (p_mul64 rfl rfl (by omega)) ?_
 refine J_slot (t := 36) (v := .int .i64 (8 * (i : Int))) rfl rfl <| L_pur rfl (p_conv rfl Tryz.underlying3 Tryz.underlying154) <| J_slot (t := 37) (v := .int .u64 (8 * (i : Int))) rfl (by rw [wrap64u_of (by omega)]) <| L_pur rfl (p_shr rfl rfl (by omega) (by have : (IntKind.u32.bits : Int) = 32 := rfl; omega)) <| L_pur rfl (p_conv rfl Tryz.underlying22 Tryz.underlying5) <| L_pur rfl (p_indexAddr rfl rfl Tryz.underlying73 ty5 (by omega) (by omega)) <| L_op <| x_storeE rfl rfl ty5 rfl SM SM PC (by omega) ?_
 refine J_rowEq (ys := (putB bs a ((le4 n).take (i + 1))).map encU) (put_step (by omega) ha) <| L_nil <| Q_blk_normal <| qr <| mv rfl rfl <| L_pur rfl (p_add64 rfl rfl (by omega)) <| ag rfl rfl <| nq ?_
 exact J_again (i + 1) (by omega) (by omega) SU KE
 have hi4 : i = 4 := by omega
 subst hi4
 refine J_pick (A := row 5 1 _ _) PC ?_
 refine J_rowEq (ys := (putB bs a (le4 n)).map encU) (by rfl) <| J_exit <| Q_then_exit <| Q_then_exit <| Q_blk_this <| qx <| mv rfl rfl <| ag rfl rfl ?_
 refine nq <| J_ret ?_
 exact J_return (_) Tryz.results86 (.tmp rfl .nil) rfl SU
theorem rput32C {E : World} {l : List As} {v : Value} {bs : List Int} {a : Nat} (hr : ∀ w, Sep E w l → Reads w 1 v (bs.map encU)) (ha : a + 4 ≤ bs.length) (hl : bs.length ≤ 1000) {n : Int} :
    Con Tryz.prog 41 #[v, .int .i64 (a : Int), .int .u32 n] E l (fun v' : Value => v') (fun v' => row 5 1 v' ((putB bs a (le4 n)).map encU) :: l) := by
  refine Con.body (vs := [v, .int .i64 (a : Int), .int .u32 n]) (n := 11) Tryz.func41 rfl rfl [(0, v), (1, .int .i64 (a : Int)), (2, .int .u32 n)] (env_ok 3 rfl) <| sr <| ag rfl rfl <| nx <| mv rfl rfl <| mv rfl rfl <| mv rfl rfl <| L_op <| xc fc86 (.cons rfl (.cons rfl (.cons rfl (.cons rfl .nil)))) rfl (rputC hr ha hl) ?_
  refine JR fun a10 c10 hw10 hl10 hm10 hz10 => ag rfl rfl <| nq <| J_ret ?_
  exact J_return (_) Tryz.results41 (.tmp rfl .nil) rfl SU
theorem word_at (e : Sqe) {i : Nat} (hi : i < 6) : ([[.int .u32 e.tag], [.int .u32 e.cap], [.int .u32 e.a], [.int .u32 e.b], [.int .u32 e.c], [.int .u32 e.time]] : List (List Value))[i]? = some [.int .u32 (wordE e i)] := by
  have : i = 0 ∨ i = 1 ∨ i = 2 ∨ i = 3 ∨ i = 4 ∨ i = 5 := by omega
  rcases this with rfl | rfl | rfl | rfl | rfl | rfl <;> rfl
theorem rbytesEC {E : World} {l : List As} {e : Sqe} :
  Con Tryz.prog 38 #[.agg #[.int .i64 e.op, .int .i64 e.flags, .int .u32 e.tag, .int .u32 e.cap, .int .u32 e.a, .int .u32 e.b, .int .u32 e.c, .int .u32 e.time]] E l (fun v : Value => v) (fun v => row 5 1 v ((rawE e).map encU) :: l) := by
 refine Con.body (vs := [.agg #[.int .i64 e.op, .int .i64 e.flags, .int .u32 e.tag, .int .u32 e.cap, .int .u32 e.a, .int .u32 e.b, .int .u32 e.c, .int .u32 e.time]]) (n := 49) Tryz.func38 rfl rfl [(0, .agg #[.int .i64 e.op, .int .i64 e.flags, .int .u32 e.tag, .int .u32 e.cap, .int .u32 e.a, .int .u32 e.b, .int .u32 e.c, .int .u32 e.time])] (env_ok 1 rfl) <| sr <| L_op <| x_box rfl rfl rfl fun b1 => ag rfl rfl <| nxx <| L_val rfl (v_loadA rfl ty34 HS CT) ?_
 refine L_op <| xc fc84 (.cons rfl .nil) rfl (rcheckEC (e := e)) fun _ => L_pur rfl (p_not rfl) <| nq ?_
 refine C_split rfl (fun h8 => ?_) (fun h8 => ?_)
 have hck : rawE e = [] := by unfold rawE; rw [if_neg (by simpa using h8)]
 refine J_nil (el := 5) (sz := 1) <| J_rowEq (ys := (rawE e).map encU) (by rw [hck]; rfl) <| sr <| ag rfl rfl <| nq <| J_ret <| Q_then_ret ?_
 exact J_return (_) Tryz.results38 (.tmp rfl .nil) rfl SU
 have hc1 : checkE e = true := by simpa using h8
 have hck : rawE e = bytesE e := if_pos hc1
 refine J_skip <| qx <| L_op <| x_make (len := 32) rfl rfl Tryz.underlying73 ty5 rfl rfl (by simp) (by simp) rfl rfl <| JE ((List.replicate 32 (0 : Int)).map encU) (by rfl) fun a9 c9 hw9 hl9 hm9 hz9 => ?_
 obtain ⟨bq, oq, rfl⟩ := hz9 (by simp)
 refine ag rfl rfl <| nx <| mv rfl rfl <| fa rfl rfl fa34_0 <| L_val rfl (v_load rfl ty3 HS (by exact rfl)) ?_
 refine L_pur rfl (p_conv rfl Tryz.underlying3 Tryz.underlying5) <| L_pur rfl (p_indexAddr rfl rfl Tryz.underlying73 ty5 (by omega) (by simp)) <| L_op <| x_storeE rfl rfl ty5 rfl SM SM PC (by simp) ?_
 refine nx <| mv rfl rfl <| fa rfl rfl fa34_1 <| L_val rfl (v_load rfl ty3 HS (by exact rfl)) ?_
 refine L_pur rfl (p_conv rfl Tryz.underlying3 Tryz.underlying5) <| L_pur rfl (p_indexAddr rfl rfl Tryz.underlying73 ty5 (by omega) (by simp)) <| L_op <| x_storeE rfl rfl ty5 rfl SM SM PC (by simp) ?_
 refine J_pick (A := row 5 1 _ _) PC ?_
 refine J_rowEq (ys := (partE e 0).map encU) (by simp only [wrap_u8]; rfl) <| nx <| fa rfl rfl fa34_2 <| L_val rfl (v_load rfl ty22 HS (by exact rfl)) ?_
 refine fa rfl rfl fa34_3 <| L_val rfl (v_load rfl ty22 HS (by exact rfl)) ?_
 refine fa rfl rfl fa34_4 <| L_val rfl (v_load rfl ty22 HS (by exact rfl)) ?_
 refine fa rfl rfl fa34_5 <| L_val rfl (v_load rfl ty22 HS (by exact rfl)) ?_
 refine fa rfl rfl fa34_6 <| L_val rfl (v_load rfl ty22 HS (by exact rfl)) ?_
 refine fa rfl rfl fa34_7 <| L_val rfl (v_load rfl ty22 HS (by exact rfl)) ?_
 refine L_op <| x_lit (vals := [_, _, _, _, _, _]) Tryz.underlying210 ty22 rfl (.cons rfl (.cons rfl (.cons rfl (.cons rfl (.cons rfl (.cons rfl .nil)))))) (.one rfl (.one rfl (.one rfl (.one rfl (.one rfl (.one rfl .nil)))))) (Wf.cons rfl rfl (Wf.cons rfl rfl (Wf.cons rfl rfl (Wf.cons rfl rfl (Wf.cons rfl rfl (Wf.cons rfl rfl Wf.nil)))))) rfl (by decide) rfl rfl <| JE (([[.int .u32 e.tag], [.int .u32 e.cap], [.int .u32 e.a], [.int .u32 e.b], [.int .u32 e.c], [.int .u32 e.time]] : List (List Value))) (by rfl) fun a32 c32 hw32 hl32 hm32 hz32 => ?_
 obtain ⟨bw, ow, rfl⟩ := hz32 (by simp)
 refine ag rfl rfl <| nxx <| ag rfl rfl <| nq <| J_block <| J_loop2 (fun k v => k ≤ 6) (fun k v => row 5 1 v ((partE e k).map encU) :: row 22 1 (.slice (some ⟨bw, ow, none⟩) ([[.int .u32 e.tag], [.int .u32 e.cap], [.int .u32 e.a], [.int .u32 e.b], [.int .u32 e.c], [.int .u32 e.time]] : List (List Value)).length c32) ([[.int .u32 e.tag], [.int .u32 e.cap], [.int .u32 e.a], [.int .u32 e.b], [.int .u32 e.c], [.int .u32 e.time]] : List (List Value)) :: l) (fun k v => [(5, .int .i64 (k : Int)), (3, v), (4, .slice (some ⟨bw, ow, none⟩) ([[.int .u32 e.tag], [.int .u32 e.cap], [.int .u32 e.a], [.int .u32 e.b], [.int .u32 e.c], [.int .u32 e.time]] : List (List Value)).length c32)]) (fun k v => 6 - k) 0 _ (by omega) SU KE ?_
 intro k v hk
 refine J_seq <| sr <| mv rfl rfl <| mv rfl rfl <| L_pur rfl (p_len rfl Tryz.underlying210) <| L_pur rfl (p_lss rfl rfl) <| nq ?_
 refine C_dec rfl (fun h36 => ?_) (fun h36 => ?_)
 have hk6 : k < 6 := by simp at h36; omega
 have hpl := partE_len e k (by omega)
 refine J_skip <| Q_then <| J_seq <| J_block <| J_region <| mv rfl rfl <| mv rfl rfl <| L_pur rfl (p_mul64 rfl rfl (by omega)) ?_
 refine L_pur rfl (p_add64 rfl rfl (by omega)) <| J_slot (t := 42) (v := .int .i64 ((4 + 4 * k : Nat) : Int)) rfl (by first | rfl | (congr 1; omega)) <| mv rfl rfl <| mv rfl rfl <| L_pur rfl (p_indexAddr rfl rfl Tryz.underlying210 ty22 (by omega) (by first | (simp; done) | (simp; omega))) <| L_val rfl (v_loadE1 rfl ty22 HS (by rw [Int.toNat_natCast]; exact word_at e hk6)) ?_
 refine L_op <| xc fc41 (.cons rfl (.cons rfl (.cons rfl .nil))) rfl (rput32C (a := 4 + 4 * k) (bs := partE e k) (fun w H => sep_reads (xs := (partE e k).map encU) HS H) (by omega) (by omega)) <| JE ((partE e (k + 1)).map encU) (by rfl) fun a47 c47 hw47 hl47 hm47 hz47 => ag rfl rfl <| L_nil <| Q_blk_normal <| qr <| mv rfl rfl ?_
 refine L_pur rfl (p_add64 rfl rfl (by omega)) <| ag rfl rfl <| nq ?_
 exact J_again2 (k + 1) _ (by omega) (by omega) SU KE
 have hk6 : k = 6 := by simp at h36; omega
 subst hk6
 refine J_pick (A := row 5 1 _ _) PC ?_
 refine J_rowEq (ys := (rawE e).map encU) (by rw [hck]; rfl) <| J_exit <| Q_then_exit <| Q_then_exit <| Q_blk_this <| qx <| mv rfl rfl <| ag rfl rfl ?_
 refine nq <| J_ret ?_
 exact J_return (_) Tryz.results38 (.tmp rfl .nil) rfl SU
abbrev memS (s : KS) (u off : Nat) (ys : List Int) : KS := { s with mem := s.mem.set u (putB (rowAt s.mem ((u : Int) + 1)) off ys) }
theorem MemOk.row {ms : List (List Int)} (h : MemOk ms) {u : Nat} (hu : u < 64) : ms[u]? = some (rowAt ms ((u : Int) + 1)) ∧ (rowAt ms ((u : Int) + 1)).length = 512 ∧ Bytes (rowAt ms ((u : Int) + 1)) := by
  have := h.at (u := (u : Int) + 1) ⟨by omega, by omega⟩
  rw [show ((u : Int) + 1 - 1).toNat = u by omega] at this
  exact this
theorem coMemWr {E : World} {l m : List As} {p : Nat} {s : KS} (hp : Pick (coA p s) l m) (hM : MemOk s.mem) {u : Nat} (hu : u < 64) {off : Nat} {ys : List Int} {v' : Value} (hr : ∀ w, Sep E w m → Reads w 1 v' (ys.map encU)) (ho : off + ys.length ≤ 512) :
    Con Tryz.prog 40 #[.pointer (some ⟨s.mb, 0, none⟩), .int .i64 ((u : Int) + 1), .int .i64 (off : Int), v'] E l (fun _ : Unit => .bool true) (fun _ => coA p (memS s u off ys) :: m) := fun w H => by
  refine (?_ : Jk E l 0 [] fun _ w => Calls Tryz.prog 40 #[.pointer (some ⟨s.mb, 0, none⟩), .int .i64 ((u : Int) + 1), .int .i64 (off : Int), v'] w fun e w' => ∃ x, e = .returned ((fun _ : Unit => .bool true) x) ∧ Sep E w' ((fun _ : Unit => coA p (memS s u off ys) :: m) x)) w _ H fr0
  refine J_pick hp <| J_coO fun bn be br bg bt bs bp bl bk _ => J_con (writeC (ms := s.mem) (u := u) (r := rowAt s.mem ((u : Int) + 1)) (off := off) (ys := ys) PC hM.len (hM.row hu).1 (hM.row hu).2.1 (fun w H => hr w (Sub.sep SU H)) ho) fun x => ?_
  refine J_coS (p := p) (s := (memS s u off ys)) bn be br bg bt bs bp bl bk PX trivial ?_
  exact J_end SU
end Go.Pse
namespace Go.Pse
open Go.RowKit Go.Proofs
/-! ### plain: an entry asked, reckoned -/
theorem TreeOk.flat {ps : List (Place × SV)} (hK : (ps.map Prod.fst).Nodup) (h : (ps.all fun e => canP e.1 && decide (e.2.2 = (0, 0)) && checkC e.2.1) = true) : TreeOk ps := by
  have h2 : ∀ x s, look ps x = some s → (canP x = true ∧ s.2 = (0, 0)) ∧ checkC s.1 = true := fun x s hx => by
    have := List.all_eq_true.1 h (x, s) (mem_look hx)
    simpa only [Bool.and_eq_true, decide_eq_true_eq] using this
  exact ⟨hK, fun x s hx => (h2 x s hx).1.1, fun x s hx => .inl (h2 x s hx).1.2, fun x s hx => (h2 x s hx).2, ⟨fun _ => 0, fun x s hx hs => absurd (h2 x s hx).1.2 hs⟩⟩
end Go.Pse
namespace Go.Pse
open Go.RowKit Go.Proofs
/-! ### plain: what holds, all in one; p: which entries there are -/
abbrev Pq (p : Sqe → Bool) : Sqe → Prop := fun e => p e = true
structure EInv (p : Sqe → Bool) (s : KS) (N M : Nat) : Prop where
  w : WellQ (Pq p) s N M
  srt : Srt s.tm
  tks : ∀ e ∈ s.tk, 0 ≤ e.2 ∧ e.2 ≤ (M : Int)
theorem EInv.tk {p : Sqe → Bool} {s : KS} {N M : Nat} (h : EInv p s N M) (g : Int) : 0 ≤ (look s.tk g).getD 0 ∧ (look s.tk g).getD 0 ≤ 1000000000 := by
  have hm := h.w.fit.mm
  cases hq : look s.tk g with
  | none => exact ⟨by decide, by decide⟩
  | some x =>
    have := h.tks _ (mem_look hq)
    show 0 ≤ x ∧ x ≤ _
    simp only at this
    omega
theorem EInv.upTo {p : Sqe → Bool} {s : KS} {N M N2 M2 : Nat} (h : EInv p s N M) (hN : N ≤ N2) (hM : M ≤ M2) (hN2 : N2 ≤ 90000) (hM2 : M2 ≤ 90000) : EInv p s N2 M2 :=
  ⟨h.w.upTo hN hM hN2 hM2, h.srt, fun e he => by have := h.tks e he; omega⟩
theorem takeF_tk {g first : Int} : ∀ (r : List (List Int)) (p : Option Sqe) (k : Nat) (s : KS), (takeF g first p k r s).tk = s.tk
  | [], _, _, _ => rfl
  | bs :: r, p, k, s => by
    rw [takeF]
    split
    · rw [takeF_tk r]; unfold addT; split <;> rfl
    · rw [takeF_tk r]; exact (Ebb.tell (fun s i r v => Ebb.dec _ s i r v) s _).tk
theorem ins_memT {xs : List (Int × Int)} {u a : Int} {x : Int × Int} (h : x ∈ ins xs u a) : x ∈ xs ∨ x = (u, a) := by
  unfold Go.Pse.ins at h
  split at h
  · obtain ⟨y, hy, rfl⟩ := List.mem_map.1 h
    split
    · exact .inr rfl
    · exact .inl hy
  · rcases List.mem_append.1 h with h | h
    · exact .inl h
    · exact .inr (List.mem_singleton.1 h)
theorem EInv.takeIn {p : Sqe → Bool} {s : KS} {N M : Nat} (h : EInv p s N M) (hN : N + 8 ≤ 90000) (hM : M + 8 ≤ 90000) {g most : Int} (hQ : ∀ b r, look s.rg g = some (b, r) → ∀ bs ∈ takeRaw s r (takeN s g most r).toNat, goodE bs = true → p (entE bs) = true) : EInv p (kTakeIn s g most).1 (N + 8) (M + 8) := by
  have h1 := h.w.takeIn hN hM h.srt hQ
  refine ⟨h1.1, h1.2, ?_⟩
  unfold kTakeIn
  cases hl : look s.rg g with
  | none => exact fun e he => by have := h.tks e he; omega
  | some x =>
    dsimp only
    split
    · have hr : RgOk x.2 := (h.w.fit.rg _ (mem_look hl)).1
      have hn := takeN_in (s := s) (g := g) (most := most) hr
      unfold kTaken
      rw [takeF_tk]
      unfold kTake
      split
      · intro e he
        rcases ins_memT he with he | rfl
        · have := h.tks e he; omega
        · have h3 := (h.tk g)
          have h4 : (look s.tk g).getD 0 ≤ (M : Int) := by
            cases hq : look s.tk g with
            | none => show (0 : Int) ≤ _; omega
            | some y => exact (h.tks _ (mem_look hq)).2
          show 0 ≤ (look s.tk g).getD 0 + _ ∧ (look s.tk g).getD 0 + _ ≤ _
          omega
      · exact fun e he => by have := h.tks e he; omega
    · exact fun e he => by have := h.tks e he; omega
theorem EInv.started {p : Sqe → Bool} {s : KS} {N M : Nat} (h : EInv p s N M) (hN : N + 1 ≤ 90000) (i : ID) (b : Nat) : EInv p (kStart s i b).1 (N + 1) M :=
  ⟨h.w.started hN i b, List.Pairwise.sublist (start_tk s i b).2 h.srt, by rw [(start_tk s i b).1]; exact h.tks⟩
theorem EInv.runN {p : Sqe → Bool} {g : Int} {β : Nat → Nat} : ∀ (n j : Nat) {s : KS} {N M : Nat}, EInv p s N M → N + n ≤ 90000 → EInv p (kRunN g β n j s).1 (N + n) M
  | 0, _, _, _, _, h, _ => h
  | n + 1, j, s, N, M, h, hN => by
    unfold kRunN
    split
    · exact h.upTo (by omega) (Nat.le_refl _) hN h.w.fit.mm
    · rename_i i _
      have := EInv.runN (g := g) (β := β) n (j + 1) (h.started (by omega) i (β j)) (by omega)
      rw [show N + 1 + n = N + (n + 1) by omega] at this
      exact this
theorem EInv.flush {p : Sqe → Bool} {s : KS} {N M : Nat} (h : EInv p s N M) {g : Int} {b : Nat} {r : Rg} (hl : look s.rg g = some (b, r)) : EInv p (flushS s g r) N M := ⟨h.w.flush hl, h.srt, h.tks⟩
def entOk (p : Sqe → Bool) (s : KS) (t n : Int) : Bool := match look s.th t with
  | none => true
  | some T => match look s.rg T.ring with
    | none => true
    | some x => (takeRaw (flushS s T.ring x.2) (flushR x.2 s.mem).1 (takeN (flushS s T.ring x.2) T.ring (clampB n) (flushR x.2 s.mem).1).toNat).all fun bs => !goodE bs || p (entE bs)
theorem entOk_is {p : Sqe → Bool} {s : KS} {t n : Int} (h : entOk p s t n = true) : ∀ T b r, look s.th t = some T → look s.rg T.ring = some (b, r) → ∀ bs ∈ takeRaw (flushS s T.ring r) (flushR r s.mem).1 (takeN (flushS s T.ring r) T.ring (clampB n) (flushR r s.mem).1).toNat, goodE bs = true → p (entE bs) = true := fun T b r h1 h2 bs hb hg => by
  unfold entOk at h
  rw [h1] at h
  dsimp only at h
  rw [h2] at h
  have := List.all_eq_true.1 h bs hb
  rw [hg] at this
  simpa using this
theorem clamp_in (n : Int) : 0 ≤ clampB n ∧ clampB n ≤ 64 := by unfold clampB minI maxI; (repeat' split) <;> omega
theorem EInv.enter {p : Sqe → Bool} {s : KS} {N M : Nat} (h : EInv p s N M) {t n : Int} (hQ : entOk p s t n = true) (hN : N + 100 ≤ 90000) (hM : M + 9 ≤ 90000) (β : Nat → Nat) : EInv p (kEnter s t n β).1 (N + 100) (M + 9) := by
  have hQ1 := entOk_is hQ
  have hu : ∀ {s2 : KS} {j k : Nat}, j ≤ 100 → k ≤ 9 → EInv p s2 (N + j) (M + k) → EInv p s2 (N + 100) (M + 9) := fun hj hk h2 => h2.upTo (by omega) (by omega) hN hM
  unfold kEnter
  cases hT : look s.th t with
  | none => exact hu (j := 0) (k := 0) (by omega) (by omega) h
  | some T =>
    dsimp only
    cases hl : look s.rg T.ring with
    | none => exact hu (j := 0) (k := 0) (by omega) (by omega) h
    | some x =>
      obtain ⟨b, r⟩ := x
      dsimp only
      have h1 := h.flush hl
      split
      · exact hu (j := 0) (k := 0) (by omega) (by omega) h
      · split
        · exact hu (j := 0) (k := 0) (by omega) (by omega) h1
        · have hl1 : look (flushS s T.ring r).rg T.ring = some (b, (flushR r s.mem).1) := look_updS (f := fun r => (flushR r s.mem).1) hl
          have h2 := h1.takeIn (by omega) (by omega) (g := T.ring) (most := clampB n) (fun b2 r2 e => by rw [hl1] at e; cases e; exact hQ1 T b r hT hl)
          have hc := clamp_in n
          have h3 := EInv.runN (g := T.ring) (β := β) (clampB n).toNat 0 h2 (by omega)
          rw [Nat.add_assoc] at h3
          exact hu (j := 8 + (clampB n).toNat) (k := 8) (by omega) (by omega) h3
theorem EInv.pass {p : Sqe → Bool} {s : KS} {N M : Nat} (h : EInv p s N M) (n : Int) : EInv p (kPass s n) N M := by
  have hw := h.w
  have hf := hw.fit
  exact ⟨⟨⟨hf.n, hf.mm, hf.ids, hf.jn, hf.tm, hf.ep, hf.nt, hf.rp, hf.rg, hf.mem⟩, hw.q, hw.mp, hw.sl, hw.rg, hw.tree, hw.marks, hw.thr, hw.ent, hw.rtk⟩, h.srt, h.tks⟩
theorem expL_ebb : ∀ (l : List ID) (s : KS), Ebb s (kExpL l s).1
  | [], s => .refl s
  | i :: l, s => by
    unfold kExpL
    split
    · exact expL_ebb l s
    · exact (Ebb.dec _ _ _ _ _).trans (expL_ebb l _)
theorem EInv.expire {p : Sqe → Bool} {s : KS} {N M : Nat} (h : EInv p s N M) : EInv p (kExpire s).1 N M := by
  have h1 := expL_ebb ((due s.tm s.now).map Prod.snd) (dueS s)
  refine ⟨(h.w.dueS).expL _, List.Pairwise.sublist h1.tm (List.Pairwise.sublist (List.dropWhile_sublist _) h.srt), ?_⟩
  unfold kExpire
  rw [h1.tk]; exact h.tks
theorem EInv.memS {p : Sqe → Bool} {s : KS} {N M : Nat} (h : EInv p s N M) {u off : Nat} {ys : List Int} (hu : u < 64) (ho : off + ys.length ≤ 512) (hB : Bytes ys) : EInv p (memS s u off ys) N M := by
  have hw := h.w
  have hf := hw.fit
  obtain ⟨_, h2, h3⟩ := hf.mem.row hu
  exact ⟨⟨⟨hf.n, hf.mm, hf.ids, hf.jn, hf.tm, hf.ep, hf.nt, hf.rp, hf.rg, hf.mem.put ⟨by rw [putB_len (by omega), h2], putB_bytes h3 hB⟩⟩, hw.q, hw.mp, hw.sl, hw.rg, hw.tree, hw.marks, hw.thr, hw.ent, hw.rtk⟩, h.srt, h.tks⟩
theorem bytes_rawE (e : Sqe) : Bytes (rawE e) := by
  unfold rawE; split
  · exact partE_bytes e 6
  · exact fun x hx => by cases hx
theorem treeE1 : TreeOk (coreN 1 1 false).2.2.1 := TreeOk.flat (by decide +kernel) (by decide +kernel)
theorem treeE4 : TreeOk (coreN 1 4 false).2.2.1 := TreeOk.flat (by decide +kernel) (by decide +kernel)
theorem slE122 (g : NewG) : (kNew 1 1 2 2 false g).sl = (coreN 1 1 false).2.2.1 := by
  have hc : kCore (kNew ((1 : Nat) : Int) ((1 : Nat) : Int) 2 2 false g) = coreN 1 1 false := kNew_core (by omega) (by omega)
  simp only [show ((1 : Nat) : Int) = 1 from rfl, show ((1 : Nat) : Int) = 1 from rfl] at hc
  unfold kCore at hc
  rw [← hc]
theorem fitE122 (g : NewG) : Fits (kNew 1 1 2 2 false g) 40 60 := by
  refine ⟨by omega, by omega, Ids.nil, by show 0 ≤ 60; omega, by show 0 ≤ 40; omega, fun x hx => (by cases hx), fun x hx => (by cases hx), fun x hx => ?_, fun x hx => ?_, zrow_ok⟩
  · obtain rfl := List.mem_singleton.1 (show x ∈ [(7, (g.bs 0).2, (0, 0), false)] from hx)
    exact ⟨by show (1 : Int) ≤ 7; omega, by show (7 : Int) ≤ 64; omega⟩
  · obtain rfl := List.mem_singleton.1 (show x ∈ [(4, (g.bs 0).1, rgNew 5 6 2 2)] from hx)
    exact ⟨rgNew_is ⟨by omega, by omega⟩ ⟨by omega, by omega⟩, by show 0 ≤ 60; omega⟩
theorem wellE122 (p : Sqe → Bool) (g : NewG) : EInv p (kNew 1 1 2 2 false g) 40 60 :=
  ⟨⟨fitE122 g, (by show (1 : Nat) ≤ 40; omega), (by show (2 : Nat) ≤ 40; omega), (by rw [slE122]; decide +kernel), (by show (1 : Nat) ≤ 1000; omega), (by rw [slE122]; exact treeE1), fun _ he => (by cases he), (by show [(4 : Int)].Nodup; decide), fun _ he => (by cases he), Keyd.nil⟩, List.Pairwise.nil, fun e he => by
    obtain rfl := List.mem_singleton.1 (show e ∈ [((4 : Int), (0 : Int))] from he)
    exact ⟨by show (0 : Int) ≤ 0; omega, by show (0 : Int) ≤ 60; omega⟩⟩
theorem slE434 (g : NewG) : (kNew 1 4 3 4 false g).sl = (coreN 1 4 false).2.2.1 := by
  have hc : kCore (kNew ((1 : Nat) : Int) ((4 : Nat) : Int) 3 4 false g) = coreN 1 4 false := kNew_core (by omega) (by omega)
  simp only [show ((1 : Nat) : Int) = 1 from rfl, show ((4 : Nat) : Int) = 4 from rfl] at hc
  unfold kCore at hc
  rw [← hc]
theorem fitE434 (g : NewG) : Fits (kNew 1 4 3 4 false g) 40 60 := by
  refine ⟨by omega, by omega, Ids.nil, by show 0 ≤ 60; omega, by show 0 ≤ 40; omega, fun x hx => (by cases hx), fun x hx => (by cases hx), fun x hx => ?_, fun x hx => ?_, zrow_ok⟩
  · obtain rfl := List.mem_singleton.1 (show x ∈ [(7, (g.bs 0).2, (0, 0), false)] from hx)
    exact ⟨by show (1 : Int) ≤ 7; omega, by show (7 : Int) ≤ 64; omega⟩
  · obtain rfl := List.mem_singleton.1 (show x ∈ [(4, (g.bs 0).1, rgNew 5 6 3 4)] from hx)
    exact ⟨rgNew_is ⟨by omega, by omega⟩ ⟨by omega, by omega⟩, by show 0 ≤ 60; omega⟩
theorem wellE434 (p : Sqe → Bool) (g : NewG) : EInv p (kNew 1 4 3 4 false g) 40 60 :=
  ⟨⟨fitE434 g, (by show (1 : Nat) ≤ 40; omega), (by show (2 : Nat) ≤ 40; omega), (by rw [slE434]; decide +kernel), (by show (1 : Nat) ≤ 1000; omega), (by rw [slE434]; exact treeE4), fun _ he => (by cases he), (by show [(4 : Int)].Nodup; decide), fun _ he => (by cases he), Keyd.nil⟩, List.Pairwise.nil, fun e he => by
    obtain rfl := List.mem_singleton.1 (show e ∈ [((4 : Int), (0 : Int))] from he)
    exact ⟨by show (0 : Int) ≤ 0; omega, by show (0 : Int) ≤ 60; omega⟩⟩
theorem coEnterP {E : World} {l m : List As} {p_ : Nat} {s : KS} (hp : Pick (coA p_ s) l m) {p : Sqe → Bool} {t n : Int} {N M : Nat} (hI : EInv p s N M) (hQ : entOk p s t n = true) (hN : N + 2000 ≤ 90000) (hM : M + 9 ≤ 45000) (hD : ∀ (s : KS) (N M : Nat) (q : Rq) (T : Th) (i : ID), Good s N M → SqeOk q.e → p q.e = true → DoesC s T q i) :
    Con Tryz.prog 42 #[.pointer (some ⟨p_, 0, none⟩), .int .i64 t, .int .i64 n] E l (fun β : Nat → Nat => .int .i64 (kEnter s t n β).2) (fun β => coA p_ (kEnter s t n β).1 :: m) := coEnterG hp hI.w hN hM hI.srt hI.tk (entOk_is hQ) hD
theorem coRunP {E : World} {l m : List As} {p_ : Nat} {s : KS} (hp : Pick (coA p_ s) l m) {p : Sqe → Bool} {g bud : Int} {N M : Nat} (hI : EInv p s N M) (hb : bud ≤ 1000) (hN : N + 1010 ≤ 90000) (hM : M ≤ 45000) (hD : ∀ (s : KS) (N M : Nat) (q : Rq) (T : Th) (i : ID), Good s N M → SqeOk q.e → p q.e = true → DoesC s T q i) :
    Con Tryz.prog 57 #[.pointer (some ⟨p_, 0, none⟩), .int .i64 g, .int .i64 bud] E l (fun β : Nat → Nat => .int .i64 ((kRunN g β bud.toNat 0 s).2 : Int)) (fun β => coA p_ (kRunN g β bud.toNat 0 s).1 :: m) := coRunG hp hI.w hb hN hM hD
end Go.Pse
namespace Go.Pse
open Go.RowKit Go.Proofs
theorem coMemWrZ {E : World} {l m : List As} {p : Nat} {s : KS} (hp : Pick (coA p s) l m) (hM : MemOk s.mem) {u off : Nat} {z z2 : Int} (hz : z = (u : Int) + 1) (hz2 : z2 = (off : Int)) (hu : u < 64) {ys : List Int} {v' : Value} (hr : ∀ w, Sep E w m → Reads w 1 v' (ys.map encU)) (ho : off + ys.length ≤ 512) :
    Con Tryz.prog 40 #[.pointer (some ⟨s.mb, 0, none⟩), .int .i64 z, .int .i64 z2, v'] E l (fun _ : Unit => .bool true) (fun _ => coA p (memS s u off ys) :: m) := by
  subst hz; subst hz2; exact coMemWr hp hM hu hr ho
/-! ### plain: entries laid into a ring -/
def layE : Nat → List Sqe → KS → KS
  | _, [], s => s
  | i, e :: es, s => layE (i + 1) es (memS s 4 (16 + 32 * i) (rawE e))
def laidS (g : NewG) (es : List Sqe) : KS := memS (layE 0 (es.take 8) (kNew 1 4 3 4 false g)) 4 4 (le4 (es.length : Int))
theorem layE_snoc {e : Sqe} : ∀ (es : List Sqe) (i : Nat) (s : KS), layE i (es ++ [e]) s = memS (layE i es s) 4 (16 + 32 * (i + es.length)) (rawE e)
  | [], i, s => rfl
  | y :: es, i, s => by
    rw [List.cons_append, layE, layE, layE_snoc es, List.length_cons, show i + 1 + es.length = i + (es.length + 1) by omega]
theorem EInv.lay {p : Sqe → Bool} : ∀ (es : List Sqe) {i : Nat} {s : KS} {N M : Nat}, EInv p s N M → i + es.length ≤ 8 → EInv p (layE i es s) N M
  | [], _, _, _, _, h, _ => h
  | e :: es, i, s, N, M, h, hi => by
    rw [List.length_cons] at hi
    exact EInv.lay es (h.memS (u := 4) (off := 16 + 32 * i) (ys := rawE e) (by omega) (by have := rawE_len e; omega) (bytes_rawE e)) (by omega)
theorem laid_inv (p : Sqe → Bool) (g : NewG) (es : List Sqe) : EInv p (laidS g es) 40 60 :=
  (EInv.lay (es.take 8) (wellE434 p g) (by rw [List.length_take]; omega)).memS (u := 4) (off := 4) (ys := le4 (es.length : Int)) (by omega) (by simp [le4]) (le4_bytes _)
theorem run_nil {s : KS} (h : s.rt = []) (g : Int) (β : Nat → Nat) (n j : Nat) : kRunN g β n j s = (s, 0) := by
  cases n with
  | zero => rfl
  | succ n => unfold kRunN; rw [show nextQ s.rt g = none from by rw [h]; rfl]
def tailO (s : KS) (g : Int) : Option Int := (look s.rg g).map fun x => x.2.tail
theorem laidC {E : World} {l m : List As} {v : Value} {es : List Sqe} (hp : Pick (row 34 8 v (es.map encSq)) l m) (he : es.length ≤ 1000) :
  Con Tryz.prog 37 #[.int .i64 3, .int .i64 4, v] E l (fun g : NewG => .pointer (some ⟨g.p, 0, none⟩)) (fun g => coA g.p (laidS g es) :: row 34 8 v (es.map encSq) :: m) := by
 refine Con.body (vs := [.int .i64 3, .int .i64 4, v]) (n := 69) Tryz.func37 rfl rfl [(0, .int .i64 3), (1, .int .i64 4), (2, v)] (env_ok 3 rfl) <| J_pick hp <| J_row .here fun hw a cap hv h1 h2 h3 => ?_
 subst hv
 have hmc : cap ≤ 9223372036854775807 := h2
 have hml : (es.map encSq).length = es.length := List.length_map _
 refine sr <| ag rfl rfl <| nx <| mv rfl rfl <| mv rfl rfl <| L_pur rfl (bld86 (.cons rfl (.cons rfl (.cons rfl (.cons rfl .nil)))) (by repeat constructor)) <| J_slot (t := 11) (v := .agg (encG 1 4 3 4 false).toArray) rfl rfl <| L_op <| xc fc45 (.cons rfl .nil) rfl (coNew (ct := 1) (cu := 4) (cs := 3) (cc := 4) (sh := false)) fun g => ?_
 have IK := wellE434 (fun _ => true) g
 have hrg : look (ptrs (KS.rg (kNew 1 4 3 4 false g))) 4 = some (g.bs 0).1 := rfl
 obtain ⟨K, hK⟩ : ∃ K, K = (kNew 1 4 3 4 false g) := ⟨_, rfl⟩
 rw [← hK] at IK hrg
 refine J_pick (A := coA g.p _) PC ?_
 refine J_asTo (B := coA g.p K) (by rw [hK]) <| ag rfl rfl <| nxx <| mv rfl rfl <| L_pur rfl (p_eqNilPtr Tryz.underlying24 rfl) <| mv rfl rfl <| J_bool (t := 15) (c := false) rfl (rfl) <| L_op <| G_on rfl rfl rfl ?_
 refine J_pur (p_move rfl) rfl rfl rfl <| L_op <| G_on rfl rfl rfl <| xc fc39 (.cons rfl .nil) rfl (coMem (s := K) PC) fun _ => ?_
 refine L_op <| G_on rfl rfl rfl <| J_pur (p_eqNilPtr Tryz.underlying75 rfl) rfl rfl rfl <| L_pur rfl (p_pick_f rfl rfl) <| mv rfl rfl <| J_bool (t := 20) (c := false) rfl (rfl) <| L_op <| G_on rfl rfl rfl ?_
 refine J_pur (p_move rfl) rfl rfl rfl <| L_op <| G_on rfl rfl rfl <| xc fc43 (.cons rfl (.cons rfl .nil)) rfl (coRing (s := K) (u := 4) PC) fun _ => ?_
 refine J_slot (t := 22) (v := .pointer (some ⟨(g.bs 0).1, 0, none⟩)) rfl (by rw [hrg]; rfl) <| L_op <| G_on rfl rfl rfl <| J_pur (p_eqNilPtr Tryz.underlying80 rfl) rfl rfl rfl <| L_pur rfl (p_pick_f rfl rfl) <| mv rfl rfl <| J_bool (t := 25) (c := false) rfl (rfl) <| L_op <| G_on rfl rfl rfl ?_
 refine J_pur (p_move rfl) rfl rfl rfl <| L_op <| G_on rfl rfl rfl <| xc fc16 (.cons rfl .nil) rfl (coReqs) fun _ => L_op <| G_on rfl rfl rfl <| J_pur (p_eqNilPtr Tryz.underlying28 rfl) rfl rfl rfl <| L_pur rfl (p_pick_f rfl rfl) ?_
 refine mv rfl rfl <| J_bool (t := 30) (c := false) rfl (rfl) <| L_op <| G_on rfl rfl rfl <| J_pur (p_move rfl) rfl rfl rfl <| L_op <| G_on rfl rfl rfl <| xc fc17 (.cons rfl .nil) rfl (coJournal) fun _ => ?_
 refine L_op <| G_on rfl rfl rfl <| J_pur (p_eqNilPtr Tryz.underlying30 rfl) rfl rfl rfl <| L_pur rfl (p_pick_f rfl rfl) <| nq <| J_bool (t := 34) (c := false) rfl (rfl) <| C_false rfl <| J_skip ?_
 refine Q_then <| J_seq <| sr <| ag rfl rfl <| nq <| J_block <| J_pick (A := coA g.p _) PC ?_
 refine J_asTo (B := coA g.p (layE 0 (es.take 0) K)) (by rfl) <| J_loop (α := Nat) (fun i => i ≤ es.length ∧ i ≤ 8) (fun i => coA g.p (layE 0 (es.take i) K) :: row 34 8 (.slice a (es.map encSq).length cap) (es.map encSq) :: m) (fun i => [(8, .int .i64 (i : Int)), (0, .int .i64 3), (2, .slice a (es.map encSq).length cap), (7, .pointer (some ⟨g.p, 0, none⟩))]) (fun i => 8 - i) 0 ⟨by omega, by omega⟩ SU KE ?_
 intro i ⟨hi, hi8⟩
 obtain ⟨S, hS⟩ : ∃ S, S = (layE 0 (es.take i) K) := ⟨_, rfl⟩
 have IS : EInv (fun _ => true) S 40 60 := by rw [hS]; exact EInv.lay _ IK (by rw [List.length_take]; omega)
 refine J_asTo (B := coA g.p S) (by rw [hS]) <| J_seq <| sr <| mv rfl rfl <| mv rfl rfl <| L_pur rfl (p_len rfl Tryz.underlying54) <| L_pur rfl (p_lss rfl rfl) <| mv rfl rfl ?_
 refine J_gsplit (t := 39) rfl (fun h39 => ?_) (fun h39 => ?_)
 refine L_op <| G_on rfl rfl rfl <| J_pur (p_move rfl) rfl rfl rfl <| L_op <| G_on rfl rfl rfl <| J_pur (p_move rfl) rfl rfl rfl <| L_op <| G_on rfl rfl rfl ?_
 refine J_pur (p_conv rfl Tryz.underlying3 Tryz.underlying154) rfl rfl rfl <| J_slot (t := 42) (v := .int .u64 3) rfl rfl <| L_op <| G_on rfl rfl rfl <| J_pur (p_shl rfl rfl (by decide) (by decide)) rfl rfl rfl <| J_slot (t := 43) (v := .int .i64 8) rfl rfl <| L_op <| G_on rfl rfl rfl ?_
 refine J_pur (p_lss rfl rfl) rfl rfl rfl <| L_pur rfl (p_pick_t rfl rfl) <| nq ?_
 refine C_split rfl (fun h45 => ?_) (fun h45 => ?_)
 have hlt : i < es.length := by simp at h39; omega
 have hl8 : i < 8 := by have h := h45; simp at h; omega
 obtain ⟨bx, ox, rfl⟩ := h3 (by intro h; rw [h] at hml; simp at hml; omega)
 obtain ⟨c, hcc⟩ : ∃ c, es[i]? = some c := ⟨_, List.getElem?_eq_getElem hlt⟩
 refine J_skip <| Q_then <| J_seq <| J_block <| J_seq <| J_drawL (some 10) mixed <| ip 0 rfl rfl rfl rfl (p_move rfl) <| ip 2 rfl rfl rfl rfl (p_move rfl) ?_
 refine ip 3 rfl rfl rfl rfl (p_mul64 rfl rfl (by omega)) <| ip 4 rfl rfl rfl rfl (p_add64 rfl rfl (by omega)) <| ip 5 rfl rfl rfl rfl (p_move rfl) <| ip 6 rfl rfl rfl rfl (p_move rfl) <| ip 7 rfl rfl rfl rfl (p_indexAddr rfl rfl Tryz.underlying54 ty34 (by omega) (by simp; omega)) ?_
 refine I_take (i := 8) rfl rfl rfl rfl (by kernel_rfl) (fun _ _ _ _ h => h) (fun _ => v_loadE rfl ty34 HS (by simp only [Int.toNat_natCast, List.getElem?_map, hcc]; rfl)) ?_
 refine i1 1 rfl <| xc fc39 (.cons rfl .nil) rfl (coMem (s := S) PC) fun _ => ?_
 refine i1 9 rfl <| xc fc38 (.cons rfl .nil) rfl (rbytesEC (e := c)) <| JR fun a57 c57 hw57 hl57 hm57 hz57 => i1 10 rfl <| xc fc40 (.cons rfl (.cons rfl (.cons rfl (.cons rfl .nil)))) rfl (coMemWrZ (s := S) (u := 4) (off := 16 + 32 * i) (ys := rawE c) PC IS.w.fit.mem rfl (by omega) (by omega) (fun w H => sep_reads (xs := (rawE c).map encU) HS H) (by have := rawE_len c; omega)) fun _ => ?_
 refine ip 11 rfl rfl rfl rfl (p_not rfl) <| i0 <| Q_then <| J_bool (t := 59) (c := false) rfl (rfl) <| C_false rfl <| J_skip <| Q_blk_normal <| qr ?_
 refine mv rfl rfl <| L_pur rfl (p_add64 rfl rfl (by omega)) <| ag rfl rfl <| nq <| J_pick (A := coA g.p _) PC ?_
 refine J_asTo (B := coA g.p (layE 0 (es.take (i + 1)) K)) (by rw [List.take_add_one, hcc, Option.toList_some, layE_snoc, List.length_take, Nat.min_eq_left (by omega), Nat.zero_add, ← hS]) ?_
 exact J_again (i + 1) (by omega) (⟨by omega, by omega⟩) SU KE
 refine J_exit <| Q_then_exit <| Q_then_exit <| Q_blk_this <| Q_then <| J_seq ?_
 have hend : es.take i = es.take 8 := by
  have : i = 8 := by simp at h45; omega
  rw [this]
 
 refine J_drawL (some 7) mixed <| ip 0 rfl rfl rfl rfl (p_move rfl) <| ip 3 rfl rfl rfl rfl (p_move rfl) <| ip 4 rfl rfl rfl rfl (p_len rfl Tryz.underlying54) <| ip 5 rfl rfl rfl rfl (p_conv rfl Tryz.underlying3 Tryz.underlying22) <| J_slot (t := 65) (v := .int .u32 (es.length : Int)) rfl (by rw [List.length_map, wrap32u_of (by omega)]) <| I_ready (rs := [1, 2]) SI (by kernel_rfl) (by simp) ?_
 refine (I_cons rfl ?_ (I_cons rfl ?_ I_nil))
 refine xc fc39 (.cons rfl .nil) rfl (coMem (s := S) PC) fun _ => ?_
 refine i1 2 rfl <| x_make (len := 4) rfl rfl Tryz.underlying73 ty5 rfl rfl (by simp) (by simp) rfl rfl <| JE ((List.replicate 4 (0 : Int)).map encU) (by rfl) fun a62 c62 hw62 hl62 hm62 hz62 => i1 6 rfl <| xc fc41 (.cons rfl (.cons rfl (.cons rfl .nil))) rfl (rput32C (a := 0) (bs := List.replicate 4 0) (n := (es.length : Int)) (fun w H => sep_reads (xs := (List.replicate 4 (0 : Int)).map encU) HS H) (by decide) (by decide)) <| JE ((le4 (es.length : Int)).map encU) (by rfl) fun a66 c66 hw66 hl66 hm66 hz66 => i1 7 rfl <| xc fc40 (.cons rfl (.cons rfl (.cons rfl (.cons rfl .nil)))) rfl (coMemWrZ (s := S) (u := 4) (off := 4) (ys := le4 (es.length : Int)) PC IS.w.fit.mem rfl rfl (by omega) (fun w H => sep_reads (xs := (le4 (es.length : Int)).map encU) HS H) (by simp [le4])) fun _ => ?_
 refine i0 <| Q_then <| J_seq <| J_pick (A := coA g.p _) PC ?_
 refine J_asTo (B := coA g.p (laidS g es)) (by unfold laidS; rw [← hend, ← hK, ← hS]) <| J_region <| mv rfl rfl <| ag rfl rfl <| nq <| J_ret ?_
 exact J_return (g) Tryz.results37 (.tmp rfl .nil) rfl SU
 refine x_make (len := 4) rfl rfl Tryz.underlying73 ty5 rfl rfl (by simp) (by simp) rfl rfl <| JE ((List.replicate 4 (0 : Int)).map encU) (by rfl) fun a62 c62 hw62 hl62 hm62 hz62 => i1 1 rfl <| xc fc39 (.cons rfl .nil) rfl (coMem (s := S) PC) fun _ => ?_
 refine i1 6 rfl <| xc fc41 (.cons rfl (.cons rfl (.cons rfl .nil))) rfl (rput32C (a := 0) (bs := List.replicate 4 0) (n := (es.length : Int)) (fun w H => sep_reads (xs := (List.replicate 4 (0 : Int)).map encU) HS H) (by decide) (by decide)) <| JE ((le4 (es.length : Int)).map encU) (by rfl) fun a66 c66 hw66 hl66 hm66 hz66 => i1 7 rfl <| xc fc40 (.cons rfl (.cons rfl (.cons rfl (.cons rfl .nil)))) rfl (coMemWrZ (s := S) (u := 4) (off := 4) (ys := le4 (es.length : Int)) PC IS.w.fit.mem rfl rfl (by omega) (fun w H => sep_reads (xs := (le4 (es.length : Int)).map encU) HS H) (by simp [le4])) fun _ => ?_
 refine i0 <| Q_then <| J_seq <| J_pick (A := coA g.p _) PC ?_
 refine J_asTo (B := coA g.p (laidS g es)) (by unfold laidS; rw [← hend, ← hK, ← hS]) <| J_region <| mv rfl rfl <| ag rfl rfl <| nq <| J_ret ?_
 exact J_return (g) Tryz.results37 (.tmp rfl .nil) rfl SU
 refine L_op <| G_off rfl rfl rfl rfl rfl rfl <| L_op <| G_off rfl rfl rfl rfl rfl rfl <| L_op <| G_off rfl rfl rfl rfl rfl rfl <| L_op <| G_off rfl rfl rfl rfl rfl rfl ?_
 refine L_op <| G_off rfl rfl rfl rfl rfl rfl <| L_pur rfl (p_pick_f rfl rfl) <| nq <| C_false rfl <| J_exit <| Q_then_exit <| Q_then_exit ?_
 refine Q_blk_this <| Q_then <| J_seq ?_
 have hend : es.take i = es.take 8 := by
  have : i = es.length := by simp at h39; omega
  rw [this, List.take_length, List.take_of_length_le (by omega)]
 
 refine J_drawL (some 7) mixed <| ip 0 rfl rfl rfl rfl (p_move rfl) <| ip 3 rfl rfl rfl rfl (p_move rfl) <| ip 4 rfl rfl rfl rfl (p_len rfl Tryz.underlying54) <| ip 5 rfl rfl rfl rfl (p_conv rfl Tryz.underlying3 Tryz.underlying22) <| J_slot (t := 65) (v := .int .u32 (es.length : Int)) rfl (by rw [List.length_map, wrap32u_of (by omega)]) <| I_ready (rs := [1, 2]) SI (by kernel_rfl) (by simp) ?_
 refine (I_cons rfl ?_ (I_cons rfl ?_ I_nil))
 refine xc fc39 (.cons rfl .nil) rfl (coMem (s := S) PC) fun _ => ?_
 refine i1 2 rfl <| x_make (len := 4) rfl rfl Tryz.underlying73 ty5 rfl rfl (by simp) (by simp) rfl rfl <| JE ((List.replicate 4 (0 : Int)).map encU) (by rfl) fun a62 c62 hw62 hl62 hm62 hz62 => i1 6 rfl <| xc fc41 (.cons rfl (.cons rfl (.cons rfl .nil))) rfl (rput32C (a := 0) (bs := List.replicate 4 0) (n := (es.length : Int)) (fun w H => sep_reads (xs := (List.replicate 4 (0 : Int)).map encU) HS H) (by decide) (by decide)) <| JE ((le4 (es.length : Int)).map encU) (by rfl) fun a66 c66 hw66 hl66 hm66 hz66 => i1 7 rfl <| xc fc40 (.cons rfl (.cons rfl (.cons rfl (.cons rfl .nil)))) rfl (coMemWrZ (s := S) (u := 4) (off := 4) (ys := le4 (es.length : Int)) PC IS.w.fit.mem rfl rfl (by omega) (fun w H => sep_reads (xs := (le4 (es.length : Int)).map encU) HS H) (by simp [le4])) fun _ => ?_
 refine i0 <| Q_then <| J_seq <| J_pick (A := coA g.p _) PC ?_
 refine J_asTo (B := coA g.p (laidS g es)) (by unfold laidS; rw [← hend, ← hK, ← hS]) <| J_region <| mv rfl rfl <| ag rfl rfl <| nq <| J_ret ?_
 exact J_return (g) Tryz.results37 (.tmp rfl .nil) rfl SU
 refine x_make (len := 4) rfl rfl Tryz.underlying73 ty5 rfl rfl (by simp) (by simp) rfl rfl <| JE ((List.replicate 4 (0 : Int)).map encU) (by rfl) fun a62 c62 hw62 hl62 hm62 hz62 => i1 1 rfl <| xc fc39 (.cons rfl .nil) rfl (coMem (s := S) PC) fun _ => ?_
 refine i1 6 rfl <| xc fc41 (.cons rfl (.cons rfl (.cons rfl .nil))) rfl (rput32C (a := 0) (bs := List.replicate 4 0) (n := (es.length : Int)) (fun w H => sep_reads (xs := (List.replicate 4 (0 : Int)).map encU) HS H) (by decide) (by decide)) <| JE ((le4 (es.length : Int)).map encU) (by rfl) fun a66 c66 hw66 hl66 hm66 hz66 => i1 7 rfl <| xc fc40 (.cons rfl (.cons rfl (.cons rfl (.cons rfl .nil)))) rfl (coMemWrZ (s := S) (u := 4) (off := 4) (ys := le4 (es.length : Int)) PC IS.w.fit.mem rfl rfl (by omega) (fun w H => sep_reads (xs := (le4 (es.length : Int)).map encU) HS H) (by simp [le4])) fun _ => ?_
 refine i0 <| Q_then <| J_seq <| J_pick (A := coA g.p _) PC ?_
 refine J_asTo (B := coA g.p (laidS g es)) (by unfold laidS; rw [← hend, ← hK, ← hS]) <| J_region <| mv rfl rfl <| ag rfl rfl <| nq <| J_ret ?_
 exact J_return (g) Tryz.results37 (.tmp rfl .nil) rfl SU
def fF1 (g : NewG) : KS := memS (kNew 1 1 2 2 false g) 4 4 [1]
def fF2 (g : NewG) (β : Nat → Nat) : KS := (kEnter (fF1 g) 2 3 β).1
def pNo : Sqe → Bool := fun _ => false
def fOk (g : NewG) (β γ : Nat → Nat) : Bool := entOk pNo (fF1 g) 2 3 && (decide ((kEnter (fF1 g) 2 3 β).2 = 1) && (decide (tailO (fF2 g β) 4 = some 1) && (entOk pNo (fF2 g β) 9 1 && decide ((kEnter (fF2 g β) 9 1 γ).2 = -11))))
theorem f_ok (g : NewG) (β γ : Nat → Nat) : fOk g β γ = true := by kernel_rfl
theorem tailO_is {s : KS} {g n : Int} (h : tailO s g = some n) : ∃ b r, look s.rg g = some (b, r) ∧ r.tail = n := by
  unfold tailO at h
  cases hq : look s.rg g with
  | none => rw [hq] at h; cases h
  | some x => rw [hq] at h; exact ⟨x.1, x.2, rfl, Option.some.inj h⟩
theorem noD : ∀ (s : KS) (N M : Nat) (q : Rq) (T : Th) (i : ID), Good s N M → SqeOk q.e → pNo q.e = true → DoesC s T q i := fun _ _ _ _ _ _ _ _ h => by cases h
theorem first26 {E : World} {l : List As} :
    Con Tryz.prog 36 #[] E l (fun _ : Unit => .bool true) (fun _ => l) := by
  refine Con.body (vs := []) (n := 39) Tryz.func36 rfl rfl [] (env_ok 0 rfl) <| sr <| ag rfl rfl <| nx <| L_pur rfl (bld86 (.cons rfl (.cons rfl (.cons rfl (.cons rfl .nil)))) (by repeat constructor)) <| J_slot (t := 2) (v := .agg (encG 1 1 2 2 false).toArray) rfl rfl <| L_op <| xc fc45 (.cons rfl .nil) rfl (coNew (ct := 1) (cu := 1) (cs := 2) (cc := 2) (sh := false)) fun g => ?_
  have IK := wellE122 pNo g
  have hrg : look (ptrs (KS.rg (kNew 1 1 2 2 false g))) 4 = some (g.bs 0).1 := rfl
  have hrt : (KS.rt (kNew 1 1 2 2 false g)) = [] := rfl
  have F := f_ok g
  unfold fOk at F
  simp only [Bool.and_eq_true, decide_eq_true_eq] at F
  unfold fF2 fF1 at F
  obtain ⟨K, hK⟩ : ∃ K, K = (kNew 1 1 2 2 false g) := ⟨_, rfl⟩
  rw [← hK] at IK hrg hrt F
  refine J_pick (A := coA g.p _) PC ?_
  refine J_asTo (B := coA g.p K) (by rw [hK]) <| ag rfl rfl <| nxx <| mv rfl rfl <| L_pur rfl (p_eqNilPtr Tryz.underlying24 rfl) <| mv rfl rfl <| J_bool (t := 6) (c := false) rfl (rfl) <| L_op <| G_on rfl rfl rfl ?_
  refine J_pur (p_move rfl) rfl rfl rfl <| L_op <| G_on rfl rfl rfl <| xc fc39 (.cons rfl .nil) rfl (coMem (s := K) PC) fun _ => ?_
  refine L_op <| G_on rfl rfl rfl <| J_pur (p_eqNilPtr Tryz.underlying75 rfl) rfl rfl rfl <| L_pur rfl (p_pick_f rfl rfl) <| mv rfl rfl <| J_bool (t := 11) (c := false) rfl (rfl) <| L_op <| G_on rfl rfl rfl ?_
  refine J_pur (p_move rfl) rfl rfl rfl <| L_op <| G_on rfl rfl rfl <| xc fc43 (.cons rfl (.cons rfl .nil)) rfl (coRing (s := K) (u := 4) PC) fun _ => ?_
  refine J_slot (t := 13) (v := .pointer (some ⟨(g.bs 0).1, 0, none⟩)) rfl (by rw [hrg]; rfl) <| L_op <| G_on rfl rfl rfl <| J_pur (p_eqNilPtr Tryz.underlying80 rfl) rfl rfl rfl <| L_pur rfl (p_pick_f rfl rfl) <| mv rfl rfl <| J_bool (t := 16) (c := false) rfl (rfl) <| L_op <| G_on rfl rfl rfl ?_
  refine J_pur (p_move rfl) rfl rfl rfl <| L_op <| G_on rfl rfl rfl <| xc fc57 (.cons rfl (.cons rfl (.cons rfl .nil))) rfl (coRunP (s := K) (p := pNo) (g := 9) (bud := 5) PC IK (by omega) (by omega) (by omega) noD) fun x18 => ?_
  refine J_slot (t := 18) (v := .int .i64 0) rfl (by rw [run_nil hrt]; rfl) <| J_pick (A := coA g.p _) PC ?_
  refine J_asTo (B := coA g.p K) (by rw [run_nil hrt]) <| L_op <| G_on rfl rfl rfl <| J_pur (p_neq rfl rfl) rfl rfl rfl <| L_pur rfl (p_pick_f rfl rfl) <| nq <| J_bool (t := 20) (c := false) rfl (rfl) <| C_false rfl ?_
  refine J_skip <| qx <| mv rfl rfl <| L_op <| xc fc39 (.cons rfl .nil) rfl (coMem (s := K) PC) fun _ => ?_
  refine L_op <| x_lit (vals := [_]) Tryz.underlying73 ty5 rfl (.cons rfl .nil) (.one rfl .nil) (Wf.cons rfl rfl Wf.nil) rfl (by decide) rfl rfl <| JE (([1] : List Int).map encU) (by rfl) fun a23 c23 hw23 hl23 hm23 hz23 => L_op <| xc fc40 (.cons rfl (.cons rfl (.cons rfl (.cons rfl .nil)))) rfl (coMemWrZ (s := K) (u := 4) (off := 4) (ys := [1]) PC IK.w.fit.mem rfl rfl (by omega) (fun w H => sep_reads (xs := ([1] : List Int).map encU) HS H) (by decide)) fun _ => ?_
  obtain ⟨S1, hS1⟩ : ∃ S, S = memS K 4 4 [1] := ⟨_, rfl⟩
  refine J_pick (A := coA g.p _) PC ?_
  refine J_asTo (B := coA g.p S1) (by rw [hS1]) ?_
  have I1 : EInv pNo S1 40 60 := by rw [hS1]; exact IK.memS (by omega) (by decide) (fun x hx => by rw [List.mem_singleton.1 hx]; omega)
  rw [← hS1] at F
  refine nx <| mv rfl rfl <| L_op <| xc fc42 (.cons rfl (.cons rfl (.cons rfl .nil))) rfl (coEnterP (s := S1) (p := pNo) (t := 2) (n := 3) (N := 40) (M := 60) PC I1 (F (fun _ => 0) (fun _ => 0)).1 (by omega) (by omega) noD) fun b1 => ?_
  refine J_slot (t := 26) (v := .int .i64 1) rfl (by rw [(F b1 (fun _ => 0)).2.1]) ?_
  obtain ⟨S2, hS2⟩ : ∃ S, S = (kEnter S1 2 3 b1).1 := ⟨_, rfl⟩
  refine J_pick (A := coA g.p _) PC ?_
  refine J_asTo (B := coA g.p S2) (by rw [hS2]) ?_
  have I2 : EInv pNo S2 140 69 := by rw [hS2]; exact I1.enter (F (fun _ => 0) (fun _ => 0)).1 (by omega) (by omega) b1
  have F2 := fun b => (F b1 b).2.2
  rw [← hS2] at F2
  obtain ⟨bt, rt, ht1, ht2⟩ := tailO_is (F2 (fun _ => 0)).1
  refine L_pur rfl (p_eql rfl rfl) <| mv rfl rfl <| J_bool (t := 28) (c := true) rfl (rfl) <| L_op <| G_on rfl rfl rfl <| J_pur (p_move rfl) rfl rfl rfl <| L_op <| G_on rfl rfl rfl ?_
  refine xc fc43 (.cons rfl (.cons rfl .nil)) rfl (coRing (s := S2) (u := 4) PC) fun _ => ?_
  refine J_slot (t := 30) (v := .pointer (some ⟨bt, 0, none⟩)) rfl (by rw [look_is ht1]; rfl) <| L_op <| G_on rfl rfl rfl <| xc fc44 (.cons rfl .nil) rfl (coRgTail (s := S2) (u := 4) PC ht1) fun _ => ?_
  refine J_slot (t := 31) (v := .int .u32 1) rfl (by rw [ht2]) <| L_op <| G_on rfl rfl rfl <| J_pur (p_eql rfl rfl) rfl rfl rfl <| L_pur rfl (p_pick_t rfl rfl) <| mv rfl rfl <| J_bool (t := 34) (c := true) rfl (rfl) <| L_op <| G_on rfl rfl rfl ?_
  refine J_pur (p_move rfl) rfl rfl rfl <| L_op <| G_on rfl rfl rfl <| xc fc42 (.cons rfl (.cons rfl (.cons rfl .nil))) rfl (coEnterP (s := S2) (p := pNo) (t := 9) (n := 1) (N := 140) (M := 69) PC I2 (F2 (fun _ => 0)).2.1 (by omega) (by omega) noD) fun b2 => ?_
  refine J_slot (t := 36) (v := .int .i64 (-11)) rfl (by rw [(F2 b2).2.2]) ?_
  obtain ⟨S3, hS3⟩ : ∃ S, S = (kEnter S2 9 1 b2).1 := ⟨_, rfl⟩
  refine J_pick (A := coA g.p _) PC ?_
  refine J_asTo (B := coA g.p S3) (by rw [hS3]) ?_
  have I3 : EInv pNo S3 240 78 := by rw [hS3]; exact I2.enter (F2 (fun _ => 0)).2.1 (by omega) (by omega) b2
  
  refine L_op <| G_on rfl rfl rfl <| J_pur (p_eql rfl rfl) rfl rfl rfl <| L_pur rfl (p_pick_t rfl rfl) <| ag rfl rfl <| nq <| J_ret ?_
  refine J_return (()) Tryz.results36 (.tmp rfl .nil) ?_ ?_
  · rfl
  · exact SU
end Go.Pse
namespace Go.Pse
open Go.RowKit Go.Proofs Go.Proofs.YtclgdnpndlognaaGreat
theorem pf_laidOut : laidOutB Tryz.prog = true := by kernel_rfl
theorem pf_rowed : mapsRowed Tryz.prog = true := by kernel_rfl
theorem pf_stops : (Tryz.prog.stops == []) = true := by kernel_rfl
theorem pf_knobs : (Tryz.prog.stopKnobs == []) = true := by kernel_rfl
theorem pf_heard : Tryz.prog.stopsHeard = true := by kernel_rfl
theorem pf_own : ownKnob Tryz.prog.godebug = none := by kernel_rfl
theorem pf_plain : (false == Tryz.prog.plainKeys) = true := by kernel_rfl
def ioNs : List Nat := [104, 97, 114, 110, 101, 115, 115, 32, 57, 51, 56, 99, 97, 101, 49, 102, 56, 48, 53, 49, 49, 97, 97, 100, 102, 100, 98, 100, 49, 101, 48, 102, 52, 102, 52, 102, 98, 51, 52, 97, 98, 52, 98, 98, 53, 49, 101, 56, 57, 98, 99, 53, 52, 99, 57, 53, 97, 56, 53, 102, 57, 98, 100, 101, 57, 51, 52, 49, 102, 57, 57, 57, 32, 99, 117, 116, 32, 97, 116, 32, 114, 105, 110, 103, 107, 101, 114, 110, 47, 114, 105, 110, 103, 107, 101, 114, 110, 108, 97, 119, 50, 53, 46, 65, 99, 116, 77, 101, 101, 116, 115, 32, 114, 105, 110, 103, 107, 101, 114, 110, 47, 114, 105, 110, 103, 107, 101, 114, 110, 108, 97, 119, 50, 53, 46, 65, 99, 116, 83, 105, 103, 110, 97, 108, 115, 32, 114, 105, 110, 103, 107, 101, 114, 110, 47, 114, 105, 110, 103, 107, 101, 114, 110, 108, 97, 119, 50, 53, 46, 65, 99, 116, 69, 114, 114, 111, 114, 115, 32, 114, 105, 110, 103, 107, 101, 114, 110, 47, 114, 105, 110, 103, 107, 101, 114, 110, 108, 97, 119, 50, 54, 46, 69, 110, 116, 101, 114, 77, 105, 120, 101, 100, 32, 114, 105, 110, 103, 107, 101, 114, 110, 47, 114, 105, 110, 103, 107, 101, 114, 110, 108, 97, 119, 50, 54, 46, 69, 110, 116, 101, 114, 66, 117, 115, 121, 32, 114, 105, 110, 103, 107, 101, 114, 110, 47, 114, 105, 110, 103, 107, 101, 114, 110, 108, 97, 119, 50, 54, 46, 69, 110, 116, 101, 114, 67, 104, 97, 105, 110, 115, 32, 114, 105, 110, 103, 107, 101, 114, 110, 47, 114, 105, 110, 103, 107, 101, 114, 110, 108, 97, 119, 50, 54, 46, 69, 110, 116, 101, 114, 66, 117, 100, 103, 101, 116, 32, 114, 105, 110, 103, 107, 101, 114, 110, 47, 114, 105, 110, 103, 107, 101, 114, 110, 108, 97, 119, 50, 54, 46, 69, 110, 116, 101, 114, 82, 101, 102, 117, 115, 101, 115, 32, 114, 105, 110, 103, 107, 101, 114, 110, 47, 114, 105, 110, 103, 107, 101, 114, 110, 108, 97, 119, 50, 54, 46, 69, 110, 116, 101, 114, 76, 101, 97, 118, 101, 115, 32, 114, 105, 110, 103, 107, 101, 114, 110, 47, 114, 105, 110, 103, 107, 101, 114, 110, 108, 97, 119, 50, 54, 46, 69, 110, 116, 101, 114, 68, 114, 97, 105, 110, 32, 114, 105, 110, 103, 107, 101, 114, 110, 47, 114, 105, 110, 103, 107, 101, 114, 110, 108, 97, 119, 50, 54, 46, 69, 110, 116, 101, 114, 84, 105, 109, 101, 115]
def ioCs : List Char := ioNs.map Char.ofNat
theorem io : Tryz.prog.initOrder = String.ofList ioCs := by kernel_rfl
theorem words : wordsSigns Tryz.prog.initOrder.toList = wordsSigns ioCs := by rw [io, String.toList_ofList]
theorem make_of {P : Program} {c : List Char} {r : List (List Char)} (h : behindMainWord (wordsSigns P.initOrder.toList) = c :: r) (h1 : (c == "gc".toList) = false) (h2 : (c == "spec".toList) = false) (h3 : (c == "cut".toList) = true) : (P.make == some .cut) = true := by
  unfold Program.make
  rw [h]
  simp only [h1, h2, h3, Bool.or_self, Bool.true_or, Bool.false_eq_true, if_false, if_true]
  rfl
theorem enter_of {P : Program} {c : List Char} {r : List (List Char)} (h : behindMainWord (wordsSigns P.initOrder.toList) = c :: r) (hs : stripLifts liftWords (c :: r) = ([], c :: r)) (hh : (some c == some "cut".toList) = true) (h1 : P.laysLater = false) (h2 : P.bearsReflect = false) (h3 : P.doorFits [] = true) : P.mayEnter = true := by
  unfold Program.mayEnter
  rw [h]
  simp only [hs, h1, h2, h3, List.head?_cons, hh]
  simp
def ioW0 : List Char := [Char.ofNat 99, Char.ofNat 117, Char.ofNat 116]
def ioWr : List (List Char) := [[Char.ofNat 97, Char.ofNat 116], [Char.ofNat 114, Char.ofNat 105, Char.ofNat 110, Char.ofNat 103, Char.ofNat 107, Char.ofNat 101, Char.ofNat 114, Char.ofNat 110, Char.ofNat 47, Char.ofNat 114, Char.ofNat 105, Char.ofNat 110, Char.ofNat 103, Char.ofNat 107, Char.ofNat 101, Char.ofNat 114, Char.ofNat 110, Char.ofNat 108, Char.ofNat 97, Char.ofNat 119, Char.ofNat 50, Char.ofNat 53, Char.ofNat 46, Char.ofNat 65, Char.ofNat 99, Char.ofNat 116, Char.ofNat 77, Char.ofNat 101, Char.ofNat 101, Char.ofNat 116, Char.ofNat 115], [Char.ofNat 114, Char.ofNat 105, Char.ofNat 110, Char.ofNat 103, Char.ofNat 107, Char.ofNat 101, Char.ofNat 114, Char.ofNat 110, Char.ofNat 47, Char.ofNat 114, Char.ofNat 105, Char.ofNat 110, Char.ofNat 103, Char.ofNat 107, Char.ofNat 101, Char.ofNat 114, Char.ofNat 110, Char.ofNat 108, Char.ofNat 97, Char.ofNat 119, Char.ofNat 50, Char.ofNat 53, Char.ofNat 46, Char.ofNat 65, Char.ofNat 99, Char.ofNat 116, Char.ofNat 83, Char.ofNat 105, Char.ofNat 103, Char.ofNat 110, Char.ofNat 97, Char.ofNat 108, Char.ofNat 115], [Char.ofNat 114, Char.ofNat 105, Char.ofNat 110, Char.ofNat 103, Char.ofNat 107, Char.ofNat 101, Char.ofNat 114, Char.ofNat 110, Char.ofNat 47, Char.ofNat 114, Char.ofNat 105, Char.ofNat 110, Char.ofNat 103, Char.ofNat 107, Char.ofNat 101, Char.ofNat 114, Char.ofNat 110, Char.ofNat 108, Char.ofNat 97, Char.ofNat 119, Char.ofNat 50, Char.ofNat 53, Char.ofNat 46, Char.ofNat 65, Char.ofNat 99, Char.ofNat 116, Char.ofNat 69, Char.ofNat 114, Char.ofNat 114, Char.ofNat 111, Char.ofNat 114, Char.ofNat 115], [Char.ofNat 114, Char.ofNat 105, Char.ofNat 110, Char.ofNat 103, Char.ofNat 107, Char.ofNat 101, Char.ofNat 114, Char.ofNat 110, Char.ofNat 47, Char.ofNat 114, Char.ofNat 105, Char.ofNat 110, Char.ofNat 103, Char.ofNat 107, Char.ofNat 101, Char.ofNat 114, Char.ofNat 110, Char.ofNat 108, Char.ofNat 97, Char.ofNat 119, Char.ofNat 50, Char.ofNat 54, Char.ofNat 46, Char.ofNat 69, Char.ofNat 110, Char.ofNat 116, Char.ofNat 101, Char.ofNat 114, Char.ofNat 77, Char.ofNat 105, Char.ofNat 120, Char.ofNat 101, Char.ofNat 100], [Char.ofNat 114, Char.ofNat 105, Char.ofNat 110, Char.ofNat 103, Char.ofNat 107, Char.ofNat 101, Char.ofNat 114, Char.ofNat 110, Char.ofNat 47, Char.ofNat 114, Char.ofNat 105, Char.ofNat 110, Char.ofNat 103, Char.ofNat 107, Char.ofNat 101, Char.ofNat 114, Char.ofNat 110, Char.ofNat 108, Char.ofNat 97, Char.ofNat 119, Char.ofNat 50, Char.ofNat 54, Char.ofNat 46, Char.ofNat 69, Char.ofNat 110, Char.ofNat 116, Char.ofNat 101, Char.ofNat 114, Char.ofNat 66, Char.ofNat 117, Char.ofNat 115, Char.ofNat 121], [Char.ofNat 114, Char.ofNat 105, Char.ofNat 110, Char.ofNat 103, Char.ofNat 107, Char.ofNat 101, Char.ofNat 114, Char.ofNat 110, Char.ofNat 47, Char.ofNat 114, Char.ofNat 105, Char.ofNat 110, Char.ofNat 103, Char.ofNat 107, Char.ofNat 101, Char.ofNat 114, Char.ofNat 110, Char.ofNat 108, Char.ofNat 97, Char.ofNat 119, Char.ofNat 50, Char.ofNat 54, Char.ofNat 46, Char.ofNat 69, Char.ofNat 110, Char.ofNat 116, Char.ofNat 101, Char.ofNat 114, Char.ofNat 67, Char.ofNat 104, Char.ofNat 97, Char.ofNat 105, Char.ofNat 110, Char.ofNat 115], [Char.ofNat 114, Char.ofNat 105, Char.ofNat 110, Char.ofNat 103, Char.ofNat 107, Char.ofNat 101, Char.ofNat 114, Char.ofNat 110, Char.ofNat 47, Char.ofNat 114, Char.ofNat 105, Char.ofNat 110, Char.ofNat 103, Char.ofNat 107, Char.ofNat 101, Char.ofNat 114, Char.ofNat 110, Char.ofNat 108, Char.ofNat 97, Char.ofNat 119, Char.ofNat 50, Char.ofNat 54, Char.ofNat 46, Char.ofNat 69, Char.ofNat 110, Char.ofNat 116, Char.ofNat 101, Char.ofNat 114, Char.ofNat 66, Char.ofNat 117, Char.ofNat 100, Char.ofNat 103, Char.ofNat 101, Char.ofNat 116], [Char.ofNat 114, Char.ofNat 105, Char.ofNat 110, Char.ofNat 103, Char.ofNat 107, Char.ofNat 101, Char.ofNat 114, Char.ofNat 110, Char.ofNat 47, Char.ofNat 114, Char.ofNat 105, Char.ofNat 110, Char.ofNat 103, Char.ofNat 107, Char.ofNat 101, Char.ofNat 114, Char.ofNat 110, Char.ofNat 108, Char.ofNat 97, Char.ofNat 119, Char.ofNat 50, Char.ofNat 54, Char.ofNat 46, Char.ofNat 69, Char.ofNat 110, Char.ofNat 116, Char.ofNat 101, Char.ofNat 114, Char.ofNat 82, Char.ofNat 101, Char.ofNat 102, Char.ofNat 117, Char.ofNat 115, Char.ofNat 101, Char.ofNat 115], [Char.ofNat 114, Char.ofNat 105, Char.ofNat 110, Char.ofNat 103, Char.ofNat 107, Char.ofNat 101, Char.ofNat 114, Char.ofNat 110, Char.ofNat 47, Char.ofNat 114, Char.ofNat 105, Char.ofNat 110, Char.ofNat 103, Char.ofNat 107, Char.ofNat 101, Char.ofNat 114, Char.ofNat 110, Char.ofNat 108, Char.ofNat 97, Char.ofNat 119, Char.ofNat 50, Char.ofNat 54, Char.ofNat 46, Char.ofNat 69, Char.ofNat 110, Char.ofNat 116, Char.ofNat 101, Char.ofNat 114, Char.ofNat 76, Char.ofNat 101, Char.ofNat 97, Char.ofNat 118, Char.ofNat 101, Char.ofNat 115], [Char.ofNat 114, Char.ofNat 105, Char.ofNat 110, Char.ofNat 103, Char.ofNat 107, Char.ofNat 101, Char.ofNat 114, Char.ofNat 110, Char.ofNat 47, Char.ofNat 114, Char.ofNat 105, Char.ofNat 110, Char.ofNat 103, Char.ofNat 107, Char.ofNat 101, Char.ofNat 114, Char.ofNat 110, Char.ofNat 108, Char.ofNat 97, Char.ofNat 119, Char.ofNat 50, Char.ofNat 54, Char.ofNat 46, Char.ofNat 69, Char.ofNat 110, Char.ofNat 116, Char.ofNat 101, Char.ofNat 114, Char.ofNat 68, Char.ofNat 114, Char.ofNat 97, Char.ofNat 105, Char.ofNat 110], [Char.ofNat 114, Char.ofNat 105, Char.ofNat 110, Char.ofNat 103, Char.ofNat 107, Char.ofNat 101, Char.ofNat 114, Char.ofNat 110, Char.ofNat 47, Char.ofNat 114, Char.ofNat 105, Char.ofNat 110, Char.ofNat 103, Char.ofNat 107, Char.ofNat 101, Char.ofNat 114, Char.ofNat 110, Char.ofNat 108, Char.ofNat 97, Char.ofNat 119, Char.ofNat 50, Char.ofNat 54, Char.ofNat 46, Char.ofNat 69, Char.ofNat 110, Char.ofNat 116, Char.ofNat 101, Char.ofNat 114, Char.ofNat 84, Char.ofNat 105, Char.ofNat 109, Char.ofNat 101, Char.ofNat 115]]
theorem words2 : behindMainWord (wordsSigns Tryz.prog.initOrder.toList) = ioW0 :: ioWr := by
  rw [words]
  kernel_rfl
theorem w_gc : (ioW0 == "gc".toList) = false := by kernel_rfl
theorem w_spec : (ioW0 == "spec".toList) = false := by kernel_rfl
theorem w_cut : (ioW0 == "cut".toList) = true := by kernel_rfl
theorem w_strip : stripLifts liftWords (ioW0 :: ioWr) = ([], ioW0 :: ioWr) := by kernel_rfl
theorem w_head : (some ioW0 == some "cut".toList) = true := by kernel_rfl
theorem w_later : Tryz.prog.laysLater = false := by kernel_rfl
theorem w_refl : Tryz.prog.bearsReflect = false := by kernel_rfl
theorem w_door : Tryz.prog.doorFits [] = true := by kernel_rfl
theorem pf_enter : Tryz.prog.mayEnter = true := enter_of words2 w_strip w_head w_later w_refl w_door
theorem pf_lifts : (false == Tryz.prog.liftsFinal) = true := by
  unfold Program.liftsFinal Program.headLifts
  rw [words2]
  kernel_rfl
theorem pf_make : (Tryz.prog.make == some .cut) = true := make_of words2 w_gc w_spec w_cut
end Go.Pse
