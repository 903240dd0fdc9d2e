/-
  Own layer, part 3: operations that touch no memory; blocks that are known whole (variables, boxes, structs) and the operations on them.
-/
import Derived.Test.YthjgdlhkdjgjpaaGreatJ
import Derived.Still
namespace Go.Pse
open Go.RowKit

/-- What the program's table says of a type: cells, bytes, whether it is a struct or an array, its zero's cells. -/
structure Ty (P : Program) (t : TypeId) (sz by_ : Nat) (agg : Bool) (zs : List Value) : Prop where
  info : (P.info? t).map (fun i => (i.size, i.bytes, (i.zero.map fun z => z.cells.toList))) = some (sz, by_, some zs)
  agg : (P.underlying t).map (fun d => match d with | .struct _ | .array _ _ => true | _ => false) = some agg
theorem Ty.get {P : Program} {t : TypeId} {sz by_ : Nat} {agg : Bool} {zs : List Value} (h : Ty P t sz by_ agg zs) : ∃ i z, P.info? t = some i ∧ i.size = sz ∧ i.bytes = by_ ∧ i.zero = some z ∧ z.cells.toList = zs := by
  have := h.info
  cases hi : P.info? t with
  | none => simp [hi] at this
  | some i =>
    simp only [hi, Option.map_some, Option.some.injEq, Prod.mk.injEq] at this
    obtain ⟨h1, h2, h3⟩ := this
    cases hz : i.zero with
    | none => simp [hz] at h3
    | some z => simp [hz] at h3; exact ⟨i, z, rfl, h1, h2, hz, by simpa using h3⟩
theorem Ty.sizeOf {P : Program} {t : TypeId} {sz by_ : Nat} {agg : Bool} {zs : List Value} (h : Ty P t sz by_ agg zs) (w : World) : (sizeOf t).run P w = .ok sz w := by
  obtain ⟨i, z, h1, h2, _⟩ := h.get
  simp [Go.sizeOf, typeInfo, h1, h2]
theorem Ty.isAgg {P : Program} {t : TypeId} {sz by_ : Nat} {agg : Bool} {zs : List Value} (h : Ty P t sz by_ agg zs) (w : World) : (isAgg t).run P w = .ok agg w := by
  have := h.agg
  cases hd : P.underlying t with
  | none => simp [hd] at this
  | some d =>
    simp only [hd, Option.map_some, Option.some.injEq] at this
    subst this
    unfold Go.isAgg
    simp only [Sem.run_bind, run_underlying hd, Result.andThen_ok]
    cases d <;> rfl
theorem Ty.zero {P : Program} {t : TypeId} {sz by_ : Nat} {agg : Bool} {zs : List Value} (h : Ty P t sz by_ agg zs) (w : World) : ∃ z : Value, (zeroValue t).run P w = .ok z w ∧ z.cells.toList = zs := by
  obtain ⟨i, z, h1, _, _, h4, h5⟩ := h.get
  exact ⟨z, by simp [zeroValue, typeInfo, h1, h4], h5⟩

section
variable {P : Program} {ops : Array Oper} {Q : Exit → Act → World → Prop} {E : World} {l l' : List As} {n : Nat} {F : Env} {K : Act → World → Prop}
variable {d : Nat} {T : TypeId} {p : String} {e : Array Edge} {g : Option (Nat × Bool)} {dst : Option Tmp} {t : TypeId} {x y z : Operand} {u v : Value}

theorem J_pur {o : Oper} (h : Pur P o F n v) (hd : o.dst = some d) (hdn : Nat.blt d n = true) (hg : o.guard = none) (k : Jk E l n ((d, v) :: F) K) : Jop P ops Q o E l n F K := fun w a H hF => by
  have hw : Region.wanted o (yielded ops a.tmps) = true := by simp [Region.wanted, hg]
  rw [if_pos hw]
  unfold Oper.wp
  rw [h a hF w]
  show K (a.put o.dst v) w
  rw [hd]
  exact k w _ H (hF.put hdn)
/-- An operation that yields a value and leaves the world, in whatever world of these assertions. -/
def Vl (P : Program) (o : Oper) (E : World) (l : List As) (F : Env) (n : Nat) (v : Value) : Prop := ∀ w a, Sep E w l → Fr n F a → (execOp a.eval o).run P w = .ok (.value v) w
theorem Pur.vl {o : Oper} (h : Pur P o F n v) : Vl P o E l F n v := fun w a _ hF => h a hF w
theorem J_val {o : Oper} (h : Vl P o E l F n v) (hd : o.dst = some d) (hdn : Nat.blt d n = true) (hg : o.guard = none) (k : Jk E l n ((d, v) :: F) K) : Jop P ops Q o E l n F K := fun w a H hF => by
  have hw : Region.wanted o (yielded ops a.tmps) = true := by simp [Region.wanted, hg]
  rw [if_pos hw]
  unfold Oper.wp
  rw [h w a H hF]
  show K (a.put o.dst v) w
  rw [hd]
  exact k w _ H (hF.put hdn)
theorem L_val {op : Op} {rest : List Oper} (hdn : Nat.blt d n = true) (h : Vl P ⟨some d, op, T, p, e, none⟩ E l F n v) (k : Jk E l n ((d, v) :: F) (wpList P ops Q rest)) : Jk E l n F (wpList P ops Q (⟨some d, op, T, p, e, none⟩ :: rest)) :=
  L_op (J_val h rfl hdn rfl k)
/-! regions whose operations leave the world, in the text's order -/
def stl (P : Program) (ops : Array Oper) (K : Act → World → Prop) (rest : List Oper) : Act → World → Prop := fun a w => wpStill P ops w (fun a' => K a' w) rest a
theorem J_drawS {id : Nat} {os : List Oper} (hm : P.follows .mixedOrders = true) (hB : Region.lexB .any os.toArray = true) (k : Jk E l n F (stl P os.toArray (Q .normal) os)) : Jk E l n F ((Code.region id os.toArray true).wp P Q) :=
  fun w a H hF => wp_region_still_lit hm hB (k _ a H.drew hF)
theorem S_nil (k : Jk E l n F K) : Jk E l n F (stl P ops K []) := k
theorem S_val {op : Op} {rest : List Oper} (hdn : Nat.blt d n = true) (h : Vl P ⟨some d, op, T, p, e, none⟩ E l F n v) (k : Jk E l n ((d, v) :: F) (stl P ops K rest)) : Jk E l n F (stl P ops K (⟨some d, op, T, p, e, none⟩ :: rest)) := fun w a H hF => by
  have hw : Region.wanted (⟨some d, op, T, p, e, none⟩ : Oper) (yielded ops a.tmps) = true := rfl
  show wpStill P ops w (fun a' => K a' w) (_ :: rest) a
  unfold wpStill
  rw [if_pos hw]
  unfold Oper.still
  rw [h w a H hF, Oper.stillUpon_value]
  exact k w _ H (hF.put hdn)
theorem S_on {op : Op} {rest : List Oper} {j t : Nat} {b : Bool} {og : Oper} (hdn : Nat.blt d n = true) (hj : ops[j]? = some og) (ht : og.dst = some t) (hb : get F t = some (.bool b)) (h : Vl P ⟨some d, op, T, p, e, some (j, b)⟩ E l F n v)
    (k : Jk E l n ((d, v) :: F) (stl P ops K rest)) : Jk E l n F (stl P ops K (⟨some d, op, T, p, e, some (j, b)⟩ :: rest)) := fun w a H hF => by
  have h0 : yielded ops a.tmps j = some b := by simp [yielded, hj, ht, hF.get t _ hb]
  have hw : Region.wanted (⟨some d, op, T, p, e, some (j, b)⟩ : Oper) (yielded ops a.tmps) = true := by simp [Region.wanted, h0]
  show wpStill P ops w (fun a' => K a' w) (_ :: rest) a
  unfold wpStill
  rw [if_pos hw]
  unfold Oper.still
  rw [h w a H hF, Oper.stillUpon_value]
  exact k w _ H (hF.put hdn)
theorem S_off {op : Op} {rest : List Oper} {j t : Nat} {b c : Bool} {og : Oper} (hdn : Nat.blt d n = true) (hj : ops[j]? = some og) (ht : og.dst = some t) (hb : get F t = some (.bool b)) (hc : (b == c) = false)
    (k : Jk E l n ((d, undef) :: F) (stl P ops K rest)) : Jk E l n F (stl P ops K (⟨some d, op, T, p, e, some (j, c)⟩ :: rest)) := fun w a H hF => by
  have h0 : yielded ops a.tmps j = some b := by simp [yielded, hj, ht, hF.get t _ hb]
  have h1 : Region.wanted (⟨some d, op, T, p, e, some (j, c)⟩ : Oper) (yielded ops a.tmps) = false := by simp only [Region.wanted, h0]; cases b <;> cases c <;> first | rfl | (simp at hc)
  show wpStill P ops w (fun a' => K a' w) (_ :: rest) a
  unfold wpStill
  rw [h1]
  exact k w _ H (hF.put hdn)
/-- A value's operation, with no guard. -/
theorem L_pur {op : Op} {rest : List Oper} (hdn : Nat.blt d n = true) (h : Pur P ⟨some d, op, T, p, e, none⟩ F n v) (k : Jk E l n ((d, v) :: F) (wpList P ops Q rest)) : Jk E l n F (wpList P ops Q (⟨some d, op, T, p, e, none⟩ :: rest)) :=
  L_op (J_pur h rfl hdn rfl k)

theorem p_move (hx : evl F x = some v) : Pur P ⟨dst, .move x, T, p, e, g⟩ F n v := fun a hF w => by simp [execOp, hF.evl hx]
theorem p_assign (hx : evl F x = some v) : Pur P ⟨dst, .assign x, T, p, e, g⟩ F n v := fun a hF w => by simp [execOp, hF.evl hx]
theorem p_pick_t (hc : evl F z = some (.bool true)) (hx : evl F x = some v) : Pur P ⟨dst, .pick z x y, T, p, e, g⟩ F n v := fun a hF w => by simp [execOp, hF.evl hc, hF.evl hx, asBool]
theorem p_pick_f (hc : evl F z = some (.bool false)) (hy : evl F y = some v) : Pur P ⟨dst, .pick z x y, T, p, e, g⟩ F n v := fun a hF w => by simp [execOp, hF.evl hc, hF.evl hy, asBool]
theorem p_nilCheck {ad : Addr} (hx : evl F x = some (.pointer (some ad))) : Pur P ⟨dst, .nilCheck x, T, p, e, g⟩ F n (.pointer (some ad)) := fun a hF w => by simp [execOp, hF.evl hx]
theorem p_fieldAddr {b o k i : Nat} (hx : evl F x = some (.pointer (some ⟨b, o, none⟩))) (hf : ∀ (a : Addr) (w : World), (Instr.fieldAt t (.pointer (some a)) i).run P w = .ok (.pointer (some (a.add k))) w) :
    Pur P ⟨dst, .fieldAddr t x i, T, p, e, g⟩ F n (.pointer (some ⟨b, o + k, none⟩)) := fun a hF w => by simp [execOp, hF.evl hx, hf, Addr.add_lit]
theorem p_indexAddr {b o len cap sz by_ : Nat} {i : Int} {el : TypeId} {agg : Bool} {zs : List Value} (hx : evl F x = some (.slice (some ⟨b, o, none⟩) len cap)) (hy : evl F y = some (.int .i64 i)) (ht : P.underlying t = some (.slice el)) (hT : Ty P el sz by_ agg zs)
    (h0 : 0 ≤ i) (h1 : i < len) : Pur P ⟨dst, .indexAddr t x y, T, p, e, g⟩ F n (.pointer (some ⟨b, o + i.toNat * sz, none⟩)) := fun a hF w => by
  simp [execOp, hF.evl hx, hF.evl hy, Instr.indexAt, asIntOf, run_underlying ht, h0, h1, hT.sizeOf, Addr.add_lit]
theorem p_len {a0 : Option Addr} {len cap : Nat} {el : TypeId} (hx : evl F x = some (.slice a0 len cap)) (ht : P.underlying t = some (.slice el)) :
    Pur P ⟨dst, .call { callee := .builtin .len, args := #[x], argTypes := #[t] }, T, p, e, g⟩ F n (.int .i64 len) := fun a hF w => by
  simp [execOp, resolve, invoke, builtin, hF.evl hx, Builtin.len_, run_underlying ht, goInt]
theorem p_field {i : Nat} {u : Value} (hx : evl F x = some v) (hf : ∀ w : World, (Instr.field t v i).run P w = .ok u w) : Pur P ⟨dst, .field t x i, T, p, e, g⟩ F n u := fun a hF w => by
  simp [execOp, hF.evl hx, hf]
theorem p_extract {vs : List Value} {i : Nat} (hx : evl F x = some (.tuple vs.toArray)) (hi : vs[i]? = some v) : Pur P ⟨dst, .extract x i, T, p, e, g⟩ F n v := fun a hF w => by
  simp [execOp, hF.evl hx, Instr.extract, hi]
theorem p_not {b : Bool} (hx : evl F x = some (.bool b)) : Pur P ⟨dst, .unOp .not t x, T, p, e, g⟩ F n (.bool !b) := fun a hF w => by simp [execOp, hF.evl hx, Op.unary]

/-! integers -/
variable {k : IntKind} {a b : Int} {ty : TypeId}
theorem p_add (hx : evl F x = some (.int k a)) (hy : evl F y = some (.int k b)) : Pur P ⟨dst, .binOp .add t x y ty, T, p, e, g⟩ F n (.int k (k.wrap (a + b))) := fun A hF w => by
  simp [execOp, hF.evl hx, hF.evl hy, eqGuard_add, binOp_add, Op.intArith]
theorem p_sub (hx : evl F x = some (.int k a)) (hy : evl F y = some (.int k b)) : Pur P ⟨dst, .binOp .sub t x y ty, T, p, e, g⟩ F n (.int k (k.wrap (a - b))) := fun A hF w => by
  simp [execOp, hF.evl hx, hF.evl hy, eqGuard_sub, binOp_sub, Op.intArith]
theorem p_mul (hx : evl F x = some (.int k a)) (hy : evl F y = some (.int k b)) : Pur P ⟨dst, .binOp .mul t x y ty, T, p, e, g⟩ F n (.int k (k.wrap (a * b))) := fun A hF w => by
  simp [execOp, hF.evl hx, hF.evl hy, eqGuard_mul, binOp_mul, Op.intArith]
theorem p_and (hx : evl F x = some (.int k a)) (hy : evl F y = some (.int k b)) : Pur P ⟨dst, .binOp .and t x y ty, T, p, e, g⟩ F n (.int k (bits .and k a b)) := fun A hF w => by
  simp [execOp, hF.evl hx, hF.evl hy, eqGuard_and, binOp_and, intBits_and]
theorem p_or (hx : evl F x = some (.int k a)) (hy : evl F y = some (.int k b)) : Pur P ⟨dst, .binOp .or t x y ty, T, p, e, g⟩ F n (.int k (bits .or k a b)) := fun A hF w => by
  simp [execOp, hF.evl hx, hF.evl hy, eqGuard_or, binOp_or, intBits_or]
theorem wrap64_of {a : Int} (h : -9223372036854775808 ≤ a ∧ a ≤ 9223372036854775807) : IntKind.i64.wrap a = a := by
  rw [IntKind.wrap_i64]; omega
theorem wrap32u_of {a : Int} (h : 0 ≤ a ∧ a ≤ 4294967295) : IntKind.u32.wrap a = a := by
  rw [IntKind.wrap_u32]; omega
theorem wrap64u_of {a : Int} (h : 0 ≤ a ∧ a ≤ 18446744073709551615) : IntKind.u64.wrap a = a := by
  rw [IntKind.wrap_u64]; omega
/-- i64 without wrap -/
theorem p_add64 (hx : evl F x = some (.int .i64 a)) (hy : evl F y = some (.int .i64 b)) (h : -9223372036854775808 ≤ a + b ∧ a + b ≤ 9223372036854775807) : Pur P ⟨dst, .binOp .add t x y ty, T, p, e, g⟩ F n (.int .i64 (a + b)) := by
  have := p_add (P := P) (dst := dst) (T := T) (p := p) (e := e) (g := g) (t := t) (ty := ty) (n := n) hx hy
  rwa [wrap64_of h] at this
theorem p_sub64 (hx : evl F x = some (.int .i64 a)) (hy : evl F y = some (.int .i64 b)) (h : -9223372036854775808 ≤ a - b ∧ a - b ≤ 9223372036854775807) : Pur P ⟨dst, .binOp .sub t x y ty, T, p, e, g⟩ F n (.int .i64 (a - b)) := by
  have := p_sub (P := P) (dst := dst) (T := T) (p := p) (e := e) (g := g) (t := t) (ty := ty) (n := n) hx hy
  rwa [wrap64_of h] at this
theorem p_mul64 (hx : evl F x = some (.int .i64 a)) (hy : evl F y = some (.int .i64 b)) (h : -9223372036854775808 ≤ a * b ∧ a * b ≤ 9223372036854775807) : Pur P ⟨dst, .binOp .mul t x y ty, T, p, e, g⟩ F n (.int .i64 (a * b)) := by
  have := p_mul (P := P) (dst := dst) (T := T) (p := p) (e := e) (g := g) (t := t) (ty := ty) (n := n) hx hy
  rwa [wrap64_of h] at this
theorem p_eql (hx : evl F x = some (.int k a)) (hy : evl F y = some (.int k b)) : Pur P ⟨dst, .binOp .eql t x y ty, T, p, e, g⟩ F n (.bool (decide (a = b))) := fun A hF w => by
  simp [execOp, hF.evl hx, hF.evl hy, eqGuard_at_int, binOp_eql]; rfl
theorem p_neq (hx : evl F x = some (.int k a)) (hy : evl F y = some (.int k b)) : Pur P ⟨dst, .binOp .neq t x y ty, T, p, e, g⟩ F n (.bool (decide (a ≠ b))) := fun A hF w => by
  have h1 : (a != b) = decide (a ≠ b) := by by_cases h : a = b <;> simp [h]
  simp [execOp, hF.evl hx, hF.evl hy, eqGuard_at_int, binOp_neq, h1]
theorem p_lss (hx : evl F x = some (.int k a)) (hy : evl F y = some (.int k b)) : Pur P ⟨dst, .binOp .lss t x y ty, T, p, e, g⟩ F n (.bool (decide (a < b))) := fun A hF w => by
  simp [execOp, hF.evl hx, hF.evl hy, eqGuard_lss, binOp_lss]
theorem p_leq (hx : evl F x = some (.int k a)) (hy : evl F y = some (.int k b)) : Pur P ⟨dst, .binOp .leq t x y ty, T, p, e, g⟩ F n (.bool (decide (a ≤ b))) := fun A hF w => by
  simp [execOp, hF.evl hx, hF.evl hy, eqGuard_leq, binOp_leq]
theorem p_gtr (hx : evl F x = some (.int k a)) (hy : evl F y = some (.int k b)) : Pur P ⟨dst, .binOp .gtr t x y ty, T, p, e, g⟩ F n (.bool (decide (b < a))) := fun A hF w => by
  simp [execOp, hF.evl hx, hF.evl hy, eqGuard_gtr, binOp_gtr]
theorem p_geq (hx : evl F x = some (.int k a)) (hy : evl F y = some (.int k b)) : Pur P ⟨dst, .binOp .geq t x y ty, T, p, e, g⟩ F n (.bool (decide (b ≤ a))) := fun A hF w => by
  simp [execOp, hF.evl hx, hF.evl hy, eqGuard_geq, binOp_geq]
theorem p_conv {src dst' : TypeId} {k' : IntKind} {ds : TypeDesc} (hx : evl F x = some (.int k a)) (hs : P.underlying src = some ds) (hd : P.underlying dst' = some (.int k')) :
    Pur P ⟨dst, .convert src dst' x, T, p, e, g⟩ F n (.int k' (k'.wrap a)) := fun A hF w => by
  simp [execOp, hF.evl hx, convert, run_underlying hs, run_underlying hd, Conv.intToInt]
theorem p_min (hx : evl F x = some (.int k a)) (hy : evl F y = some (.int k b)) {ats : Array TypeId} :
    Pur P ⟨dst, .call { callee := .builtin .min, args := #[x, y], argTypes := ats }, T, p, e, g⟩ F n (.int k (if b < a then b else a)) := fun A hF w => by
  simp [execOp, resolve, invoke, builtin, hF.evl hx, hF.evl hy, Builtin.min_, Builtin.min2]
theorem p_max (hx : evl F x = some (.int k a)) (hy : evl F y = some (.int k b)) {ats : Array TypeId} :
    Pur P ⟨dst, .call { callee := .builtin .max, args := #[x, y], argTypes := ats }, T, p, e, g⟩ F n (.int k (if b > a then b else a)) := fun A hF w => by
  simp [execOp, resolve, invoke, builtin, hF.evl hx, hF.evl hy, Builtin.max_, Builtin.max2]
/-- '==' of Bools, of whatever else: by its run. -/
theorem p_eqv {r : Bool} (hx : evl F x = some u) (hy : evl F y = some v) (hg : ∀ w, (eqGuard .eql t x y u v).run P w = .ok () w) (hr : ∀ w, (binOp .eql t u v).run P w = .ok (.bool r) w) : Pur P ⟨dst, .binOp .eql t x y ty, T, p, e, g⟩ F n (.bool r) := fun A hF w => by
  simp [execOp, hF.evl hx, hF.evl hy, hg, hr]
theorem p_nev {r : Bool} (hx : evl F x = some u) (hy : evl F y = some v) (hg : ∀ w, (eqGuard .neq t x y u v).run P w = .ok () w) (hr : ∀ w, (binOp .neq t u v).run P w = .ok (.bool r) w) : Pur P ⟨dst, .binOp .neq t x y ty, T, p, e, g⟩ F n (.bool r) := fun A hF w => by
  simp [execOp, hF.evl hx, hF.evl hy, hg, hr]

/-! parts put into cells -/
inductive Put : Nat → List Value → List Value → List Value → Prop where
  | at {cs : List Value} : Put 0 [] cs cs
  | put {c v : Value} {vs cs cs' : List Value} (h : Put 0 vs cs cs') : Put 0 (v :: vs) (c :: cs) (v :: cs')
  | skip {o : Nat} {c : Value} {vs cs cs' : List Value} (h : Put o vs cs cs') : Put (o + 1) vs (c :: cs) (c :: cs')
theorem Put.eq {o : Nat} {vs cs cs' : List Value} (h : Put o vs cs cs') : o + vs.length ≤ cs.length ∧ cs' = cs.take o ++ vs ++ cs.drop (o + vs.length) := by
  induction h with
  | «at» => simp
  | put _ ih => obtain ⟨h1, h2⟩ := ih; refine ⟨by simp at h1 ⊢; omega, by rw [h2]; simp⟩
  | skip _ ih => obtain ⟨h1, h2⟩ := ih; refine ⟨by simp; omega, by rw [h2]; simp [Nat.add_right_comm]⟩
theorem Put.length {o : Nat} {vs cs cs' : List Value} (h : Put o vs cs cs') : cs'.length = cs.length := by
  obtain ⟨h1, rfl⟩ := h.eq; simp; omega
/-- k cells from o on. -/
inductive Cut : Nat → Nat → List Value → List Value → Prop where
  | nil {cs : List Value} : Cut 0 0 cs []
  | cons {k : Nat} {c : Value} {cs vs : List Value} (h : Cut 0 k cs vs) : Cut 0 (k + 1) (c :: cs) (c :: vs)
  | skip {o k : Nat} {c : Value} {cs vs : List Value} (h : Cut o k cs vs) : Cut (o + 1) k (c :: cs) vs
theorem Cut.eq {o k : Nat} {cs vs : List Value} (h : Cut o k cs vs) : vs.length = k ∧ ∀ j, j < k → cs[o + j]? = vs[j]? := by
  induction h with
  | nil => exact ⟨rfl, fun j hj => absurd hj (by omega)⟩
  | cons _ ih =>
    refine ⟨by simp [ih.1], fun j hj => ?_⟩
    cases j with
    | zero => rfl
    | succ j => have := ih.2 j (by omega); simp at this ⊢; exact this
  | skip _ ih => exact ⟨ih.1, fun j hj => by have := ih.2 j hj; rw [← this, show ∀ o : Nat, o + 1 + j = (o + j) + 1 by omega]; rfl⟩

theorem Put.full : ∀ {vs cs : List Value}, vs.length = cs.length → Put 0 vs cs vs
  | [], [], _ => .at
  | _ :: _, _ :: _, h => .put (Put.full (by simpa using h))
theorem Cut.full : ∀ {cs : List Value} {k : Nat}, cs.length = k → Cut 0 k cs cs
  | [], 0, _ => .nil
  | _ :: _, k + 1, h => .cons (Cut.full (by simpa using h))
/-! ### A block known whole -/
def blk (b : Nat) (t : TypeId) (cs : List Value) : As where
  h w S := w.heap[b]? = some (.cells cs.toArray t (0, 0)) ∧ ∀ k, S k ↔ k.1 = b
  loc := fun ⟨h1, h2⟩ hs => ⟨(heap_of_lk fun i => hs (b, i) ((h2 (b, i)).2 rfl)).trans h1, h2⟩
  lt := fun ⟨h1, h2⟩ hb => by rw [(h2 _).1 hb]; exact (Array.getElem?_eq_some_iff.1 h1).1

theorem blk_cell {w : World} {b o : Nat} {t : TypeId} {cs : List Value} {S : Loc → Prop} (h : (blk b t cs).h w S) : w.cell? ⟨b, o, none⟩ = cs[o]? := by
  simp [World.cell?, h.1]
theorem blk_frozen {w : World} {b o : Nat} {t : TypeId} {cs : List Value} {S : Loc → Prop} (h : (blk b t cs).h w S) : w.frozen? ⟨b, o, none⟩ = false := by
  simp [World.frozen?, h.1]

/-- A load of one cell. -/
theorem v_load {b o sz by_ : Nat} {bt : TypeId} {cs zs : List Value} (hx : evl F x = some (.pointer (some ⟨b, o, none⟩))) (hT : Ty P t sz by_ false zs) (hh : Has (blk b bt cs) l) (hc : cs[o]? = some v) : Vl P ⟨dst, .load t x, T, p, e, g⟩ E l F n (v) := fun w a H hF => by
  obtain ⟨S, hS⟩ := H.has hh
  simp [execOp, hF.evl hx, Instr.loadAt, Instr.sureAddr, loadVar, hT.isAgg, blk_cell hS, hc]
/-- A load of a struct. -/
theorem v_loadA {b o sz by_ : Nat} {bt : TypeId} {cs vs zs : List Value} (hx : evl F x = some (.pointer (some ⟨b, o, none⟩))) (hT : Ty P t sz by_ true zs) (hh : Has (blk b bt cs) l) (hc : Cut o sz cs vs) : Vl P ⟨dst, .load t x, T, p, e, g⟩ E l F n (.agg vs.toArray) := fun w a H hF => by
  obtain ⟨S, hS⟩ := H.has hh
  have hl : (loadCells ⟨b, o, none⟩ sz).run P w = .ok vs.toArray w := by
    rw [← hc.eq.1]
    refine run_loadCells_list w _ vs fun j u hu => ?_
    rw [Addr.add_lit, blk_cell hS, hc.eq.2 j (by have := (List.getElem?_eq_some_iff.1 hu).1; rw [hc.eq.1] at this; exact this)]
    exact hu
  simp [execOp, hF.evl hx, Instr.loadAt, Instr.sureAddr, loadVar, hT.isAgg, hT.sizeOf, hl]
def ones (vs : List Value) : Bool := vs.all (·.oneCell')
theorem setRow_out {w : World} {g : Nat} {k : Loc} {cs : Array Value} (h : k.1 ≠ g) : lk (w.setRow g cs) k = lk w k := lk_of_heap <| by
  simp only [World.setRow, Array.getElem?_modify]
  rw [if_neg (fun e => h e.symm)]
theorem setRow_same {w : World} {g : Nat} {cs : Array Value} : Same w (w.setRow g cs) := ⟨rfl, rfl, ⟨rfl, Nat.le_refl _⟩, by simp [World.setRow]⟩
theorem blk_set {w : World} {b : Nat} {t : TypeId} {cs cs' : List Value} : Upd w (w.setRow b cs'.toArray) (blk b t cs) (blk b t cs') := fun S hS =>
  ⟨⟨S, ⟨setRow_heap w b _ _ t (0, 0) hS.1, hS.2⟩, fun b hb => .inl hb⟩, fun k _ hk => setRow_out fun h => hk ((hS.2 k).2 h)⟩
/-- A store. -/
theorem x_store {b o sz by_ : Nat} {bt : TypeId} {cs cs' zs : List Value} {agg : Bool} {vs : List Value} (hx : evl F x = some (.pointer (some ⟨b, o, none⟩))) (hy : evl F y = some v) (hT : Ty P t sz by_ agg zs) (hv : v.cells = vs.toArray) (hs : vs.length = sz) (h1 : ones vs = true)
    (hr : Rep1 (blk b bt cs) (blk b bt cs') l l') (hp : Put o vs cs cs') (k : Jk E l' n F K) : Jop P ops Q ⟨none, .store t x y, T, p, e, none⟩ E l n F K := fun w a H hF => by
  have hh : Has (blk b bt cs) l := by
    clear H k
    induction hr with
    | here => exact .here
    | there _ ih => exact .there ih
  obtain ⟨S, hS⟩ := H.has hh
  obtain ⟨hle, hcs⟩ := hp.eq
  have hw : Region.wanted (⟨none, .store t x y, T, p, e, none⟩ : Oper) (yielded ops a.tmps) = true := rfl
  rw [if_pos hw]
  unfold Oper.wp
  have hst := run_storeCells_at P b o bt vs 0 cs.toArray w hS.1 (by simpa using hle) (fun u hu => List.all_eq_true.1 h1 u hu)
  have : (execOp a.eval ⟨none, .store t x y, T, p, e, none⟩).run P w = .ok .skip (w.setRow b cs'.toArray) := by
    simp [execOp, hF.evl hx, hF.evl hy, Instr.storeAt, Instr.sureAddr, storeVar, hT.sizeOf, hv, hs, hst, hcs]
  rw [this]
  exact k _ _ (H.rep hr setRow_same blk_set) hF
theorem alloc_old {w : World} {o : Obj} {b : Nat} (h : b < w.heap.size) : (w.alloc o).heap[b]? = w.heap[b]? := Below.heap_alloc w o b h
theorem alloc_same {w : World} {o : Obj} : Same w (w.alloc o) := ⟨rfl, rfl, ⟨rfl, Nat.le_refl _⟩, by simp⟩
theorem Sep.alloc {w : World} {cs : List Value} {t : TypeId} (H : Sep E w l) : Sep E (w.alloc (.cells cs.toArray t)) (blk w.heap.size t cs :: l) :=
  H.add alloc_same (fun _ hb => alloc_old hb) (S1 := fun k => k.1 = w.heap.size) ⟨heap_alloc_new w _, fun _ => Iff.rfl⟩ (fun b hb => by omega)
/-- A new variable. -/
theorem x_alloc {sz by_ : Nat} {agg : Bool} {zs : List Value} (hT : Ty P t sz by_ agg zs) (hd : Nat.blt d n = true) (k : ∀ b, Jk E (blk b t zs :: l) n ((d, .pointer (some ⟨b, 0, none⟩)) :: F) K) :
    Jop P ops Q ⟨some d, .alloc t, T, p, e, none⟩ E l n F K := fun w a H hF => by
  have hw : Region.wanted (⟨some d, .alloc t, T, p, e, none⟩ : Oper) (yielded ops a.tmps) = true := rfl
  rw [if_pos hw]
  unfold Oper.wp
  obtain ⟨z, hz, hzs⟩ := hT.zero w
  have : (execOp a.eval ⟨some d, .alloc t, T, p, e, none⟩).run P w = .ok (.value (.pointer (some ⟨w.heap.size, 0, none⟩))) (w.alloc (.cells zs.toArray t)) := by
    subst hzs
    simp [execOp, Instr.alloc, hz, newVar, newRow]
  rw [this]
  exact k _ _ _ H.alloc (hF.put hd)
theorem x_box {vs : List Value} (hx : evl F x = some v) (hv : v.cells = vs.toArray) (hd : Nat.blt d n = true) (k : ∀ b, Jk E (blk b t vs :: l) n ((d, .pointer (some ⟨b, 0, none⟩)) :: F) K) :
    Jop P ops Q ⟨some d, .box t x, T, p, e, none⟩ E l n F K := fun w a H hF => by
  have hw : Region.wanted (⟨some d, .box t x, T, p, e, none⟩ : Oper) (yielded ops a.tmps) = true := rfl
  rw [if_pos hw]
  unfold Oper.wp
  have : (execOp a.eval ⟨some d, .box t x, T, p, e, none⟩).run P w = .ok (.value (.pointer (some ⟨w.heap.size, 0, none⟩))) (w.alloc (.cells vs.toArray t)) := by
    simp [execOp, hF.evl hx, Instr.box, newVar, newRow, hv]
  rw [this]
  exact k _ _ _ H.alloc (hF.put hd)

/-! ### build -/
inductive Fil (fl : List (Nat × Nat)) : List (Nat × Value) → List Value → List Value → Prop where
  | nil {cs : List Value} : Fil fl [] cs cs
  | cons {i o sz : Nat} {v : Value} {vs cs cs' cs'' : List Value} {ps : List (Nat × Value)} (hi : fl[i]? = some (o, sz)) (hv : v.cells = vs.toArray) (hs : vs.length = sz) (hp : Put o vs cs cs') (h : Fil fl ps cs' cs'') : Fil fl ((i, v) :: ps) cs cs''
theorem foldl_put : ∀ (vs : List Value) (o : Nat) (cs : List Value) (i : Nat), o + i + vs.length ≤ cs.length →
    (vs.zipIdx i).foldl (fun (cs : Array Value) (c : Value × Nat) => cs.setIfInBounds (o + c.2) c.1) cs.toArray = (cs.take (o + i) ++ vs ++ cs.drop (o + i + vs.length)).toArray
  | [], o, cs, i, h => by simp
  | v :: vs, o, cs, i, h => by
    simp only [List.zipIdx_cons, List.foldl_cons]
    have h' : o + i + (vs.length + 1) ≤ cs.length := by simpa using h
    have e : (cs.toArray.setIfInBounds (o + i) v) = (cs.set (o + i) v).toArray := by simp
    rw [e, foldl_put vs o (cs.set (o + i) v) (i + 1) (by simp; omega)]
    congr 1
    rw [List.set_eq_take_append_cons_drop, if_pos (by omega)]
    apply List.ext_getElem?
    intro j
    simp only [List.length_cons, List.append_assoc, List.getElem?_append, List.length_take, List.length_append, List.length_drop, List.getElem?_take, List.getElem?_drop, List.getElem?_cons]
    repeat' split
    all_goals first | rfl | omega | (congr 1; omega) | skip
    all_goals (try simp_all) ; try omega
theorem Fil.fill {fl : List (Nat × Nat)} {ps : List (Nat × Value)} {cs cs' : List Value} (h : Fil fl ps cs cs') : Instr.fill (fl.toArray[·]?) cs.toArray ps = some cs'.toArray := by
  induction h with
  | nil => rfl
  | @cons i o sz v vs cs cs' cs'' ps hi hv hs hp _ ih =>
    obtain ⟨hle, hcs⟩ := hp.eq
    have h1 : fl.toArray[i]? = some (o, sz) := by simpa using hi
    have h2 : ¬ (v.cells.size ≠ sz || decide (o + v.cells.size > cs.toArray.size)) = true := by simp [hv, hs]; omega
    simp only [Instr.fill, h1]
    rw [if_neg h2]
    have h3 : v.cells.zipIdx.foldl (fun (cs : Array Value) (x : Value × Nat) => cs.setIfInBounds (o + x.2) x.1) cs.toArray = cs'.toArray := by
      rw [hv, ← Array.foldl_toList, hcs]
      have := foldl_put vs o cs 0 (by simpa using hle)
      simpa using this
    rw [← ih]
    congr 1
end
theorem PT {o : Nat} {vs cs cs' : List Value} (h : Put o vs cs cs' := by first | exact Put.full rfl | ((repeat constructor); done) | exact Put.full (by first | rfl | simp [*])) : Put o vs cs cs' := h
theorem CT {o k : Nat} {cs vs : List Value} (h : Cut o k cs vs := by first | exact Cut.full rfl | ((repeat constructor); done) | exact Cut.full (by first | rfl | simp [*])) : Cut o k cs vs := h

/-! short names for what is printed most -/
section
variable {P : Program} {ops : Array Oper} {Q Q2 : Exit → Act → World → Prop} {E : World} {l l' : List As} {n : Nat} {F : Env} {K : Act → World → Prop}
variable {d : Nat} {T : TypeId} {p : String} {e : Array Edge} {g : Option (Nat × Bool)} {dst : Option Tmp} {t : TypeId} {x y z : Operand} {u v : Value} {rest : List Oper} {os : List Oper} {id : Nat} {c c2 : Code}
theorem mv (hdn : Nat.blt d n = true) (hx : evl F x = some v) (k : Jk E l n ((d, v) :: F) (wpList P ops Q rest)) : Jk E l n F (wpList P ops Q (⟨some d, .move x, T, p, e, none⟩ :: rest)) := L_pur hdn (p_move hx) k
theorem ag (hdn : Nat.blt d n = true) (hx : evl F x = some v) (k : Jk E l n ((d, v) :: F) (wpList P ops Q rest)) : Jk E l n F (wpList P ops Q (⟨some d, .assign x, T, p, e, none⟩ :: rest)) := L_pur hdn (p_assign hx) k
theorem nc {ad : Addr} (hdn : Nat.blt d n = true) (hx : evl F x = some (.pointer (some ad))) (k : Jk E l n ((d, .pointer (some ad)) :: F) (wpList P ops Q rest)) : Jk E l n F (wpList P ops Q (⟨some d, .nilCheck x, T, p, e, none⟩ :: rest)) := L_pur hdn (p_nilCheck hx) k
theorem fa {b o k i : Nat} (hdn : Nat.blt d n = true) (hx : evl F x = some (.pointer (some ⟨b, o, none⟩))) (hf : ∀ (a : Addr) (w : World), (Instr.fieldAt t (.pointer (some a)) i).run P w = .ok (.pointer (some (a.add k))) w)
    (kk : Jk E l n ((d, .pointer (some ⟨b, o + k, none⟩)) :: F) (wpList P ops Q rest)) : Jk E l n F (wpList P ops Q (⟨some d, .fieldAddr t x i, T, p, e, none⟩ :: rest)) := L_pur hdn (p_fieldAddr hx hf) kk
theorem nq {N : Act → World → Prop} (k : Jk E l n F N) : Jk E l n F (wpList P ops (Exit.then N Q2) []) := L_nil (Q_then k)
theorem ny (k : Jk E l n F (wpList P os.toArray Q os)) : Jk E l n F (wpList P ops (Exit.then ((Code.region id os.toArray false).wp P Q) Q2) []) := L_nil (Q_then (J_region k))
theorem nx (k : Jk E l n F (wpList P os.toArray (Exit.then (c.wp P Q) Q) os)) : Jk E l n F (wpList P ops (Exit.then ((Code.seq (Code.region id os.toArray false) c).wp P Q) Q2) []) := L_nil (Q_then (J_seq (J_region k)))
theorem nxx (k : Jk E l n F (wpList P os.toArray (Exit.then (c2.wp P (Exit.then (c.wp P Q) Q)) (Exit.then (c.wp P Q) Q)) os)) : Jk E l n F (wpList P ops (Exit.then ((Code.seq (Code.seq (Code.region id os.toArray false) c2) c).wp P Q) Q2) []) := L_nil (Q_then (J_seq (J_seq (J_region k))))
theorem qr (k : Jk E l n F (wpList P os.toArray Q os)) : Jk E l n F (Exit.then ((Code.region id os.toArray false).wp P Q) Q2 .normal) := Q_then (J_region k)
theorem qx (k : Jk E l n F (wpList P os.toArray (Exit.then (c.wp P Q) Q) os)) : Jk E l n F (Exit.then ((Code.seq (Code.region id os.toArray false) c).wp P Q) Q2 .normal) := Q_then (J_seq (J_region k))
theorem sr (k : Jk E l n F (wpList P os.toArray (Exit.then (c.wp P Q) Q) os)) : Jk E l n F ((Code.seq (Code.region id os.toArray false) c).wp P Q) := J_seq (J_region k)
theorem sp {op : Op} (hdn : Nat.blt d n = true) (h : Pur P ⟨some d, op, T, p, e, none⟩ F n v) (k : Jk E l n ((d, v) :: F) (stl P ops K rest)) : Jk E l n F (stl P ops K (⟨some d, op, T, p, e, none⟩ :: rest)) := S_val hdn (Pur.vl h) k
theorem sm (hdn : Nat.blt d n = true) (hx : evl F x = some v) (k : Jk E l n ((d, v) :: F) (stl P ops K rest)) : Jk E l n F (stl P ops K (⟨some d, .move x, T, p, e, none⟩ :: rest)) := S_val hdn (Pur.vl (p_move hx)) k
theorem sq {N : Act → World → Prop} (k : Jk E l n F N) : Jk E l n F (stl P ops (Exit.then N Q2 .normal) []) := S_nil (Q_then k)
end
theorem OM {p : Prop} (h : p := by first | omega | (simp <;> omega)) : p := h
theorem SM {α : Type} {a b : α} (h : a = b := by first | rfl | (simp [*]; done)) : a = b := h

end Go.Pse
