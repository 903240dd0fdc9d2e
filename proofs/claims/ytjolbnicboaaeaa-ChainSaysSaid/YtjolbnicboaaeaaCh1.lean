/-
  Numbers taken one by one, entries made of them.
-/
import Derived.Test.YtjolbnicboaaeaaTy
import Derived.Test.YtjolbnicboaaeaaMore
import Derived.Test.YtjolbnicboaaeaaNum
namespace Go.Pse
open Go.RowKit Go.Proofs

/-! ### plain data -/
abbrev Sqe := Int × Int × Int × Int × Int × Int × Int × Int
def encS (e : Sqe) : List Value := [.int .i64 e.1, .int .i64 e.2.1, .int .u32 e.2.2.1, .int .u32 e.2.2.2.1, .int .u32 e.2.2.2.2.1, .int .u32 e.2.2.2.2.2.1, .int .u32 e.2.2.2.2.2.2.1, .int .u32 e.2.2.2.2.2.2.2]
theorem encS_one (c : Sqe) : ones (encS c) = true := rfl
theorem encS_len (c : Sqe) : (encS c).length = 8 := rfl
/-- An entry in block b, whatever it is. -/
def eA (b : Nat) : As := As.ex fun e : Sqe => blk b 39 (encS e)
/-- Numbers, taken one by one: at most lo were taken. -/
def sF (b : Nat) (v : Value) (lo : Nat) (k : Nat) : As := As.all [As.pure (k ≤ lo), blk b 28 [v, .int .i64 (k : Int)]]
def sA (b : Nat) (v : Value) (lo : Nat) : As := As.ex (sF b v lo)
section
variable {E : World} {l : List As} {n : Nat} {F : Env} {K : Act → World → Prop} {b : Nat} {v : Value} {lo lo' : Nat}
theorem J_closeS {a0 a1 a2 a3 a4 a5 a6 a7 : Int} (k : Jk E (eA b :: l) n F K) : Jk E (blk b 39 [.int .i64 a0, .int .i64 a1, .int .u32 a2, .int .u32 a3, .int .u32 a4, .int .u32 a5, .int .u32 a6, .int .u32 a7] :: l) n F K :=
  J_ex_in (f := fun e : Sqe => blk b 39 (encS e)) (a0, a1, a2, a3, a4, a5, a6, a7) k
theorem J_sOpen (j : ∀ k, k ≤ lo → Jk E (blk b 28 [v, .int .i64 (k : Int)] :: l) n F K) : Jk E (sA b v lo :: l) n F K :=
  J_ex fun k => J_all2 (J_pure fun h => j k h)
theorem J_sShut {k : Nat} (h : k ≤ lo) (j : Jk E (sA b v lo :: l) n F K) : Jk E (blk b 28 [v, .int .i64 (k : Int)] :: l) n F K :=
  J_pure_in h (J_all_in (m := [As.pure (k ≤ lo), blk b 28 [v, .int .i64 (k : Int)]]) (J_ex_in (f := sF b v lo) k j))
theorem J_sUp (h : lo ≤ lo') (j : Jk E (sA b v lo' :: l) n F K) : Jk E (sA b v lo :: l) n F K :=
  J_sOpen fun k hk => J_sShut (Nat.le_trans hk h) j
end

set_option maxRecDepth 100000 in
set_option maxHeartbeats 4000000 in
theorem next {E : World} {l m : List As} {b lo : Nat} {v : Value} {zs : List Int} {below : Int} (hp : Pick (sA b v lo) l m) (hr : ∀ w, Sep E w m → Reads w 1 v (zs.map fun z => [Value.int .i64 z])) (hlo : lo ≤ 1000000) (hb : 0 < below) (hb2 : below ≤ 1000000) :
    Con Try.prog 81 #[.pointer (some ⟨b, 0, none⟩), .int .i64 below] E l (fun x : Nat => .int .i64 (x : Int)) (fun x => As.pure ((x : Int) < below) :: sA b v (lo + 1) :: m) := by
  refine Con.body (vs := [.pointer (some ⟨b, 0, none⟩), .int .i64 below]) (n := 37) Try.func81 rfl rfl [(0, .pointer (some ⟨b, 0, none⟩)), (1, .int .i64 below)] (env_ok 2 rfl) ?_
  refine J_pick hp ?_
  refine J_sOpen fun k hk => ?_
  refine J_readsB (fun w H => hr w (Sub.sep (by repeat (first | exact Sub.nil | exact Sub.refl | refine Sub.cons (by repeat (first | exact Pick.here | apply Pick.there)) ?_ | refine Sub.drop ?_)) H)) fun hw a cap hv h1 h2 h3 => ?_
  subst hv
  have hm : cap ≤ 9223372036854775807 := h2
  have hml : (zs.map fun z => [Value.int .i64 z]).length = zs.length := List.length_map _
  refine J_seq ?_
  refine J_region ?_
  refine L_pur rfl (p_assign rfl) ?_
  refine L_nil ?_
  refine Q_then ?_
  refine J_seq ?_
  refine J_region ?_
  refine L_pur rfl (p_assign rfl) ?_
  refine L_nil ?_
  refine Q_then ?_
  refine J_seq ?_
  refine J_seq ?_
  refine J_drawS mixed (by kernel_rfl) ?_
  refine S_val rfl (Pur.vl (p_move rfl)) ?_
  refine S_val rfl (Pur.vl (p_nilCheck rfl)) ?_
  refine S_val rfl (Pur.vl (p_fieldAddr rfl fa28_1)) ?_
  refine S_val rfl (v_load rfl ty3 (by repeat (first | with_reducible exact Has.here | with_reducible assumption | with_reducible apply Has.there)) (by exact rfl)) ?_
  refine S_val rfl (Pur.vl (p_move rfl)) ?_
  refine S_val rfl (Pur.vl (p_nilCheck rfl)) ?_
  refine S_val rfl (Pur.vl (p_fieldAddr rfl fa28_0)) ?_
  refine S_val rfl (v_load rfl ty23 (by repeat (first | with_reducible exact Has.here | with_reducible assumption | with_reducible apply Has.there)) (by exact rfl)) ?_
  refine S_val rfl (Pur.vl (p_len rfl Try.underlying23)) ?_
  refine S_val rfl (Pur.vl (p_lss rfl rfl)) ?_
  refine S_nil ?_
  refine Q_then ?_
  refine C_dec rfl (fun h15 => ?_) (fun h15 => ?_)
  ·
    have hlt : k < zs.length := by omega
    obtain ⟨bx, ox, rfl⟩ := h3 (by intro h; rw [h] at hml; simp at hml; omega)
    obtain ⟨z, hzz⟩ : ∃ z, zs[k]? = some z := ⟨_, List.getElem?_eq_getElem hlt⟩
    refine J_drawS mixed (by kernel_rfl) ?_
    refine S_val rfl (Pur.vl (p_move rfl)) ?_
    refine S_val rfl (Pur.vl (p_nilCheck rfl)) ?_
    refine S_val rfl (Pur.vl (p_fieldAddr rfl fa28_0)) ?_
    refine S_val rfl (v_load rfl ty23 (by repeat (first | with_reducible exact Has.here | with_reducible assumption | with_reducible apply Has.there)) (by exact rfl)) ?_
    refine S_val rfl (Pur.vl (p_move rfl)) ?_
    refine S_val rfl (Pur.vl (p_nilCheck rfl)) ?_
    refine S_val rfl (Pur.vl (p_fieldAddr rfl fa28_1)) ?_
    refine S_val rfl (v_load rfl ty3 (by repeat (first | with_reducible exact Has.here | with_reducible assumption | with_reducible apply Has.there)) (by exact rfl)) ?_
    refine S_val rfl (Pur.vl (p_indexAddr rfl rfl Try.underlying23 ty3 (by omega) (by omega))) ?_
    refine S_val rfl (v_loadR1 rfl ty3 (fun w H => hr w (Sub.sep (by repeat (first | exact Sub.nil | exact Sub.refl | refine Sub.cons (by repeat (first | exact Pick.here | apply Pick.there)) ?_ | refine Sub.drop ?_)) H)) (by simp only [Int.toNat_natCast, List.getElem?_map, hzz]; rfl)) ?_
    refine S_val rfl (Pur.vl (p_assign rfl)) ?_
    refine S_nil ?_
    refine Q_then ?_
    refine J_seq ?_
    refine J_region ?_
    refine L_pur rfl (p_move rfl) ?_
    refine L_pur rfl (p_move rfl) ?_
    refine L_pur rfl (p_nilCheck rfl) ?_
    refine L_pur rfl (p_fieldAddr rfl fa28_1) ?_
    refine L_val rfl (v_load rfl ty3 (by repeat (first | with_reducible exact Has.here | with_reducible assumption | with_reducible apply Has.there)) (by exact rfl)) ?_
    refine L_pur rfl (p_add64 rfl rfl (by omega)) ?_
    refine J_slot (t := 31) (v := .int .i64 ((k + 1 : Nat) : Int)) rfl (by simp) ?_
    refine L_pur rfl (p_nilCheck rfl) ?_
    refine L_pur rfl (p_fieldAddr rfl fa28_1) ?_
    refine L_op (x_store rfl rfl ty3 rfl (by first | rfl | (simp [*]; done)) (by first | rfl | (simp [*]; done)) (by repeat (first | with_reducible exact Rep1.here | with_reducible apply Rep1.there)) (by first | exact Put.full rfl | ((repeat constructor); done) | exact Put.full (by first | rfl | simp [*])) ?_)
    refine L_nil ?_
    refine Q_then ?_
    refine J_seq ?_
    refine J_region ?_
    refine L_pur rfl (p_move rfl) ?_
    refine L_pur rfl (p_move rfl) ?_
    refine L_op (x_call Try.func23 nm23 bd23 (.cons rfl (.cons rfl .nil)) rfl (number hb (by omega)) fun _ => ?_)
    refine L_pur rfl (p_assign rfl) ?_
    refine L_nil ?_
    refine Q_then ?_
    refine J_ret ?_
    refine J_pick (A := blk b 28 _) (by repeat (first | with_reducible exact Pick.here | with_reducible assumption | with_reducible apply Pick.there)) ?_
    refine J_sShut (lo := lo + 1) (by omega) ?_
    refine J_pure_in (num_lt (x := z) hb) ?_
    exact J_return (_) Try.results81 (.tmp rfl .nil) rfl (by repeat (first | exact Sub.nil | exact Sub.refl | refine Sub.cons (by repeat (first | exact Pick.here | apply Pick.there)) ?_ | refine Sub.drop ?_))
  ·
    refine J_skip ?_
    refine Q_then ?_
    refine J_seq ?_
    refine J_region ?_
    refine L_pur rfl (p_move rfl) ?_
    refine L_pur rfl (p_move rfl) ?_
    refine L_pur rfl (p_nilCheck rfl) ?_
    refine L_pur rfl (p_fieldAddr rfl fa28_1) ?_
    refine L_val rfl (v_load rfl ty3 (by repeat (first | with_reducible exact Has.here | with_reducible assumption | with_reducible apply Has.there)) (by exact rfl)) ?_
    refine L_pur rfl (p_add64 rfl rfl (by omega)) ?_
    refine J_slot (t := 31) (v := .int .i64 ((k + 1 : Nat) : Int)) rfl (by simp) ?_
    refine L_pur rfl (p_nilCheck rfl) ?_
    refine L_pur rfl (p_fieldAddr rfl fa28_1) ?_
    refine L_op (x_store rfl rfl ty3 rfl (by first | rfl | (simp [*]; done)) (by first | rfl | (simp [*]; done)) (by repeat (first | with_reducible exact Rep1.here | with_reducible apply Rep1.there)) (by first | exact Put.full rfl | ((repeat constructor); done) | exact Put.full (by first | rfl | simp [*])) ?_)
    refine L_nil ?_
    refine Q_then ?_
    refine J_seq ?_
    refine J_region ?_
    refine L_pur rfl (p_move rfl) ?_
    refine L_pur rfl (p_move rfl) ?_
    refine L_op (x_call Try.func23 nm23 bd23 (.cons rfl (.cons rfl .nil)) rfl (number hb (by omega)) fun _ => ?_)
    refine L_pur rfl (p_assign rfl) ?_
    refine L_nil ?_
    refine Q_then ?_
    refine J_ret ?_
    refine J_pick (A := blk b 28 _) (by repeat (first | with_reducible exact Pick.here | with_reducible assumption | with_reducible apply Pick.there)) ?_
    refine J_sShut (lo := lo + 1) (by omega) ?_
    refine J_pure_in (num_lt (x := 0) hb) ?_
    exact J_return (_) Try.results81 (.tmp rfl .nil) rfl (by repeat (first | exact Sub.nil | exact Sub.refl | refine Sub.cons (by repeat (first | exact Pick.here | apply Pick.there)) ?_ | refine Sub.drop ?_))

set_option maxRecDepth 100000 in
set_option maxHeartbeats 4000000 in
theorem join {E : World} {l : List As} (x d : Int) :
    Con Try.prog 111 #[.int .i64 x, .int .i64 d] E l (fun x : Int => .int .u32 x) (fun _ => l) := by
  refine Con.body (vs := [.int .i64 x, .int .i64 d]) (n := 12) Try.func111 rfl rfl [(0, .int .i64 x), (1, .int .i64 d)] (env_ok 2 rfl) ?_
  refine J_seq ?_
  refine J_region ?_
  refine L_pur rfl (p_assign rfl) ?_
  refine L_nil ?_
  refine Q_then ?_
  refine J_seq ?_
  refine J_region ?_
  refine L_pur rfl (p_move rfl) ?_
  refine L_pur rfl (p_conv rfl Try.underlying3 Try.underlying37) ?_
  refine L_pur rfl (p_shl rfl rfl (by decide) (by decide)) ?_
  refine L_pur rfl (p_move rfl) ?_
  refine L_pur rfl (p_conv rfl Try.underlying3 Try.underlying37) ?_
  refine L_pur rfl (p_and rfl rfl) ?_
  refine L_pur rfl (p_or rfl rfl) ?_
  refine L_pur rfl (p_assign rfl) ?_
  refine L_nil ?_
  refine Q_then ?_
  refine J_ret ?_
  exact J_return (_) Try.results111 (.tmp rfl .nil) rfl (by repeat (first | exact Sub.nil | exact Sub.refl | refine Sub.cons (by repeat (first | exact Pick.here | apply Pick.there)) ?_ | refine Sub.drop ?_))

set_option maxRecDepth 100000 in
set_option maxHeartbeats 4000000 in
theorem addr {E : World} {l m : List As} {b lo : Nat} {v : Value} {zs : List Int} (hp : Pick (sA b v lo) l m) (hr : ∀ w, Sep E w m → Reads w 1 v (zs.map fun z => [Value.int .i64 z])) (hlo : lo ≤ 500000) :
    Con Try.prog 110 #[.pointer (some ⟨b, 0, none⟩)] E l (fun x : Int => .int .u32 x) (fun _ => sA b v (lo + 3) :: m) := by
  refine Con.body (vs := [.pointer (some ⟨b, 0, none⟩)]) (n := 25) Try.func110 rfl rfl [(0, .pointer (some ⟨b, 0, none⟩))] (env_ok 1 rfl) ?_
  refine J_pick hp ?_
  refine J_seq ?_
  refine J_region ?_
  refine L_pur rfl (p_assign rfl) ?_
  refine L_nil ?_
  refine Q_then ?_
  refine J_seq ?_
  refine J_region ?_
  refine L_pur rfl (p_move rfl) ?_
  refine L_op (x_call Try.func81 nm81 bd81 (.cons rfl (.cons rfl .nil)) rfl (next (zs := zs) (by repeat (first | with_reducible exact Pick.here | with_reducible assumption | with_reducible apply Pick.there)) (fun w H => hr w (Sub.sep (by repeat (first | exact Sub.nil | exact Sub.refl | refine Sub.cons (by repeat (first | exact Pick.here | apply Pick.there)) ?_ | refine Sub.drop ?_)) H)) (by omega) (by omega) (by omega)) fun x5 => ?_)
  refine J_pure fun hx5 => ?_
  refine L_pur rfl (p_assign rfl) ?_
  refine L_nil ?_
  refine Q_then ?_
  refine J_seq ?_
  refine J_block ?_
  refine J_seq ?_
  refine J_region ?_
  refine L_pur rfl (p_move rfl) ?_
  refine L_pur rfl (p_lss rfl rfl) ?_
  refine L_pur rfl (p_assign rfl) ?_
  refine L_nil ?_
  refine Q_then ?_
  refine C_dec rfl (fun h6 => ?_) (fun h6 => ?_)
  ·
    refine J_seq ?_
    refine J_region ?_
    refine L_pur rfl (p_move rfl) ?_
    refine L_op (x_call Try.func111 nm111 bd111 (.cons rfl (.cons rfl .nil)) rfl (join _ _) fun x => ?_)
    refine L_pur rfl (p_assign rfl) ?_
    refine L_nil ?_
    refine Q_then ?_
    refine J_ret ?_
    refine Q_blk_ret ?_
    refine Q_then_ret ?_
    refine J_pick (A := sA b v _) (by repeat (first | with_reducible exact Pick.here | with_reducible assumption | with_reducible apply Pick.there)) ?_
    refine J_sUp (lo' := lo + 3) (by omega) ?_
    exact J_return (_) Try.results110 (.tmp rfl .nil) rfl (by repeat (first | exact Sub.nil | exact Sub.refl | refine Sub.cons (by repeat (first | exact Pick.here | apply Pick.there)) ?_ | refine Sub.drop ?_))
  ·
    refine J_seq ?_
    refine J_region ?_
    refine L_pur rfl (p_move rfl) ?_
    refine L_pur rfl (p_lss rfl rfl) ?_
    refine L_pur rfl (p_assign rfl) ?_
    refine L_nil ?_
    refine Q_then ?_
    refine C_dec rfl (fun h11 => ?_) (fun h11 => ?_)
    ·
      refine J_seq ?_
      refine J_region ?_
      refine L_pur rfl (p_move rfl) ?_
      refine L_op (x_call Try.func81 nm81 bd81 (.cons rfl (.cons rfl .nil)) rfl (next (zs := zs) (by repeat (first | with_reducible exact Pick.here | with_reducible assumption | with_reducible apply Pick.there)) (fun w H => hr w (Sub.sep (by repeat (first | exact Sub.nil | exact Sub.refl | refine Sub.cons (by repeat (first | exact Pick.here | apply Pick.there)) ?_ | refine Sub.drop ?_)) H)) (by omega) (by omega) (by omega)) fun x15 => ?_)
      refine J_pure fun hx15 => ?_
      refine L_pur rfl (p_add64 rfl rfl (by omega)) ?_
      refine L_pur rfl (p_mul64 rfl rfl (by omega)) ?_
      refine L_pur rfl (p_move rfl) ?_
      refine L_op (x_call Try.func81 nm81 bd81 (.cons rfl (.cons rfl .nil)) rfl (next (zs := zs) (by repeat (first | with_reducible exact Pick.here | with_reducible assumption | with_reducible apply Pick.there)) (fun w H => hr w (Sub.sep (by repeat (first | exact Sub.nil | exact Sub.refl | refine Sub.cons (by repeat (first | exact Pick.here | apply Pick.there)) ?_ | refine Sub.drop ?_)) H)) (by omega) (by omega) (by omega)) fun x19 => ?_)
      refine J_pure fun hx19 => ?_
      refine L_pur rfl (p_add64 rfl rfl (by omega)) ?_
      refine L_op (x_call Try.func111 nm111 bd111 (.cons rfl (.cons rfl .nil)) rfl (join _ _) fun x => ?_)
      refine L_pur rfl (p_assign rfl) ?_
      refine L_nil ?_
      refine Q_then ?_
      refine J_ret ?_
      refine Q_blk_ret ?_
      refine Q_then_ret ?_
      refine J_pick (A := sA b v _) (by repeat (first | with_reducible exact Pick.here | with_reducible assumption | with_reducible apply Pick.there)) ?_
      refine J_sUp (lo' := lo + 3) (by omega) ?_
      exact J_return (_) Try.results110 (.tmp rfl .nil) rfl (by repeat (first | exact Sub.nil | exact Sub.refl | refine Sub.cons (by repeat (first | exact Pick.here | apply Pick.there)) ?_ | refine Sub.drop ?_))
    ·
      refine J_skip ?_
      refine Q_blk_normal ?_
      refine Q_then ?_
      refine J_seq ?_
      refine J_region ?_
      refine L_pur rfl (p_move rfl) ?_
      refine L_op (x_call Try.func81 nm81 bd81 (.cons rfl (.cons rfl .nil)) rfl (next (zs := zs) (by repeat (first | with_reducible exact Pick.here | with_reducible assumption | with_reducible apply Pick.there)) (fun w H => hr w (Sub.sep (by repeat (first | exact Sub.nil | exact Sub.refl | refine Sub.cons (by repeat (first | exact Pick.here | apply Pick.there)) ?_ | refine Sub.drop ?_)) H)) (by omega) (by omega) (by omega)) fun x23 => ?_)
      refine J_pure fun hx23 => ?_
      refine L_pur rfl (p_conv rfl Try.underlying3 Try.underlying37) ?_
      refine L_pur rfl (p_assign rfl) ?_
      refine L_nil ?_
      refine Q_then ?_
      refine J_ret ?_
      refine J_pick (A := sA b v _) (by repeat (first | with_reducible exact Pick.here | with_reducible assumption | with_reducible apply Pick.there)) ?_
      refine J_sUp (lo' := lo + 3) (by omega) ?_
      exact J_return (_) Try.results110 (.tmp rfl .nil) rfl (by repeat (first | exact Sub.nil | exact Sub.refl | refine Sub.cons (by repeat (first | exact Pick.here | apply Pick.there)) ?_ | refine Sub.drop ?_))

set_option maxRecDepth 100000 in
set_option maxHeartbeats 4000000 in
theorem entry {E : World} {l m : List As} {b lo : Nat} {v : Value} {zs : List Int} (hp : Pick (sA b v lo) l m) (hr : ∀ w, Sep E w m → Reads w 1 v (zs.map fun z => [Value.int .i64 z])) (hlo : lo ≤ 100000) :
    Con Try.prog 82 #[.pointer (some ⟨b, 0, none⟩)] E l (fun e : Sqe => .agg (encS e).toArray) (fun _ => sA b v (lo + 30) :: m) := by
  refine Con.body (vs := [.pointer (some ⟨b, 0, none⟩)]) (n := 162) Try.func82 rfl rfl [(0, .pointer (some ⟨b, 0, none⟩))] (env_ok 1 rfl) ?_
  refine J_pick hp ?_
  refine J_seq ?_
  refine J_region ?_
  refine L_op (x_alloc ty39 rfl fun b2 => ?_)
  refine L_nil ?_
  refine Q_then ?_
  refine J_seq ?_
  refine J_region ?_
  refine L_pur rfl (p_move rfl) ?_
  refine L_op (x_call Try.func81 nm81 bd81 (.cons rfl (.cons rfl .nil)) rfl (next (zs := zs) (by repeat (first | with_reducible exact Pick.here | with_reducible assumption | with_reducible apply Pick.there)) (fun w H => hr w (Sub.sep (by repeat (first | exact Sub.nil | exact Sub.refl | refine Sub.cons (by repeat (first | exact Pick.here | apply Pick.there)) ?_ | refine Sub.drop ?_)) H)) (by omega) (by omega) (by omega)) fun x5 => ?_)
  refine J_pure fun hx5 => ?_
  refine L_pur rfl (p_add64 rfl rfl (by omega)) ?_
  refine L_pur rfl (p_move rfl) ?_
  refine L_op (x_call Try.func81 nm81 bd81 (.cons rfl (.cons rfl .nil)) rfl (next (zs := zs) (by repeat (first | with_reducible exact Pick.here | with_reducible assumption | with_reducible apply Pick.there)) (fun w H => hr w (Sub.sep (by repeat (first | exact Sub.nil | exact Sub.refl | refine Sub.cons (by repeat (first | exact Pick.here | apply Pick.there)) ?_ | refine Sub.drop ?_)) H)) (by omega) (by omega) (by omega)) fun x8 => ?_)
  refine J_pure fun hx8 => ?_
  refine L_pur rfl (p_conv rfl Try.underlying3 Try.underlying37) ?_
  refine L_pur rfl (p_move rfl) ?_
  refine L_op (x_call Try.func110 nm110 bd110 (.cons rfl .nil) rfl (addr (zs := zs) (by repeat (first | with_reducible exact Pick.here | with_reducible assumption | with_reducible apply Pick.there)) (fun w H => hr w (Sub.sep (by repeat (first | exact Sub.nil | exact Sub.refl | refine Sub.cons (by repeat (first | exact Pick.here | apply Pick.there)) ?_ | refine Sub.drop ?_)) H)) (by omega)) fun x => ?_)
  refine L_pur rfl (p_move rfl) ?_
  refine L_op (x_call Try.func81 nm81 bd81 (.cons rfl (.cons rfl .nil)) rfl (next (zs := zs) (by repeat (first | with_reducible exact Pick.here | with_reducible assumption | with_reducible apply Pick.there)) (fun w H => hr w (Sub.sep (by repeat (first | exact Sub.nil | exact Sub.refl | refine Sub.cons (by repeat (first | exact Pick.here | apply Pick.there)) ?_ | refine Sub.drop ?_)) H)) (by omega) (by omega) (by omega)) fun x13 => ?_)
  refine J_pure fun hx13 => ?_
  refine L_pur rfl (p_conv rfl Try.underlying3 Try.underlying37) ?_
  refine L_pur rfl (p_move rfl) ?_
  refine L_op (x_call Try.func81 nm81 bd81 (.cons rfl (.cons rfl .nil)) rfl (next (zs := zs) (by repeat (first | with_reducible exact Pick.here | with_reducible assumption | with_reducible apply Pick.there)) (fun w H => hr w (Sub.sep (by repeat (first | exact Sub.nil | exact Sub.refl | refine Sub.cons (by repeat (first | exact Pick.here | apply Pick.there)) ?_ | refine Sub.drop ?_)) H)) (by omega) (by omega) (by omega)) fun x16 => ?_)
  refine J_pure fun hx16 => ?_
  refine L_pur rfl (p_conv rfl Try.underlying3 Try.underlying37) ?_
  refine L_pur rfl (bld39 (.cons rfl (.cons rfl (.cons rfl (.cons rfl (.cons rfl (.cons rfl .nil)))))) (by repeat constructor)) ?_
  refine L_op (x_alloc ty39 rfl fun b3 => ?_)
  refine L_op (x_store rfl rfl ty39 rfl (by first | rfl | (simp [*]; done)) (by first | rfl | (simp [*]; done)) (by repeat (first | with_reducible exact Rep1.here | with_reducible apply Rep1.there)) (by first | exact Put.full rfl | ((repeat constructor); done) | exact Put.full (by first | rfl | simp [*])) ?_)
  refine L_nil ?_
  refine Q_then ?_
  refine J_cut  (fun _ : Unit => eA b3 :: sA b v (lo + 25) :: blk b2 39 [.int .i64 0, .int .i64 0, .int .u32 0, .int .u32 0, .int .u32 0, .int .u32 0, .int .u32 0, .int .u32 0] :: m) (fun _ : Unit => [(0, .pointer (some ⟨b, 0, none⟩)), (2, .pointer (some ⟨b2, 0, none⟩)), (3, .pointer (some ⟨b3, 0, none⟩))]) ?_ ?_
  ·
    refine J_seq ?_
    refine J_region ?_
    refine L_pur rfl (p_fieldAddr rfl fa39_0) ?_
    refine L_val rfl (v_load rfl ty3 (by repeat (first | with_reducible exact Has.here | with_reducible assumption | with_reducible apply Has.there)) (by exact rfl)) ?_
    refine L_nil ?_
    refine Q_then ?_
    refine J_block ?_
    refine J_seq ?_
    refine J_seq ?_
    refine J_region ?_
    refine L_pur rfl (p_eql rfl rfl) ?_
    refine L_pur rfl (p_assign rfl) ?_
    refine L_nil ?_
    refine Q_then ?_
    refine J_gsplit (t := 21) rfl (fun h21 => ?_) (fun h21 => ?_)
    ·
      refine C_true rfl ?_
      refine J_skip ?_
      refine Q_then ?_
      refine C_true rfl ?_
      refine J_seq ?_
      refine J_region ?_
      refine L_pur rfl (p_move rfl) ?_
      refine L_op (x_call Try.func81 nm81 bd81 (.cons rfl (.cons rfl .nil)) rfl (next (zs := zs) (by repeat (first | with_reducible exact Pick.here | with_reducible assumption | with_reducible apply Pick.there)) (fun w H => hr w (Sub.sep (by repeat (first | exact Sub.nil | exact Sub.refl | refine Sub.cons (by repeat (first | exact Pick.here | apply Pick.there)) ?_ | refine Sub.drop ?_)) H)) (by omega) (by omega) (by omega)) fun x26 => ?_)
      refine J_pure fun hx26 => ?_
      refine L_pur rfl (p_add64 rfl rfl (by omega)) ?_
      refine L_op (x_call Try.func111 nm111 bd111 (.cons rfl (.cons rfl .nil)) rfl (join _ _) fun x => ?_)
      refine L_pur rfl (p_fieldAddr rfl fa39_4) ?_
      refine L_op (x_store rfl rfl ty37 rfl (by first | rfl | (simp [*]; done)) (by first | rfl | (simp [*]; done)) (by repeat (first | with_reducible exact Rep1.here | with_reducible apply Rep1.there)) (by first | exact Put.full rfl | ((repeat constructor); done) | exact Put.full (by first | rfl | simp [*])) ?_)
      refine L_nil ?_
      refine Q_then ?_
      refine J_seq ?_
      refine J_region ?_
      refine L_pur rfl (p_move rfl) ?_
      refine L_op (x_call Try.func81 nm81 bd81 (.cons rfl (.cons rfl .nil)) rfl (next (zs := zs) (by repeat (first | with_reducible exact Pick.here | with_reducible assumption | with_reducible apply Pick.there)) (fun w H => hr w (Sub.sep (by repeat (first | exact Sub.nil | exact Sub.refl | refine Sub.cons (by repeat (first | exact Pick.here | apply Pick.there)) ?_ | refine Sub.drop ?_)) H)) (by omega) (by omega) (by omega)) fun x31 => ?_)
      refine J_pure fun hx31 => ?_
      refine L_pur rfl (p_eql rfl rfl) ?_
      refine L_nil ?_
      refine Q_then ?_
      refine J_gsplit (t := 32) rfl (fun h32 => ?_) (fun h32 => ?_)
      ·
        refine C_true rfl ?_
        refine J_region ?_
        refine L_pur rfl (p_move rfl) ?_
        refine L_op (x_call Try.func110 nm110 bd110 (.cons rfl .nil) rfl (addr (zs := zs) (by repeat (first | with_reducible exact Pick.here | with_reducible assumption | with_reducible apply Pick.there)) (fun w H => hr w (Sub.sep (by repeat (first | exact Sub.nil | exact Sub.refl | refine Sub.cons (by repeat (first | exact Pick.here | apply Pick.there)) ?_ | refine Sub.drop ?_)) H)) (by omega)) fun x => ?_)
        refine L_pur rfl (p_fieldAddr rfl fa39_4) ?_
        refine L_op (x_store rfl rfl ty37 rfl (by first | rfl | (simp [*]; done)) (by first | rfl | (simp [*]; done)) (by repeat (first | with_reducible exact Rep1.here | with_reducible apply Rep1.there)) (by first | exact Put.full rfl | ((repeat constructor); done) | exact Put.full (by first | rfl | simp [*])) ?_)
        refine L_nil ?_
        refine Q_blk_normal ?_
        refine Q_then ?_
        refine J_pick (A := blk b3 39 _) (by repeat (first | with_reducible exact Pick.here | with_reducible assumption | with_reducible apply Pick.there)) ?_
        refine J_closeS ?_
        refine J_pick (A := sA b v _) (by repeat (first | with_reducible exact Pick.here | with_reducible assumption | with_reducible apply Pick.there)) ?_
        refine J_sUp (lo' := lo + 25) (by omega) ?_
        exact J_at (L := (fun _ : Unit => eA b3 :: sA b v (lo + 25) :: blk b2 39 [.int .i64 0, .int .i64 0, .int .u32 0, .int .u32 0, .int .u32 0, .int .u32 0, .int .u32 0, .int .u32 0] :: m)) (G := (fun _ : Unit => [(0, .pointer (some ⟨b, 0, none⟩)), (2, .pointer (some ⟨b2, 0, none⟩)), (3, .pointer (some ⟨b3, 0, none⟩))])) () (by repeat (first | exact Sub.nil | exact Sub.refl | refine Sub.cons (by repeat (first | exact Pick.here | apply Pick.there)) ?_ | refine Sub.drop ?_)) (by repeat (first | exact Keep.nil | refine Keep.cons rfl ?_))
      ·
        refine C_false rfl ?_
        refine J_skip ?_
        refine Q_blk_normal ?_
        refine Q_then ?_
        refine J_pick (A := blk b3 39 _) (by repeat (first | with_reducible exact Pick.here | with_reducible assumption | with_reducible apply Pick.there)) ?_
        refine J_closeS ?_
        refine J_pick (A := sA b v _) (by repeat (first | with_reducible exact Pick.here | with_reducible assumption | with_reducible apply Pick.there)) ?_
        refine J_sUp (lo' := lo + 25) (by omega) ?_
        exact J_at (L := (fun _ : Unit => eA b3 :: sA b v (lo + 25) :: blk b2 39 [.int .i64 0, .int .i64 0, .int .u32 0, .int .u32 0, .int .u32 0, .int .u32 0, .int .u32 0, .int .u32 0] :: m)) (G := (fun _ : Unit => [(0, .pointer (some ⟨b, 0, none⟩)), (2, .pointer (some ⟨b2, 0, none⟩)), (3, .pointer (some ⟨b3, 0, none⟩))])) () (by repeat (first | exact Sub.nil | exact Sub.refl | refine Sub.cons (by repeat (first | exact Pick.here | apply Pick.there)) ?_ | refine Sub.drop ?_)) (by repeat (first | exact Keep.nil | refine Keep.cons rfl ?_))
    ·
      refine C_false rfl ?_
      refine J_seq ?_
      refine J_region ?_
      refine L_pur rfl (p_eql rfl rfl) ?_
      refine L_pur rfl (p_assign rfl) ?_
      refine L_nil ?_
      refine Q_then ?_
      refine J_gsplit (t := 21) rfl (fun h21 => ?_) (fun h21 => ?_)
      ·
        refine C_true rfl ?_
        refine J_skip ?_
        refine Q_then ?_
        refine C_true rfl ?_
        refine J_seq ?_
        refine J_region ?_
        refine L_pur rfl (p_move rfl) ?_
        refine L_op (x_call Try.func81 nm81 bd81 (.cons rfl (.cons rfl .nil)) rfl (next (zs := zs) (by repeat (first | with_reducible exact Pick.here | with_reducible assumption | with_reducible apply Pick.there)) (fun w H => hr w (Sub.sep (by repeat (first | exact Sub.nil | exact Sub.refl | refine Sub.cons (by repeat (first | exact Pick.here | apply Pick.there)) ?_ | refine Sub.drop ?_)) H)) (by omega) (by omega) (by omega)) fun x26 => ?_)
        refine J_pure fun hx26 => ?_
        refine L_pur rfl (p_add64 rfl rfl (by omega)) ?_
        refine L_op (x_call Try.func111 nm111 bd111 (.cons rfl (.cons rfl .nil)) rfl (join _ _) fun x => ?_)
        refine L_pur rfl (p_fieldAddr rfl fa39_4) ?_
        refine L_op (x_store rfl rfl ty37 rfl (by first | rfl | (simp [*]; done)) (by first | rfl | (simp [*]; done)) (by repeat (first | with_reducible exact Rep1.here | with_reducible apply Rep1.there)) (by first | exact Put.full rfl | ((repeat constructor); done) | exact Put.full (by first | rfl | simp [*])) ?_)
        refine L_nil ?_
        refine Q_then ?_
        refine J_seq ?_
        refine J_region ?_
        refine L_pur rfl (p_move rfl) ?_
        refine L_op (x_call Try.func81 nm81 bd81 (.cons rfl (.cons rfl .nil)) rfl (next (zs := zs) (by repeat (first | with_reducible exact Pick.here | with_reducible assumption | with_reducible apply Pick.there)) (fun w H => hr w (Sub.sep (by repeat (first | exact Sub.nil | exact Sub.refl | refine Sub.cons (by repeat (first | exact Pick.here | apply Pick.there)) ?_ | refine Sub.drop ?_)) H)) (by omega) (by omega) (by omega)) fun x31 => ?_)
        refine J_pure fun hx31 => ?_
        refine L_pur rfl (p_eql rfl rfl) ?_
        refine L_nil ?_
        refine Q_then ?_
        refine J_gsplit (t := 32) rfl (fun h32 => ?_) (fun h32 => ?_)
        ·
          refine C_true rfl ?_
          refine J_region ?_
          refine L_pur rfl (p_move rfl) ?_
          refine L_op (x_call Try.func110 nm110 bd110 (.cons rfl .nil) rfl (addr (zs := zs) (by repeat (first | with_reducible exact Pick.here | with_reducible assumption | with_reducible apply Pick.there)) (fun w H => hr w (Sub.sep (by repeat (first | exact Sub.nil | exact Sub.refl | refine Sub.cons (by repeat (first | exact Pick.here | apply Pick.there)) ?_ | refine Sub.drop ?_)) H)) (by omega)) fun x => ?_)
          refine L_pur rfl (p_fieldAddr rfl fa39_4) ?_
          refine L_op (x_store rfl rfl ty37 rfl (by first | rfl | (simp [*]; done)) (by first | rfl | (simp [*]; done)) (by repeat (first | with_reducible exact Rep1.here | with_reducible apply Rep1.there)) (by first | exact Put.full rfl | ((repeat constructor); done) | exact Put.full (by first | rfl | simp [*])) ?_)
          refine L_nil ?_
          refine Q_blk_normal ?_
          refine Q_then ?_
          refine J_pick (A := blk b3 39 _) (by repeat (first | with_reducible exact Pick.here | with_reducible assumption | with_reducible apply Pick.there)) ?_
          refine J_closeS ?_
          refine J_pick (A := sA b v _) (by repeat (first | with_reducible exact Pick.here | with_reducible assumption | with_reducible apply Pick.there)) ?_
          refine J_sUp (lo' := lo + 25) (by omega) ?_
          exact J_at (L := (fun _ : Unit => eA b3 :: sA b v (lo + 25) :: blk b2 39 [.int .i64 0, .int .i64 0, .int .u32 0, .int .u32 0, .int .u32 0, .int .u32 0, .int .u32 0, .int .u32 0] :: m)) (G := (fun _ : Unit => [(0, .pointer (some ⟨b, 0, none⟩)), (2, .pointer (some ⟨b2, 0, none⟩)), (3, .pointer (some ⟨b3, 0, none⟩))])) () (by repeat (first | exact Sub.nil | exact Sub.refl | refine Sub.cons (by repeat (first | exact Pick.here | apply Pick.there)) ?_ | refine Sub.drop ?_)) (by repeat (first | exact Keep.nil | refine Keep.cons rfl ?_))
        ·
          refine C_false rfl ?_
          refine J_skip ?_
          refine Q_blk_normal ?_
          refine Q_then ?_
          refine J_pick (A := blk b3 39 _) (by repeat (first | with_reducible exact Pick.here | with_reducible assumption | with_reducible apply Pick.there)) ?_
          refine J_closeS ?_
          refine J_pick (A := sA b v _) (by repeat (first | with_reducible exact Pick.here | with_reducible assumption | with_reducible apply Pick.there)) ?_
          refine J_sUp (lo' := lo + 25) (by omega) ?_
          exact J_at (L := (fun _ : Unit => eA b3 :: sA b v (lo + 25) :: blk b2 39 [.int .i64 0, .int .i64 0, .int .u32 0, .int .u32 0, .int .u32 0, .int .u32 0, .int .u32 0, .int .u32 0] :: m)) (G := (fun _ : Unit => [(0, .pointer (some ⟨b, 0, none⟩)), (2, .pointer (some ⟨b2, 0, none⟩)), (3, .pointer (some ⟨b3, 0, none⟩))])) () (by repeat (first | exact Sub.nil | exact Sub.refl | refine Sub.cons (by repeat (first | exact Pick.here | apply Pick.there)) ?_ | refine Sub.drop ?_)) (by repeat (first | exact Keep.nil | refine Keep.cons rfl ?_))
      ·
        refine C_false rfl ?_
        refine J_region ?_
        refine L_pur rfl (p_eql rfl rfl) ?_
        refine L_pur rfl (p_assign rfl) ?_
        refine L_nil ?_
        refine Q_then ?_
        refine J_gsplit (t := 21) rfl (fun h21 => ?_) (fun h21 => ?_)
        ·
          refine C_true rfl ?_
          refine J_seq ?_
          refine J_region ?_
          refine L_pur rfl (p_move rfl) ?_
          refine L_op (x_call Try.func81 nm81 bd81 (.cons rfl (.cons rfl .nil)) rfl (next (zs := zs) (by repeat (first | with_reducible exact Pick.here | with_reducible assumption | with_reducible apply Pick.there)) (fun w H => hr w (Sub.sep (by repeat (first | exact Sub.nil | exact Sub.refl | refine Sub.cons (by repeat (first | exact Pick.here | apply Pick.there)) ?_ | refine Sub.drop ?_)) H)) (by omega) (by omega) (by omega)) fun x26 => ?_)
          refine J_pure fun hx26 => ?_
          refine L_pur rfl (p_add64 rfl rfl (by omega)) ?_
          refine L_op (x_call Try.func111 nm111 bd111 (.cons rfl (.cons rfl .nil)) rfl (join _ _) fun x => ?_)
          refine L_pur rfl (p_fieldAddr rfl fa39_4) ?_
          refine L_op (x_store rfl rfl ty37 rfl (by first | rfl | (simp [*]; done)) (by first | rfl | (simp [*]; done)) (by repeat (first | with_reducible exact Rep1.here | with_reducible apply Rep1.there)) (by first | exact Put.full rfl | ((repeat constructor); done) | exact Put.full (by first | rfl | simp [*])) ?_)
          refine L_nil ?_
          refine Q_then ?_
          refine J_seq ?_
          refine J_region ?_
          refine L_pur rfl (p_move rfl) ?_
          refine L_op (x_call Try.func81 nm81 bd81 (.cons rfl (.cons rfl .nil)) rfl (next (zs := zs) (by repeat (first | with_reducible exact Pick.here | with_reducible assumption | with_reducible apply Pick.there)) (fun w H => hr w (Sub.sep (by repeat (first | exact Sub.nil | exact Sub.refl | refine Sub.cons (by repeat (first | exact Pick.here | apply Pick.there)) ?_ | refine Sub.drop ?_)) H)) (by omega) (by omega) (by omega)) fun x31 => ?_)
          refine J_pure fun hx31 => ?_
          refine L_pur rfl (p_eql rfl rfl) ?_
          refine L_nil ?_
          refine Q_then ?_
          refine J_gsplit (t := 32) rfl (fun h32 => ?_) (fun h32 => ?_)
          ·
            refine C_true rfl ?_
            refine J_region ?_
            refine L_pur rfl (p_move rfl) ?_
            refine L_op (x_call Try.func110 nm110 bd110 (.cons rfl .nil) rfl (addr (zs := zs) (by repeat (first | with_reducible exact Pick.here | with_reducible assumption | with_reducible apply Pick.there)) (fun w H => hr w (Sub.sep (by repeat (first | exact Sub.nil | exact Sub.refl | refine Sub.cons (by repeat (first | exact Pick.here | apply Pick.there)) ?_ | refine Sub.drop ?_)) H)) (by omega)) fun x => ?_)
            refine L_pur rfl (p_fieldAddr rfl fa39_4) ?_
            refine L_op (x_store rfl rfl ty37 rfl (by first | rfl | (simp [*]; done)) (by first | rfl | (simp [*]; done)) (by repeat (first | with_reducible exact Rep1.here | with_reducible apply Rep1.there)) (by first | exact Put.full rfl | ((repeat constructor); done) | exact Put.full (by first | rfl | simp [*])) ?_)
            refine L_nil ?_
            refine Q_blk_normal ?_
            refine Q_then ?_
            refine J_pick (A := blk b3 39 _) (by repeat (first | with_reducible exact Pick.here | with_reducible assumption | with_reducible apply Pick.there)) ?_
            refine J_closeS ?_
            refine J_pick (A := sA b v _) (by repeat (first | with_reducible exact Pick.here | with_reducible assumption | with_reducible apply Pick.there)) ?_
            refine J_sUp (lo' := lo + 25) (by omega) ?_
            exact J_at (L := (fun _ : Unit => eA b3 :: sA b v (lo + 25) :: blk b2 39 [.int .i64 0, .int .i64 0, .int .u32 0, .int .u32 0, .int .u32 0, .int .u32 0, .int .u32 0, .int .u32 0] :: m)) (G := (fun _ : Unit => [(0, .pointer (some ⟨b, 0, none⟩)), (2, .pointer (some ⟨b2, 0, none⟩)), (3, .pointer (some ⟨b3, 0, none⟩))])) () (by repeat (first | exact Sub.nil | exact Sub.refl | refine Sub.cons (by repeat (first | exact Pick.here | apply Pick.there)) ?_ | refine Sub.drop ?_)) (by repeat (first | exact Keep.nil | refine Keep.cons rfl ?_))
          ·
            refine C_false rfl ?_
            refine J_skip ?_
            refine Q_blk_normal ?_
            refine Q_then ?_
            refine J_pick (A := blk b3 39 _) (by repeat (first | with_reducible exact Pick.here | with_reducible assumption | with_reducible apply Pick.there)) ?_
            refine J_closeS ?_
            refine J_pick (A := sA b v _) (by repeat (first | with_reducible exact Pick.here | with_reducible assumption | with_reducible apply Pick.there)) ?_
            refine J_sUp (lo' := lo + 25) (by omega) ?_
            exact J_at (L := (fun _ : Unit => eA b3 :: sA b v (lo + 25) :: blk b2 39 [.int .i64 0, .int .i64 0, .int .u32 0, .int .u32 0, .int .u32 0, .int .u32 0, .int .u32 0, .int .u32 0] :: m)) (G := (fun _ : Unit => [(0, .pointer (some ⟨b, 0, none⟩)), (2, .pointer (some ⟨b2, 0, none⟩)), (3, .pointer (some ⟨b3, 0, none⟩))])) () (by repeat (first | exact Sub.nil | exact Sub.refl | refine Sub.cons (by repeat (first | exact Pick.here | apply Pick.there)) ?_ | refine Sub.drop ?_)) (by repeat (first | exact Keep.nil | refine Keep.cons rfl ?_))
        ·
          refine C_false rfl ?_
          refine J_seq ?_
          refine J_region ?_
          refine L_pur rfl (p_eql rfl rfl) ?_
          refine L_pur rfl (p_assign rfl) ?_
          refine L_nil ?_
          refine Q_then ?_
          refine J_gsplit (t := 36) rfl (fun h36 => ?_) (fun h36 => ?_)
          ·
            refine C_true rfl ?_
            refine J_seq ?_
            refine J_region ?_
            refine L_op (x_call Try.func111 nm111 bd111 (.cons rfl (.cons rfl .nil)) rfl (join _ _) fun x => ?_)
            refine L_pur rfl (p_fieldAddr rfl fa39_3) ?_
            refine L_op (x_store rfl rfl ty37 rfl (by first | rfl | (simp [*]; done)) (by first | rfl | (simp [*]; done)) (by repeat (first | with_reducible exact Rep1.here | with_reducible apply Rep1.there)) (by first | exact Put.full rfl | ((repeat constructor); done) | exact Put.full (by first | rfl | simp [*])) ?_)
            refine L_nil ?_
            refine Q_then ?_
            refine J_seq ?_
            refine J_seq ?_
            refine J_region ?_
            refine L_pur rfl (p_move rfl) ?_
            refine L_op (x_call Try.func81 nm81 bd81 (.cons rfl (.cons rfl .nil)) rfl (next (zs := zs) (by repeat (first | with_reducible exact Pick.here | with_reducible assumption | with_reducible apply Pick.there)) (fun w H => hr w (Sub.sep (by repeat (first | exact Sub.nil | exact Sub.refl | refine Sub.cons (by repeat (first | exact Pick.here | apply Pick.there)) ?_ | refine Sub.drop ?_)) H)) (by omega) (by omega) (by omega)) fun x41 => ?_)
            refine J_pure fun hx41 => ?_
            refine L_pur rfl (p_eql rfl rfl) ?_
            refine L_nil ?_
            refine Q_then ?_
            refine J_gsplit (t := 42) rfl (fun h42 => ?_) (fun h42 => ?_)
            ·
              refine C_true rfl ?_
              refine J_region ?_
              refine L_pur rfl (p_move rfl) ?_
              refine L_op (x_call Try.func110 nm110 bd110 (.cons rfl .nil) rfl (addr (zs := zs) (by repeat (first | with_reducible exact Pick.here | with_reducible assumption | with_reducible apply Pick.there)) (fun w H => hr w (Sub.sep (by repeat (first | exact Sub.nil | exact Sub.refl | refine Sub.cons (by repeat (first | exact Pick.here | apply Pick.there)) ?_ | refine Sub.drop ?_)) H)) (by omega)) fun x => ?_)
              refine L_pur rfl (p_fieldAddr rfl fa39_3) ?_
              refine L_op (x_store rfl rfl ty37 rfl (by first | rfl | (simp [*]; done)) (by first | rfl | (simp [*]; done)) (by repeat (first | with_reducible exact Rep1.here | with_reducible apply Rep1.there)) (by first | exact Put.full rfl | ((repeat constructor); done) | exact Put.full (by first | rfl | simp [*])) ?_)
              refine L_nil ?_
              refine Q_then ?_
              refine J_seq ?_
              refine J_region ?_
              refine L_pur rfl (p_move rfl) ?_
              refine L_op (x_call Try.func81 nm81 bd81 (.cons rfl (.cons rfl .nil)) rfl (next (zs := zs) (by repeat (first | with_reducible exact Pick.here | with_reducible assumption | with_reducible apply Pick.there)) (fun w H => hr w (Sub.sep (by repeat (first | exact Sub.nil | exact Sub.refl | refine Sub.cons (by repeat (first | exact Pick.here | apply Pick.there)) ?_ | refine Sub.drop ?_)) H)) (by omega) (by omega) (by omega)) fun x47 => ?_)
              refine J_pure fun hx47 => ?_
              refine L_pur rfl (p_add64 rfl rfl (by omega)) ?_
              refine L_op (x_call Try.func111 nm111 bd111 (.cons rfl (.cons rfl .nil)) rfl (join _ _) fun x => ?_)
              refine L_pur rfl (p_fieldAddr rfl fa39_4) ?_
              refine L_op (x_store rfl rfl ty37 rfl (by first | rfl | (simp [*]; done)) (by first | rfl | (simp [*]; done)) (by repeat (first | with_reducible exact Rep1.here | with_reducible apply Rep1.there)) (by first | exact Put.full rfl | ((repeat constructor); done) | exact Put.full (by first | rfl | simp [*])) ?_)
              refine L_nil ?_
              refine Q_then ?_
              refine J_seq ?_
              refine J_region ?_
              refine L_pur rfl (p_move rfl) ?_
              refine L_op (x_call Try.func81 nm81 bd81 (.cons rfl (.cons rfl .nil)) rfl (next (zs := zs) (by repeat (first | with_reducible exact Pick.here | with_reducible assumption | with_reducible apply Pick.there)) (fun w H => hr w (Sub.sep (by repeat (first | exact Sub.nil | exact Sub.refl | refine Sub.cons (by repeat (first | exact Pick.here | apply Pick.there)) ?_ | refine Sub.drop ?_)) H)) (by omega) (by omega) (by omega)) fun x52 => ?_)
              refine J_pure fun hx52 => ?_
              refine L_pur rfl (p_add64 rfl rfl (by omega)) ?_
              refine L_pur rfl (p_conv rfl Try.underlying3 Try.underlying37) ?_
              refine L_pur rfl (p_fieldAddr rfl fa39_5) ?_
              refine L_op (x_store rfl rfl ty37 rfl (by first | rfl | (simp [*]; done)) (by first | rfl | (simp [*]; done)) (by repeat (first | with_reducible exact Rep1.here | with_reducible apply Rep1.there)) (by first | exact Put.full rfl | ((repeat constructor); done) | exact Put.full (by first | rfl | simp [*])) ?_)
              refine L_nil ?_
              refine Q_then ?_
              refine J_seq ?_
              refine J_region ?_
              refine L_pur rfl (p_fieldAddr rfl fa39_5) ?_
              refine L_val rfl (v_load rfl ty37 (by repeat (first | with_reducible exact Has.here | with_reducible assumption | with_reducible apply Has.there)) (by exact rfl)) ?_
              refine L_pur rfl (p_eql rfl rfl) ?_
              refine L_nil ?_
              refine Q_then ?_
              refine J_gsplit (t := 58) rfl (fun h58 => ?_) (fun h58 => ?_)
              ·
                refine C_true rfl ?_
                refine J_region ?_
                refine L_pur rfl (p_move rfl) ?_
                refine L_op (x_call Try.func81 nm81 bd81 (.cons rfl (.cons rfl .nil)) rfl (next (zs := zs) (by repeat (first | with_reducible exact Pick.here | with_reducible assumption | with_reducible apply Pick.there)) (fun w H => hr w (Sub.sep (by repeat (first | exact Sub.nil | exact Sub.refl | refine Sub.cons (by repeat (first | exact Pick.here | apply Pick.there)) ?_ | refine Sub.drop ?_)) H)) (by omega) (by omega) (by omega)) fun x60 => ?_)
                refine J_pure fun hx60 => ?_
                refine L_pur rfl (p_add64 rfl rfl (by omega)) ?_
                refine L_pur rfl (p_conv rfl Try.underlying3 Try.underlying37) ?_
                refine L_pur rfl (p_fieldAddr rfl fa39_6) ?_
                refine L_op (x_store rfl rfl ty37 rfl (by first | rfl | (simp [*]; done)) (by first | rfl | (simp [*]; done)) (by repeat (first | with_reducible exact Rep1.here | with_reducible apply Rep1.there)) (by first | exact Put.full rfl | ((repeat constructor); done) | exact Put.full (by first | rfl | simp [*])) ?_)
                refine L_nil ?_
                refine Q_blk_normal ?_
                refine Q_then ?_
                refine J_pick (A := blk b3 39 _) (by repeat (first | with_reducible exact Pick.here | with_reducible assumption | with_reducible apply Pick.there)) ?_
                refine J_closeS ?_
                refine J_pick (A := sA b v _) (by repeat (first | with_reducible exact Pick.here | with_reducible assumption | with_reducible apply Pick.there)) ?_
                refine J_sUp (lo' := lo + 25) (by omega) ?_
                exact J_at (L := (fun _ : Unit => eA b3 :: sA b v (lo + 25) :: blk b2 39 [.int .i64 0, .int .i64 0, .int .u32 0, .int .u32 0, .int .u32 0, .int .u32 0, .int .u32 0, .int .u32 0] :: m)) (G := (fun _ : Unit => [(0, .pointer (some ⟨b, 0, none⟩)), (2, .pointer (some ⟨b2, 0, none⟩)), (3, .pointer (some ⟨b3, 0, none⟩))])) () (by repeat (first | exact Sub.nil | exact Sub.refl | refine Sub.cons (by repeat (first | exact Pick.here | apply Pick.there)) ?_ | refine Sub.drop ?_)) (by repeat (first | exact Keep.nil | refine Keep.cons rfl ?_))
              ·
                refine C_false rfl ?_
                refine J_skip ?_
                refine Q_blk_normal ?_
                refine Q_then ?_
                refine J_pick (A := blk b3 39 _) (by repeat (first | with_reducible exact Pick.here | with_reducible assumption | with_reducible apply Pick.there)) ?_
                refine J_closeS ?_
                refine J_pick (A := sA b v _) (by repeat (first | with_reducible exact Pick.here | with_reducible assumption | with_reducible apply Pick.there)) ?_
                refine J_sUp (lo' := lo + 25) (by omega) ?_
                exact J_at (L := (fun _ : Unit => eA b3 :: sA b v (lo + 25) :: blk b2 39 [.int .i64 0, .int .i64 0, .int .u32 0, .int .u32 0, .int .u32 0, .int .u32 0, .int .u32 0, .int .u32 0] :: m)) (G := (fun _ : Unit => [(0, .pointer (some ⟨b, 0, none⟩)), (2, .pointer (some ⟨b2, 0, none⟩)), (3, .pointer (some ⟨b3, 0, none⟩))])) () (by repeat (first | exact Sub.nil | exact Sub.refl | refine Sub.cons (by repeat (first | exact Pick.here | apply Pick.there)) ?_ | refine Sub.drop ?_)) (by repeat (first | exact Keep.nil | refine Keep.cons rfl ?_))
            ·
              refine C_false rfl ?_
              refine J_skip ?_
              refine Q_then ?_
              refine J_seq ?_
              refine J_region ?_
              refine L_pur rfl (p_move rfl) ?_
              refine L_op (x_call Try.func81 nm81 bd81 (.cons rfl (.cons rfl .nil)) rfl (next (zs := zs) (by repeat (first | with_reducible exact Pick.here | with_reducible assumption | with_reducible apply Pick.there)) (fun w H => hr w (Sub.sep (by repeat (first | exact Sub.nil | exact Sub.refl | refine Sub.cons (by repeat (first | exact Pick.here | apply Pick.there)) ?_ | refine Sub.drop ?_)) H)) (by omega) (by omega) (by omega)) fun x47 => ?_)
              refine J_pure fun hx47 => ?_
              refine L_pur rfl (p_add64 rfl rfl (by omega)) ?_
              refine L_op (x_call Try.func111 nm111 bd111 (.cons rfl (.cons rfl .nil)) rfl (join _ _) fun x => ?_)
              refine L_pur rfl (p_fieldAddr rfl fa39_4) ?_
              refine L_op (x_store rfl rfl ty37 rfl (by first | rfl | (simp [*]; done)) (by first | rfl | (simp [*]; done)) (by repeat (first | with_reducible exact Rep1.here | with_reducible apply Rep1.there)) (by first | exact Put.full rfl | ((repeat constructor); done) | exact Put.full (by first | rfl | simp [*])) ?_)
              refine L_nil ?_
              refine Q_then ?_
              refine J_seq ?_
              refine J_region ?_
              refine L_pur rfl (p_move rfl) ?_
              refine L_op (x_call Try.func81 nm81 bd81 (.cons rfl (.cons rfl .nil)) rfl (next (zs := zs) (by repeat (first | with_reducible exact Pick.here | with_reducible assumption | with_reducible apply Pick.there)) (fun w H => hr w (Sub.sep (by repeat (first | exact Sub.nil | exact Sub.refl | refine Sub.cons (by repeat (first | exact Pick.here | apply Pick.there)) ?_ | refine Sub.drop ?_)) H)) (by omega) (by omega) (by omega)) fun x52 => ?_)
              refine J_pure fun hx52 => ?_
              refine L_pur rfl (p_add64 rfl rfl (by omega)) ?_
              refine L_pur rfl (p_conv rfl Try.underlying3 Try.underlying37) ?_
              refine L_pur rfl (p_fieldAddr rfl fa39_5) ?_
              refine L_op (x_store rfl rfl ty37 rfl (by first | rfl | (simp [*]; done)) (by first | rfl | (simp [*]; done)) (by repeat (first | with_reducible exact Rep1.here | with_reducible apply Rep1.there)) (by first | exact Put.full rfl | ((repeat constructor); done) | exact Put.full (by first | rfl | simp [*])) ?_)
              refine L_nil ?_
              refine Q_then ?_
              refine J_seq ?_
              refine J_region ?_
              refine L_pur rfl (p_fieldAddr rfl fa39_5) ?_
              refine L_val rfl (v_load rfl ty37 (by repeat (first | with_reducible exact Has.here | with_reducible assumption | with_reducible apply Has.there)) (by exact rfl)) ?_
              refine L_pur rfl (p_eql rfl rfl) ?_
              refine L_nil ?_
              refine Q_then ?_
              refine J_gsplit (t := 58) rfl (fun h58 => ?_) (fun h58 => ?_)
              ·
                refine C_true rfl ?_
                refine J_region ?_
                refine L_pur rfl (p_move rfl) ?_
                refine L_op (x_call Try.func81 nm81 bd81 (.cons rfl (.cons rfl .nil)) rfl (next (zs := zs) (by repeat (first | with_reducible exact Pick.here | with_reducible assumption | with_reducible apply Pick.there)) (fun w H => hr w (Sub.sep (by repeat (first | exact Sub.nil | exact Sub.refl | refine Sub.cons (by repeat (first | exact Pick.here | apply Pick.there)) ?_ | refine Sub.drop ?_)) H)) (by omega) (by omega) (by omega)) fun x60 => ?_)
                refine J_pure fun hx60 => ?_
                refine L_pur rfl (p_add64 rfl rfl (by omega)) ?_
                refine L_pur rfl (p_conv rfl Try.underlying3 Try.underlying37) ?_
                refine L_pur rfl (p_fieldAddr rfl fa39_6) ?_
                refine L_op (x_store rfl rfl ty37 rfl (by first | rfl | (simp [*]; done)) (by first | rfl | (simp [*]; done)) (by repeat (first | with_reducible exact Rep1.here | with_reducible apply Rep1.there)) (by first | exact Put.full rfl | ((repeat constructor); done) | exact Put.full (by first | rfl | simp [*])) ?_)
                refine L_nil ?_
                refine Q_blk_normal ?_
                refine Q_then ?_
                refine J_pick (A := blk b3 39 _) (by repeat (first | with_reducible exact Pick.here | with_reducible assumption | with_reducible apply Pick.there)) ?_
                refine J_closeS ?_
                refine J_pick (A := sA b v _) (by repeat (first | with_reducible exact Pick.here | with_reducible assumption | with_reducible apply Pick.there)) ?_
                refine J_sUp (lo' := lo + 25) (by omega) ?_
                exact J_at (L := (fun _ : Unit => eA b3 :: sA b v (lo + 25) :: blk b2 39 [.int .i64 0, .int .i64 0, .int .u32 0, .int .u32 0, .int .u32 0, .int .u32 0, .int .u32 0, .int .u32 0] :: m)) (G := (fun _ : Unit => [(0, .pointer (some ⟨b, 0, none⟩)), (2, .pointer (some ⟨b2, 0, none⟩)), (3, .pointer (some ⟨b3, 0, none⟩))])) () (by repeat (first | exact Sub.nil | exact Sub.refl | refine Sub.cons (by repeat (first | exact Pick.here | apply Pick.there)) ?_ | refine Sub.drop ?_)) (by repeat (first | exact Keep.nil | refine Keep.cons rfl ?_))
              ·
                refine C_false rfl ?_
                refine J_skip ?_
                refine Q_blk_normal ?_
                refine Q_then ?_
                refine J_pick (A := blk b3 39 _) (by repeat (first | with_reducible exact Pick.here | with_reducible assumption | with_reducible apply Pick.there)) ?_
                refine J_closeS ?_
                refine J_pick (A := sA b v _) (by repeat (first | with_reducible exact Pick.here | with_reducible assumption | with_reducible apply Pick.there)) ?_
                refine J_sUp (lo' := lo + 25) (by omega) ?_
                exact J_at (L := (fun _ : Unit => eA b3 :: sA b v (lo + 25) :: blk b2 39 [.int .i64 0, .int .i64 0, .int .u32 0, .int .u32 0, .int .u32 0, .int .u32 0, .int .u32 0, .int .u32 0] :: m)) (G := (fun _ : Unit => [(0, .pointer (some ⟨b, 0, none⟩)), (2, .pointer (some ⟨b2, 0, none⟩)), (3, .pointer (some ⟨b3, 0, none⟩))])) () (by repeat (first | exact Sub.nil | exact Sub.refl | refine Sub.cons (by repeat (first | exact Pick.here | apply Pick.there)) ?_ | refine Sub.drop ?_)) (by repeat (first | exact Keep.nil | refine Keep.cons rfl ?_))
          ·
            refine C_false rfl ?_
            refine J_seq ?_
            refine J_seq ?_
            refine J_region ?_
            refine L_pur rfl (p_eql rfl rfl) ?_
            refine L_pur rfl (p_assign rfl) ?_
            refine L_nil ?_
            refine Q_then ?_
            refine J_gsplit (t := 64) rfl (fun h64 => ?_) (fun h64 => ?_)
            ·
              refine C_true rfl ?_
              refine J_skip ?_
              refine Q_then ?_
              refine C_true rfl ?_
              refine J_seq ?_
              refine J_seq ?_
              refine J_region ?_
              refine L_pur rfl (p_move rfl) ?_
              refine L_op (x_call Try.func81 nm81 bd81 (.cons rfl (.cons rfl .nil)) rfl (next (zs := zs) (by repeat (first | with_reducible exact Pick.here | with_reducible assumption | with_reducible apply Pick.there)) (fun w H => hr w (Sub.sep (by repeat (first | exact Sub.nil | exact Sub.refl | refine Sub.cons (by repeat (first | exact Pick.here | apply Pick.there)) ?_ | refine Sub.drop ?_)) H)) (by omega) (by omega) (by omega)) fun x69 => ?_)
              refine J_pure fun hx69 => ?_
              refine L_pur rfl (p_gtr rfl rfl) ?_
              refine L_nil ?_
              refine Q_then ?_
              refine J_gsplit (t := 70) rfl (fun h70 => ?_) (fun h70 => ?_)
              ·
                refine C_true rfl ?_
                refine J_region ?_
                refine L_op (x_call Try.func111 nm111 bd111 (.cons rfl (.cons rfl .nil)) rfl (join _ _) fun x => ?_)
                refine L_pur rfl (p_fieldAddr rfl fa39_3) ?_
                refine L_op (x_store rfl rfl ty37 rfl (by first | rfl | (simp [*]; done)) (by first | rfl | (simp [*]; done)) (by repeat (first | with_reducible exact Rep1.here | with_reducible apply Rep1.there)) (by first | exact Put.full rfl | ((repeat constructor); done) | exact Put.full (by first | rfl | simp [*])) ?_)
                refine L_nil ?_
                refine Q_then ?_
                refine J_seq ?_
                refine J_region ?_
                refine L_pur rfl (p_fieldAddr rfl fa39_5) ?_
                refine L_op (x_store rfl rfl ty37 rfl (by first | rfl | (simp [*]; done)) (by first | rfl | (simp [*]; done)) (by repeat (first | with_reducible exact Rep1.here | with_reducible apply Rep1.there)) (by first | exact Put.full rfl | ((repeat constructor); done) | exact Put.full (by first | rfl | simp [*])) ?_)
                refine L_nil ?_
                refine Q_then ?_
                refine J_seq ?_
                refine J_region ?_
                refine L_pur rfl (p_fieldAddr rfl fa39_0) ?_
                refine L_val rfl (v_load rfl ty3 (by repeat (first | with_reducible exact Has.here | with_reducible assumption | with_reducible apply Has.there)) (by exact rfl)) ?_
                refine L_pur rfl (p_eql rfl rfl) ?_
                refine L_pur rfl (p_move rfl) ?_
                refine J_gsplit (t := 77) rfl (fun h77 => ?_) (fun h77 => ?_)
                ·
                  refine L_op (G_on rfl rfl rfl ?_)
                  refine J_pur (p_move rfl) rfl rfl rfl ?_
                  refine L_op (G_on rfl rfl rfl ?_)
                  refine x_call Try.func81 nm81 bd81 (.cons rfl (.cons rfl .nil)) rfl (next (zs := zs) (by repeat (first | with_reducible exact Pick.here | with_reducible assumption | with_reducible apply Pick.there)) (fun w H => hr w (Sub.sep (by repeat (first | exact Sub.nil | exact Sub.refl | refine Sub.cons (by repeat (first | exact Pick.here | apply Pick.there)) ?_ | refine Sub.drop ?_)) H)) (by omega) (by omega) (by omega)) fun x79 => ?_
                  refine J_pure fun hx79 => ?_
                  refine L_op (G_on rfl rfl rfl ?_)
                  refine J_pur (p_eql rfl rfl) rfl rfl rfl ?_
                  refine L_pur rfl (p_pick_t rfl rfl) ?_
                  refine L_nil ?_
                  refine Q_then ?_
                  refine J_gsplit (t := 81) rfl (fun h81 => ?_) (fun h81 => ?_)
                  ·
                    refine C_true rfl ?_
                    refine J_region ?_
                    refine L_op (x_call Try.func111 nm111 bd111 (.cons rfl (.cons rfl .nil)) rfl (join _ _) fun x => ?_)
                    refine L_pur rfl (p_fieldAddr rfl fa39_5) ?_
                    refine L_op (x_store rfl rfl ty37 rfl (by first | rfl | (simp [*]; done)) (by first | rfl | (simp [*]; done)) (by repeat (first | with_reducible exact Rep1.here | with_reducible apply Rep1.there)) (by first | exact Put.full rfl | ((repeat constructor); done) | exact Put.full (by first | rfl | simp [*])) ?_)
                    refine L_nil ?_
                    refine Q_blk_normal ?_
                    refine Q_then ?_
                    refine J_pick (A := blk b3 39 _) (by repeat (first | with_reducible exact Pick.here | with_reducible assumption | with_reducible apply Pick.there)) ?_
                    refine J_closeS ?_
                    refine J_pick (A := sA b v _) (by repeat (first | with_reducible exact Pick.here | with_reducible assumption | with_reducible apply Pick.there)) ?_
                    refine J_sUp (lo' := lo + 25) (by omega) ?_
                    exact J_at (L := (fun _ : Unit => eA b3 :: sA b v (lo + 25) :: blk b2 39 [.int .i64 0, .int .i64 0, .int .u32 0, .int .u32 0, .int .u32 0, .int .u32 0, .int .u32 0, .int .u32 0] :: m)) (G := (fun _ : Unit => [(0, .pointer (some ⟨b, 0, none⟩)), (2, .pointer (some ⟨b2, 0, none⟩)), (3, .pointer (some ⟨b3, 0, none⟩))])) () (by repeat (first | exact Sub.nil | exact Sub.refl | refine Sub.cons (by repeat (first | exact Pick.here | apply Pick.there)) ?_ | refine Sub.drop ?_)) (by repeat (first | exact Keep.nil | refine Keep.cons rfl ?_))
                  ·
                    refine C_false rfl ?_
                    refine J_skip ?_
                    refine Q_blk_normal ?_
                    refine Q_then ?_
                    refine J_pick (A := blk b3 39 _) (by repeat (first | with_reducible exact Pick.here | with_reducible assumption | with_reducible apply Pick.there)) ?_
                    refine J_closeS ?_
                    refine J_pick (A := sA b v _) (by repeat (first | with_reducible exact Pick.here | with_reducible assumption | with_reducible apply Pick.there)) ?_
                    refine J_sUp (lo' := lo + 25) (by omega) ?_
                    exact J_at (L := (fun _ : Unit => eA b3 :: sA b v (lo + 25) :: blk b2 39 [.int .i64 0, .int .i64 0, .int .u32 0, .int .u32 0, .int .u32 0, .int .u32 0, .int .u32 0, .int .u32 0] :: m)) (G := (fun _ : Unit => [(0, .pointer (some ⟨b, 0, none⟩)), (2, .pointer (some ⟨b2, 0, none⟩)), (3, .pointer (some ⟨b3, 0, none⟩))])) () (by repeat (first | exact Sub.nil | exact Sub.refl | refine Sub.cons (by repeat (first | exact Pick.here | apply Pick.there)) ?_ | refine Sub.drop ?_)) (by repeat (first | exact Keep.nil | refine Keep.cons rfl ?_))
                ·
                  refine L_op (G_off rfl rfl rfl rfl rfl rfl ?_)
                  refine L_op (G_off rfl rfl rfl rfl rfl rfl ?_)
                  refine L_op (G_off rfl rfl rfl rfl rfl rfl ?_)
                  refine L_pur rfl (p_pick_f rfl rfl) ?_
                  refine L_nil ?_
                  refine Q_then ?_
                  refine C_false rfl ?_
                  refine J_skip ?_
                  refine Q_blk_normal ?_
                  refine Q_then ?_
                  refine J_pick (A := blk b3 39 _) (by repeat (first | with_reducible exact Pick.here | with_reducible assumption | with_reducible apply Pick.there)) ?_
                  refine J_closeS ?_
                  refine J_pick (A := sA b v _) (by repeat (first | with_reducible exact Pick.here | with_reducible assumption | with_reducible apply Pick.there)) ?_
                  refine J_sUp (lo' := lo + 25) (by omega) ?_
                  exact J_at (L := (fun _ : Unit => eA b3 :: sA b v (lo + 25) :: blk b2 39 [.int .i64 0, .int .i64 0, .int .u32 0, .int .u32 0, .int .u32 0, .int .u32 0, .int .u32 0, .int .u32 0] :: m)) (G := (fun _ : Unit => [(0, .pointer (some ⟨b, 0, none⟩)), (2, .pointer (some ⟨b2, 0, none⟩)), (3, .pointer (some ⟨b3, 0, none⟩))])) () (by repeat (first | exact Sub.nil | exact Sub.refl | refine Sub.cons (by repeat (first | exact Pick.here | apply Pick.there)) ?_ | refine Sub.drop ?_)) (by repeat (first | exact Keep.nil | refine Keep.cons rfl ?_))
              ·
                refine C_false rfl ?_
                refine J_skip ?_
                refine Q_then ?_
                refine J_seq ?_
                refine J_region ?_
                refine L_pur rfl (p_fieldAddr rfl fa39_5) ?_
                refine L_op (x_store rfl rfl ty37 rfl (by first | rfl | (simp [*]; done)) (by first | rfl | (simp [*]; done)) (by repeat (first | with_reducible exact Rep1.here | with_reducible apply Rep1.there)) (by first | exact Put.full rfl | ((repeat constructor); done) | exact Put.full (by first | rfl | simp [*])) ?_)
                refine L_nil ?_
                refine Q_then ?_
                refine J_seq ?_
                refine J_region ?_
                refine L_pur rfl (p_fieldAddr rfl fa39_0) ?_
                refine L_val rfl (v_load rfl ty3 (by repeat (first | with_reducible exact Has.here | with_reducible assumption | with_reducible apply Has.there)) (by exact rfl)) ?_
                refine L_pur rfl (p_eql rfl rfl) ?_
                refine L_pur rfl (p_move rfl) ?_
                refine J_gsplit (t := 77) rfl (fun h77 => ?_) (fun h77 => ?_)
                ·
                  refine L_op (G_on rfl rfl rfl ?_)
                  refine J_pur (p_move rfl) rfl rfl rfl ?_
                  refine L_op (G_on rfl rfl rfl ?_)
                  refine x_call Try.func81 nm81 bd81 (.cons rfl (.cons rfl .nil)) rfl (next (zs := zs) (by repeat (first | with_reducible exact Pick.here | with_reducible assumption | with_reducible apply Pick.there)) (fun w H => hr w (Sub.sep (by repeat (first | exact Sub.nil | exact Sub.refl | refine Sub.cons (by repeat (first | exact Pick.here | apply Pick.there)) ?_ | refine Sub.drop ?_)) H)) (by omega) (by omega) (by omega)) fun x79 => ?_
                  refine J_pure fun hx79 => ?_
                  refine L_op (G_on rfl rfl rfl ?_)
                  refine J_pur (p_eql rfl rfl) rfl rfl rfl ?_
                  refine L_pur rfl (p_pick_t rfl rfl) ?_
                  refine L_nil ?_
                  refine Q_then ?_
                  refine J_gsplit (t := 81) rfl (fun h81 => ?_) (fun h81 => ?_)
                  ·
                    refine C_true rfl ?_
                    refine J_region ?_
                    refine L_op (x_call Try.func111 nm111 bd111 (.cons rfl (.cons rfl .nil)) rfl (join _ _) fun x => ?_)
                    refine L_pur rfl (p_fieldAddr rfl fa39_5) ?_
                    refine L_op (x_store rfl rfl ty37 rfl (by first | rfl | (simp [*]; done)) (by first | rfl | (simp [*]; done)) (by repeat (first | with_reducible exact Rep1.here | with_reducible apply Rep1.there)) (by first | exact Put.full rfl | ((repeat constructor); done) | exact Put.full (by first | rfl | simp [*])) ?_)
                    refine L_nil ?_
                    refine Q_blk_normal ?_
                    refine Q_then ?_
                    refine J_pick (A := blk b3 39 _) (by repeat (first | with_reducible exact Pick.here | with_reducible assumption | with_reducible apply Pick.there)) ?_
                    refine J_closeS ?_
                    refine J_pick (A := sA b v _) (by repeat (first | with_reducible exact Pick.here | with_reducible assumption | with_reducible apply Pick.there)) ?_
                    refine J_sUp (lo' := lo + 25) (by omega) ?_
                    exact J_at (L := (fun _ : Unit => eA b3 :: sA b v (lo + 25) :: blk b2 39 [.int .i64 0, .int .i64 0, .int .u32 0, .int .u32 0, .int .u32 0, .int .u32 0, .int .u32 0, .int .u32 0] :: m)) (G := (fun _ : Unit => [(0, .pointer (some ⟨b, 0, none⟩)), (2, .pointer (some ⟨b2, 0, none⟩)), (3, .pointer (some ⟨b3, 0, none⟩))])) () (by repeat (first | exact Sub.nil | exact Sub.refl | refine Sub.cons (by repeat (first | exact Pick.here | apply Pick.there)) ?_ | refine Sub.drop ?_)) (by repeat (first | exact Keep.nil | refine Keep.cons rfl ?_))
                  ·
                    refine C_false rfl ?_
                    refine J_skip ?_
                    refine Q_blk_normal ?_
                    refine Q_then ?_
                    refine J_pick (A := blk b3 39 _) (by repeat (first | with_reducible exact Pick.here | with_reducible assumption | with_reducible apply Pick.there)) ?_
                    refine J_closeS ?_
                    refine J_pick (A := sA b v _) (by repeat (first | with_reducible exact Pick.here | with_reducible assumption | with_reducible apply Pick.there)) ?_
                    refine J_sUp (lo' := lo + 25) (by omega) ?_
                    exact J_at (L := (fun _ : Unit => eA b3 :: sA b v (lo + 25) :: blk b2 39 [.int .i64 0, .int .i64 0, .int .u32 0, .int .u32 0, .int .u32 0, .int .u32 0, .int .u32 0, .int .u32 0] :: m)) (G := (fun _ : Unit => [(0, .pointer (some ⟨b, 0, none⟩)), (2, .pointer (some ⟨b2, 0, none⟩)), (3, .pointer (some ⟨b3, 0, none⟩))])) () (by repeat (first | exact Sub.nil | exact Sub.refl | refine Sub.cons (by repeat (first | exact Pick.here | apply Pick.there)) ?_ | refine Sub.drop ?_)) (by repeat (first | exact Keep.nil | refine Keep.cons rfl ?_))
                ·
                  refine L_op (G_off rfl rfl rfl rfl rfl rfl ?_)
                  refine L_op (G_off rfl rfl rfl rfl rfl rfl ?_)
                  refine L_op (G_off rfl rfl rfl rfl rfl rfl ?_)
                  refine L_pur rfl (p_pick_f rfl rfl) ?_
                  refine L_nil ?_
                  refine Q_then ?_
                  refine C_false rfl ?_
                  refine J_skip ?_
                  refine Q_blk_normal ?_
                  refine Q_then ?_
                  refine J_pick (A := blk b3 39 _) (by repeat (first | with_reducible exact Pick.here | with_reducible assumption | with_reducible apply Pick.there)) ?_
                  refine J_closeS ?_
                  refine J_pick (A := sA b v _) (by repeat (first | with_reducible exact Pick.here | with_reducible assumption | with_reducible apply Pick.there)) ?_
                  refine J_sUp (lo' := lo + 25) (by omega) ?_
                  exact J_at (L := (fun _ : Unit => eA b3 :: sA b v (lo + 25) :: blk b2 39 [.int .i64 0, .int .i64 0, .int .u32 0, .int .u32 0, .int .u32 0, .int .u32 0, .int .u32 0, .int .u32 0] :: m)) (G := (fun _ : Unit => [(0, .pointer (some ⟨b, 0, none⟩)), (2, .pointer (some ⟨b2, 0, none⟩)), (3, .pointer (some ⟨b3, 0, none⟩))])) () (by repeat (first | exact Sub.nil | exact Sub.refl | refine Sub.cons (by repeat (first | exact Pick.here | apply Pick.there)) ?_ | refine Sub.drop ?_)) (by repeat (first | exact Keep.nil | refine Keep.cons rfl ?_))
            ·
              refine C_false rfl ?_
              refine J_seq ?_
              refine J_region ?_
              refine L_pur rfl (p_eql rfl rfl) ?_
              refine L_pur rfl (p_assign rfl) ?_
              refine L_nil ?_
              refine Q_then ?_
              refine J_gsplit (t := 64) rfl (fun h64 => ?_) (fun h64 => ?_)
              ·
                refine C_true rfl ?_
                refine J_skip ?_
                refine Q_then ?_
                refine C_true rfl ?_
                refine J_seq ?_
                refine J_seq ?_
                refine J_region ?_
                refine L_pur rfl (p_move rfl) ?_
                refine L_op (x_call Try.func81 nm81 bd81 (.cons rfl (.cons rfl .nil)) rfl (next (zs := zs) (by repeat (first | with_reducible exact Pick.here | with_reducible assumption | with_reducible apply Pick.there)) (fun w H => hr w (Sub.sep (by repeat (first | exact Sub.nil | exact Sub.refl | refine Sub.cons (by repeat (first | exact Pick.here | apply Pick.there)) ?_ | refine Sub.drop ?_)) H)) (by omega) (by omega) (by omega)) fun x69 => ?_)
                refine J_pure fun hx69 => ?_
                refine L_pur rfl (p_gtr rfl rfl) ?_
                refine L_nil ?_
                refine Q_then ?_
                refine J_gsplit (t := 70) rfl (fun h70 => ?_) (fun h70 => ?_)
                ·
                  refine C_true rfl ?_
                  refine J_region ?_
                  refine L_op (x_call Try.func111 nm111 bd111 (.cons rfl (.cons rfl .nil)) rfl (join _ _) fun x => ?_)
                  refine L_pur rfl (p_fieldAddr rfl fa39_3) ?_
                  refine L_op (x_store rfl rfl ty37 rfl (by first | rfl | (simp [*]; done)) (by first | rfl | (simp [*]; done)) (by repeat (first | with_reducible exact Rep1.here | with_reducible apply Rep1.there)) (by first | exact Put.full rfl | ((repeat constructor); done) | exact Put.full (by first | rfl | simp [*])) ?_)
                  refine L_nil ?_
                  refine Q_then ?_
                  refine J_seq ?_
                  refine J_region ?_
                  refine L_pur rfl (p_fieldAddr rfl fa39_5) ?_
                  refine L_op (x_store rfl rfl ty37 rfl (by first | rfl | (simp [*]; done)) (by first | rfl | (simp [*]; done)) (by repeat (first | with_reducible exact Rep1.here | with_reducible apply Rep1.there)) (by first | exact Put.full rfl | ((repeat constructor); done) | exact Put.full (by first | rfl | simp [*])) ?_)
                  refine L_nil ?_
                  refine Q_then ?_
                  refine J_seq ?_
                  refine J_region ?_
                  refine L_pur rfl (p_fieldAddr rfl fa39_0) ?_
                  refine L_val rfl (v_load rfl ty3 (by repeat (first | with_reducible exact Has.here | with_reducible assumption | with_reducible apply Has.there)) (by exact rfl)) ?_
                  refine L_pur rfl (p_eql rfl rfl) ?_
                  refine L_pur rfl (p_move rfl) ?_
                  refine J_gsplit (t := 77) rfl (fun h77 => ?_) (fun h77 => ?_)
                  ·
                    refine L_op (G_on rfl rfl rfl ?_)
                    refine J_pur (p_move rfl) rfl rfl rfl ?_
                    refine L_op (G_on rfl rfl rfl ?_)
                    refine x_call Try.func81 nm81 bd81 (.cons rfl (.cons rfl .nil)) rfl (next (zs := zs) (by repeat (first | with_reducible exact Pick.here | with_reducible assumption | with_reducible apply Pick.there)) (fun w H => hr w (Sub.sep (by repeat (first | exact Sub.nil | exact Sub.refl | refine Sub.cons (by repeat (first | exact Pick.here | apply Pick.there)) ?_ | refine Sub.drop ?_)) H)) (by omega) (by omega) (by omega)) fun x79 => ?_
                    refine J_pure fun hx79 => ?_
                    refine L_op (G_on rfl rfl rfl ?_)
                    refine J_pur (p_eql rfl rfl) rfl rfl rfl ?_
                    refine L_pur rfl (p_pick_t rfl rfl) ?_
                    refine L_nil ?_
                    refine Q_then ?_
                    refine J_gsplit (t := 81) rfl (fun h81 => ?_) (fun h81 => ?_)
                    ·
                      refine C_true rfl ?_
                      refine J_region ?_
                      refine L_op (x_call Try.func111 nm111 bd111 (.cons rfl (.cons rfl .nil)) rfl (join _ _) fun x => ?_)
                      refine L_pur rfl (p_fieldAddr rfl fa39_5) ?_
                      refine L_op (x_store rfl rfl ty37 rfl (by first | rfl | (simp [*]; done)) (by first | rfl | (simp [*]; done)) (by repeat (first | with_reducible exact Rep1.here | with_reducible apply Rep1.there)) (by first | exact Put.full rfl | ((repeat constructor); done) | exact Put.full (by first | rfl | simp [*])) ?_)
                      refine L_nil ?_
                      refine Q_blk_normal ?_
                      refine Q_then ?_
                      refine J_pick (A := blk b3 39 _) (by repeat (first | with_reducible exact Pick.here | with_reducible assumption | with_reducible apply Pick.there)) ?_
                      refine J_closeS ?_
                      refine J_pick (A := sA b v _) (by repeat (first | with_reducible exact Pick.here | with_reducible assumption | with_reducible apply Pick.there)) ?_
                      refine J_sUp (lo' := lo + 25) (by omega) ?_
                      exact J_at (L := (fun _ : Unit => eA b3 :: sA b v (lo + 25) :: blk b2 39 [.int .i64 0, .int .i64 0, .int .u32 0, .int .u32 0, .int .u32 0, .int .u32 0, .int .u32 0, .int .u32 0] :: m)) (G := (fun _ : Unit => [(0, .pointer (some ⟨b, 0, none⟩)), (2, .pointer (some ⟨b2, 0, none⟩)), (3, .pointer (some ⟨b3, 0, none⟩))])) () (by repeat (first | exact Sub.nil | exact Sub.refl | refine Sub.cons (by repeat (first | exact Pick.here | apply Pick.there)) ?_ | refine Sub.drop ?_)) (by repeat (first | exact Keep.nil | refine Keep.cons rfl ?_))
                    ·
                      refine C_false rfl ?_
                      refine J_skip ?_
                      refine Q_blk_normal ?_
                      refine Q_then ?_
                      refine J_pick (A := blk b3 39 _) (by repeat (first | with_reducible exact Pick.here | with_reducible assumption | with_reducible apply Pick.there)) ?_
                      refine J_closeS ?_
                      refine J_pick (A := sA b v _) (by repeat (first | with_reducible exact Pick.here | with_reducible assumption | with_reducible apply Pick.there)) ?_
                      refine J_sUp (lo' := lo + 25) (by omega) ?_
                      exact J_at (L := (fun _ : Unit => eA b3 :: sA b v (lo + 25) :: blk b2 39 [.int .i64 0, .int .i64 0, .int .u32 0, .int .u32 0, .int .u32 0, .int .u32 0, .int .u32 0, .int .u32 0] :: m)) (G := (fun _ : Unit => [(0, .pointer (some ⟨b, 0, none⟩)), (2, .pointer (some ⟨b2, 0, none⟩)), (3, .pointer (some ⟨b3, 0, none⟩))])) () (by repeat (first | exact Sub.nil | exact Sub.refl | refine Sub.cons (by repeat (first | exact Pick.here | apply Pick.there)) ?_ | refine Sub.drop ?_)) (by repeat (first | exact Keep.nil | refine Keep.cons rfl ?_))
                  ·
                    refine L_op (G_off rfl rfl rfl rfl rfl rfl ?_)
                    refine L_op (G_off rfl rfl rfl rfl rfl rfl ?_)
                    refine L_op (G_off rfl rfl rfl rfl rfl rfl ?_)
                    refine L_pur rfl (p_pick_f rfl rfl) ?_
                    refine L_nil ?_
                    refine Q_then ?_
                    refine C_false rfl ?_
                    refine J_skip ?_
                    refine Q_blk_normal ?_
                    refine Q_then ?_
                    refine J_pick (A := blk b3 39 _) (by repeat (first | with_reducible exact Pick.here | with_reducible assumption | with_reducible apply Pick.there)) ?_
                    refine J_closeS ?_
                    refine J_pick (A := sA b v _) (by repeat (first | with_reducible exact Pick.here | with_reducible assumption | with_reducible apply Pick.there)) ?_
                    refine J_sUp (lo' := lo + 25) (by omega) ?_
                    exact J_at (L := (fun _ : Unit => eA b3 :: sA b v (lo + 25) :: blk b2 39 [.int .i64 0, .int .i64 0, .int .u32 0, .int .u32 0, .int .u32 0, .int .u32 0, .int .u32 0, .int .u32 0] :: m)) (G := (fun _ : Unit => [(0, .pointer (some ⟨b, 0, none⟩)), (2, .pointer (some ⟨b2, 0, none⟩)), (3, .pointer (some ⟨b3, 0, none⟩))])) () (by repeat (first | exact Sub.nil | exact Sub.refl | refine Sub.cons (by repeat (first | exact Pick.here | apply Pick.there)) ?_ | refine Sub.drop ?_)) (by repeat (first | exact Keep.nil | refine Keep.cons rfl ?_))
                ·
                  refine C_false rfl ?_
                  refine J_skip ?_
                  refine Q_then ?_
                  refine J_seq ?_
                  refine J_region ?_
                  refine L_pur rfl (p_fieldAddr rfl fa39_5) ?_
                  refine L_op (x_store rfl rfl ty37 rfl (by first | rfl | (simp [*]; done)) (by first | rfl | (simp [*]; done)) (by repeat (first | with_reducible exact Rep1.here | with_reducible apply Rep1.there)) (by first | exact Put.full rfl | ((repeat constructor); done) | exact Put.full (by first | rfl | simp [*])) ?_)
                  refine L_nil ?_
                  refine Q_then ?_
                  refine J_seq ?_
                  refine J_region ?_
                  refine L_pur rfl (p_fieldAddr rfl fa39_0) ?_
                  refine L_val rfl (v_load rfl ty3 (by repeat (first | with_reducible exact Has.here | with_reducible assumption | with_reducible apply Has.there)) (by exact rfl)) ?_
                  refine L_pur rfl (p_eql rfl rfl) ?_
                  refine L_pur rfl (p_move rfl) ?_
                  refine J_gsplit (t := 77) rfl (fun h77 => ?_) (fun h77 => ?_)
                  ·
                    refine L_op (G_on rfl rfl rfl ?_)
                    refine J_pur (p_move rfl) rfl rfl rfl ?_
                    refine L_op (G_on rfl rfl rfl ?_)
                    refine x_call Try.func81 nm81 bd81 (.cons rfl (.cons rfl .nil)) rfl (next (zs := zs) (by repeat (first | with_reducible exact Pick.here | with_reducible assumption | with_reducible apply Pick.there)) (fun w H => hr w (Sub.sep (by repeat (first | exact Sub.nil | exact Sub.refl | refine Sub.cons (by repeat (first | exact Pick.here | apply Pick.there)) ?_ | refine Sub.drop ?_)) H)) (by omega) (by omega) (by omega)) fun x79 => ?_
                    refine J_pure fun hx79 => ?_
                    refine L_op (G_on rfl rfl rfl ?_)
                    refine J_pur (p_eql rfl rfl) rfl rfl rfl ?_
                    refine L_pur rfl (p_pick_t rfl rfl) ?_
                    refine L_nil ?_
                    refine Q_then ?_
                    refine J_gsplit (t := 81) rfl (fun h81 => ?_) (fun h81 => ?_)
                    ·
                      refine C_true rfl ?_
                      refine J_region ?_
                      refine L_op (x_call Try.func111 nm111 bd111 (.cons rfl (.cons rfl .nil)) rfl (join _ _) fun x => ?_)
                      refine L_pur rfl (p_fieldAddr rfl fa39_5) ?_
                      refine L_op (x_store rfl rfl ty37 rfl (by first | rfl | (simp [*]; done)) (by first | rfl | (simp [*]; done)) (by repeat (first | with_reducible exact Rep1.here | with_reducible apply Rep1.there)) (by first | exact Put.full rfl | ((repeat constructor); done) | exact Put.full (by first | rfl | simp [*])) ?_)
                      refine L_nil ?_
                      refine Q_blk_normal ?_
                      refine Q_then ?_
                      refine J_pick (A := blk b3 39 _) (by repeat (first | with_reducible exact Pick.here | with_reducible assumption | with_reducible apply Pick.there)) ?_
                      refine J_closeS ?_
                      refine J_pick (A := sA b v _) (by repeat (first | with_reducible exact Pick.here | with_reducible assumption | with_reducible apply Pick.there)) ?_
                      refine J_sUp (lo' := lo + 25) (by omega) ?_
                      exact J_at (L := (fun _ : Unit => eA b3 :: sA b v (lo + 25) :: blk b2 39 [.int .i64 0, .int .i64 0, .int .u32 0, .int .u32 0, .int .u32 0, .int .u32 0, .int .u32 0, .int .u32 0] :: m)) (G := (fun _ : Unit => [(0, .pointer (some ⟨b, 0, none⟩)), (2, .pointer (some ⟨b2, 0, none⟩)), (3, .pointer (some ⟨b3, 0, none⟩))])) () (by repeat (first | exact Sub.nil | exact Sub.refl | refine Sub.cons (by repeat (first | exact Pick.here | apply Pick.there)) ?_ | refine Sub.drop ?_)) (by repeat (first | exact Keep.nil | refine Keep.cons rfl ?_))
                    ·
                      refine C_false rfl ?_
                      refine J_skip ?_
                      refine Q_blk_normal ?_
                      refine Q_then ?_
                      refine J_pick (A := blk b3 39 _) (by repeat (first | with_reducible exact Pick.here | with_reducible assumption | with_reducible apply Pick.there)) ?_
                      refine J_closeS ?_
                      refine J_pick (A := sA b v _) (by repeat (first | with_reducible exact Pick.here | with_reducible assumption | with_reducible apply Pick.there)) ?_
                      refine J_sUp (lo' := lo + 25) (by omega) ?_
                      exact J_at (L := (fun _ : Unit => eA b3 :: sA b v (lo + 25) :: blk b2 39 [.int .i64 0, .int .i64 0, .int .u32 0, .int .u32 0, .int .u32 0, .int .u32 0, .int .u32 0, .int .u32 0] :: m)) (G := (fun _ : Unit => [(0, .pointer (some ⟨b, 0, none⟩)), (2, .pointer (some ⟨b2, 0, none⟩)), (3, .pointer (some ⟨b3, 0, none⟩))])) () (by repeat (first | exact Sub.nil | exact Sub.refl | refine Sub.cons (by repeat (first | exact Pick.here | apply Pick.there)) ?_ | refine Sub.drop ?_)) (by repeat (first | exact Keep.nil | refine Keep.cons rfl ?_))
                  ·
                    refine L_op (G_off rfl rfl rfl rfl rfl rfl ?_)
                    refine L_op (G_off rfl rfl rfl rfl rfl rfl ?_)
                    refine L_op (G_off rfl rfl rfl rfl rfl rfl ?_)
                    refine L_pur rfl (p_pick_f rfl rfl) ?_
                    refine L_nil ?_
                    refine Q_then ?_
                    refine C_false rfl ?_
                    refine J_skip ?_
                    refine Q_blk_normal ?_
                    refine Q_then ?_
                    refine J_pick (A := blk b3 39 _) (by repeat (first | with_reducible exact Pick.here | with_reducible assumption | with_reducible apply Pick.there)) ?_
                    refine J_closeS ?_
                    refine J_pick (A := sA b v _) (by repeat (first | with_reducible exact Pick.here | with_reducible assumption | with_reducible apply Pick.there)) ?_
                    refine J_sUp (lo' := lo + 25) (by omega) ?_
                    exact J_at (L := (fun _ : Unit => eA b3 :: sA b v (lo + 25) :: blk b2 39 [.int .i64 0, .int .i64 0, .int .u32 0, .int .u32 0, .int .u32 0, .int .u32 0, .int .u32 0, .int .u32 0] :: m)) (G := (fun _ : Unit => [(0, .pointer (some ⟨b, 0, none⟩)), (2, .pointer (some ⟨b2, 0, none⟩)), (3, .pointer (some ⟨b3, 0, none⟩))])) () (by repeat (first | exact Sub.nil | exact Sub.refl | refine Sub.cons (by repeat (first | exact Pick.here | apply Pick.there)) ?_ | refine Sub.drop ?_)) (by repeat (first | exact Keep.nil | refine Keep.cons rfl ?_))
              ·
                refine C_false rfl ?_
                refine J_region ?_
                refine L_pur rfl (p_eql rfl rfl) ?_
                refine L_pur rfl (p_assign rfl) ?_
                refine L_nil ?_
                refine Q_then ?_
                refine J_gsplit (t := 64) rfl (fun h64 => ?_) (fun h64 => ?_)
                ·
                  refine C_true rfl ?_
                  refine J_seq ?_
                  refine J_seq ?_
                  refine J_region ?_
                  refine L_pur rfl (p_move rfl) ?_
                  refine L_op (x_call Try.func81 nm81 bd81 (.cons rfl (.cons rfl .nil)) rfl (next (zs := zs) (by repeat (first | with_reducible exact Pick.here | with_reducible assumption | with_reducible apply Pick.there)) (fun w H => hr w (Sub.sep (by repeat (first | exact Sub.nil | exact Sub.refl | refine Sub.cons (by repeat (first | exact Pick.here | apply Pick.there)) ?_ | refine Sub.drop ?_)) H)) (by omega) (by omega) (by omega)) fun x69 => ?_)
                  refine J_pure fun hx69 => ?_
                  refine L_pur rfl (p_gtr rfl rfl) ?_
                  refine L_nil ?_
                  refine Q_then ?_
                  refine J_gsplit (t := 70) rfl (fun h70 => ?_) (fun h70 => ?_)
                  ·
                    refine C_true rfl ?_
                    refine J_region ?_
                    refine L_op (x_call Try.func111 nm111 bd111 (.cons rfl (.cons rfl .nil)) rfl (join _ _) fun x => ?_)
                    refine L_pur rfl (p_fieldAddr rfl fa39_3) ?_
                    refine L_op (x_store rfl rfl ty37 rfl (by first | rfl | (simp [*]; done)) (by first | rfl | (simp [*]; done)) (by repeat (first | with_reducible exact Rep1.here | with_reducible apply Rep1.there)) (by first | exact Put.full rfl | ((repeat constructor); done) | exact Put.full (by first | rfl | simp [*])) ?_)
                    refine L_nil ?_
                    refine Q_then ?_
                    refine J_seq ?_
                    refine J_region ?_
                    refine L_pur rfl (p_fieldAddr rfl fa39_5) ?_
                    refine L_op (x_store rfl rfl ty37 rfl (by first | rfl | (simp [*]; done)) (by first | rfl | (simp [*]; done)) (by repeat (first | with_reducible exact Rep1.here | with_reducible apply Rep1.there)) (by first | exact Put.full rfl | ((repeat constructor); done) | exact Put.full (by first | rfl | simp [*])) ?_)
                    refine L_nil ?_
                    refine Q_then ?_
                    refine J_seq ?_
                    refine J_region ?_
                    refine L_pur rfl (p_fieldAddr rfl fa39_0) ?_
                    refine L_val rfl (v_load rfl ty3 (by repeat (first | with_reducible exact Has.here | with_reducible assumption | with_reducible apply Has.there)) (by exact rfl)) ?_
                    refine L_pur rfl (p_eql rfl rfl) ?_
                    refine L_pur rfl (p_move rfl) ?_
                    refine J_gsplit (t := 77) rfl (fun h77 => ?_) (fun h77 => ?_)
                    ·
                      refine L_op (G_on rfl rfl rfl ?_)
                      refine J_pur (p_move rfl) rfl rfl rfl ?_
                      refine L_op (G_on rfl rfl rfl ?_)
                      refine x_call Try.func81 nm81 bd81 (.cons rfl (.cons rfl .nil)) rfl (next (zs := zs) (by repeat (first | with_reducible exact Pick.here | with_reducible assumption | with_reducible apply Pick.there)) (fun w H => hr w (Sub.sep (by repeat (first | exact Sub.nil | exact Sub.refl | refine Sub.cons (by repeat (first | exact Pick.here | apply Pick.there)) ?_ | refine Sub.drop ?_)) H)) (by omega) (by omega) (by omega)) fun x79 => ?_
                      refine J_pure fun hx79 => ?_
                      refine L_op (G_on rfl rfl rfl ?_)
                      refine J_pur (p_eql rfl rfl) rfl rfl rfl ?_
                      refine L_pur rfl (p_pick_t rfl rfl) ?_
                      refine L_nil ?_
                      refine Q_then ?_
                      refine J_gsplit (t := 81) rfl (fun h81 => ?_) (fun h81 => ?_)
                      ·
                        refine C_true rfl ?_
                        refine J_region ?_
                        refine L_op (x_call Try.func111 nm111 bd111 (.cons rfl (.cons rfl .nil)) rfl (join _ _) fun x => ?_)
                        refine L_pur rfl (p_fieldAddr rfl fa39_5) ?_
                        refine L_op (x_store rfl rfl ty37 rfl (by first | rfl | (simp [*]; done)) (by first | rfl | (simp [*]; done)) (by repeat (first | with_reducible exact Rep1.here | with_reducible apply Rep1.there)) (by first | exact Put.full rfl | ((repeat constructor); done) | exact Put.full (by first | rfl | simp [*])) ?_)
                        refine L_nil ?_
                        refine Q_blk_normal ?_
                        refine Q_then ?_
                        refine J_pick (A := blk b3 39 _) (by repeat (first | with_reducible exact Pick.here | with_reducible assumption | with_reducible apply Pick.there)) ?_
                        refine J_closeS ?_
                        refine J_pick (A := sA b v _) (by repeat (first | with_reducible exact Pick.here | with_reducible assumption | with_reducible apply Pick.there)) ?_
                        refine J_sUp (lo' := lo + 25) (by omega) ?_
                        exact J_at (L := (fun _ : Unit => eA b3 :: sA b v (lo + 25) :: blk b2 39 [.int .i64 0, .int .i64 0, .int .u32 0, .int .u32 0, .int .u32 0, .int .u32 0, .int .u32 0, .int .u32 0] :: m)) (G := (fun _ : Unit => [(0, .pointer (some ⟨b, 0, none⟩)), (2, .pointer (some ⟨b2, 0, none⟩)), (3, .pointer (some ⟨b3, 0, none⟩))])) () (by repeat (first | exact Sub.nil | exact Sub.refl | refine Sub.cons (by repeat (first | exact Pick.here | apply Pick.there)) ?_ | refine Sub.drop ?_)) (by repeat (first | exact Keep.nil | refine Keep.cons rfl ?_))
                      ·
                        refine C_false rfl ?_
                        refine J_skip ?_
                        refine Q_blk_normal ?_
                        refine Q_then ?_
                        refine J_pick (A := blk b3 39 _) (by repeat (first | with_reducible exact Pick.here | with_reducible assumption | with_reducible apply Pick.there)) ?_
                        refine J_closeS ?_
                        refine J_pick (A := sA b v _) (by repeat (first | with_reducible exact Pick.here | with_reducible assumption | with_reducible apply Pick.there)) ?_
                        refine J_sUp (lo' := lo + 25) (by omega) ?_
                        exact J_at (L := (fun _ : Unit => eA b3 :: sA b v (lo + 25) :: blk b2 39 [.int .i64 0, .int .i64 0, .int .u32 0, .int .u32 0, .int .u32 0, .int .u32 0, .int .u32 0, .int .u32 0] :: m)) (G := (fun _ : Unit => [(0, .pointer (some ⟨b, 0, none⟩)), (2, .pointer (some ⟨b2, 0, none⟩)), (3, .pointer (some ⟨b3, 0, none⟩))])) () (by repeat (first | exact Sub.nil | exact Sub.refl | refine Sub.cons (by repeat (first | exact Pick.here | apply Pick.there)) ?_ | refine Sub.drop ?_)) (by repeat (first | exact Keep.nil | refine Keep.cons rfl ?_))
                    ·
                      refine L_op (G_off rfl rfl rfl rfl rfl rfl ?_)
                      refine L_op (G_off rfl rfl rfl rfl rfl rfl ?_)
                      refine L_op (G_off rfl rfl rfl rfl rfl rfl ?_)
                      refine L_pur rfl (p_pick_f rfl rfl) ?_
                      refine L_nil ?_
                      refine Q_then ?_
                      refine C_false rfl ?_
                      refine J_skip ?_
                      refine Q_blk_normal ?_
                      refine Q_then ?_
                      refine J_pick (A := blk b3 39 _) (by repeat (first | with_reducible exact Pick.here | with_reducible assumption | with_reducible apply Pick.there)) ?_
                      refine J_closeS ?_
                      refine J_pick (A := sA b v _) (by repeat (first | with_reducible exact Pick.here | with_reducible assumption | with_reducible apply Pick.there)) ?_
                      refine J_sUp (lo' := lo + 25) (by omega) ?_
                      exact J_at (L := (fun _ : Unit => eA b3 :: sA b v (lo + 25) :: blk b2 39 [.int .i64 0, .int .i64 0, .int .u32 0, .int .u32 0, .int .u32 0, .int .u32 0, .int .u32 0, .int .u32 0] :: m)) (G := (fun _ : Unit => [(0, .pointer (some ⟨b, 0, none⟩)), (2, .pointer (some ⟨b2, 0, none⟩)), (3, .pointer (some ⟨b3, 0, none⟩))])) () (by repeat (first | exact Sub.nil | exact Sub.refl | refine Sub.cons (by repeat (first | exact Pick.here | apply Pick.there)) ?_ | refine Sub.drop ?_)) (by repeat (first | exact Keep.nil | refine Keep.cons rfl ?_))
                  ·
                    refine C_false rfl ?_
                    refine J_skip ?_
                    refine Q_then ?_
                    refine J_seq ?_
                    refine J_region ?_
                    refine L_pur rfl (p_fieldAddr rfl fa39_5) ?_
                    refine L_op (x_store rfl rfl ty37 rfl (by first | rfl | (simp [*]; done)) (by first | rfl | (simp [*]; done)) (by repeat (first | with_reducible exact Rep1.here | with_reducible apply Rep1.there)) (by first | exact Put.full rfl | ((repeat constructor); done) | exact Put.full (by first | rfl | simp [*])) ?_)
                    refine L_nil ?_
                    refine Q_then ?_
                    refine J_seq ?_
                    refine J_region ?_
                    refine L_pur rfl (p_fieldAddr rfl fa39_0) ?_
                    refine L_val rfl (v_load rfl ty3 (by repeat (first | with_reducible exact Has.here | with_reducible assumption | with_reducible apply Has.there)) (by exact rfl)) ?_
                    refine L_pur rfl (p_eql rfl rfl) ?_
                    refine L_pur rfl (p_move rfl) ?_
                    refine J_gsplit (t := 77) rfl (fun h77 => ?_) (fun h77 => ?_)
                    ·
                      refine L_op (G_on rfl rfl rfl ?_)
                      refine J_pur (p_move rfl) rfl rfl rfl ?_
                      refine L_op (G_on rfl rfl rfl ?_)
                      refine x_call Try.func81 nm81 bd81 (.cons rfl (.cons rfl .nil)) rfl (next (zs := zs) (by repeat (first | with_reducible exact Pick.here | with_reducible assumption | with_reducible apply Pick.there)) (fun w H => hr w (Sub.sep (by repeat (first | exact Sub.nil | exact Sub.refl | refine Sub.cons (by repeat (first | exact Pick.here | apply Pick.there)) ?_ | refine Sub.drop ?_)) H)) (by omega) (by omega) (by omega)) fun x79 => ?_
                      refine J_pure fun hx79 => ?_
                      refine L_op (G_on rfl rfl rfl ?_)
                      refine J_pur (p_eql rfl rfl) rfl rfl rfl ?_
                      refine L_pur rfl (p_pick_t rfl rfl) ?_
                      refine L_nil ?_
                      refine Q_then ?_
                      refine J_gsplit (t := 81) rfl (fun h81 => ?_) (fun h81 => ?_)
                      ·
                        refine C_true rfl ?_
                        refine J_region ?_
                        refine L_op (x_call Try.func111 nm111 bd111 (.cons rfl (.cons rfl .nil)) rfl (join _ _) fun x => ?_)
                        refine L_pur rfl (p_fieldAddr rfl fa39_5) ?_
                        refine L_op (x_store rfl rfl ty37 rfl (by first | rfl | (simp [*]; done)) (by first | rfl | (simp [*]; done)) (by repeat (first | with_reducible exact Rep1.here | with_reducible apply Rep1.there)) (by first | exact Put.full rfl | ((repeat constructor); done) | exact Put.full (by first | rfl | simp [*])) ?_)
                        refine L_nil ?_
                        refine Q_blk_normal ?_
                        refine Q_then ?_
                        refine J_pick (A := blk b3 39 _) (by repeat (first | with_reducible exact Pick.here | with_reducible assumption | with_reducible apply Pick.there)) ?_
                        refine J_closeS ?_
                        refine J_pick (A := sA b v _) (by repeat (first | with_reducible exact Pick.here | with_reducible assumption | with_reducible apply Pick.there)) ?_
                        refine J_sUp (lo' := lo + 25) (by omega) ?_
                        exact J_at (L := (fun _ : Unit => eA b3 :: sA b v (lo + 25) :: blk b2 39 [.int .i64 0, .int .i64 0, .int .u32 0, .int .u32 0, .int .u32 0, .int .u32 0, .int .u32 0, .int .u32 0] :: m)) (G := (fun _ : Unit => [(0, .pointer (some ⟨b, 0, none⟩)), (2, .pointer (some ⟨b2, 0, none⟩)), (3, .pointer (some ⟨b3, 0, none⟩))])) () (by repeat (first | exact Sub.nil | exact Sub.refl | refine Sub.cons (by repeat (first | exact Pick.here | apply Pick.there)) ?_ | refine Sub.drop ?_)) (by repeat (first | exact Keep.nil | refine Keep.cons rfl ?_))
                      ·
                        refine C_false rfl ?_
                        refine J_skip ?_
                        refine Q_blk_normal ?_
                        refine Q_then ?_
                        refine J_pick (A := blk b3 39 _) (by repeat (first | with_reducible exact Pick.here | with_reducible assumption | with_reducible apply Pick.there)) ?_
                        refine J_closeS ?_
                        refine J_pick (A := sA b v _) (by repeat (first | with_reducible exact Pick.here | with_reducible assumption | with_reducible apply Pick.there)) ?_
                        refine J_sUp (lo' := lo + 25) (by omega) ?_
                        exact J_at (L := (fun _ : Unit => eA b3 :: sA b v (lo + 25) :: blk b2 39 [.int .i64 0, .int .i64 0, .int .u32 0, .int .u32 0, .int .u32 0, .int .u32 0, .int .u32 0, .int .u32 0] :: m)) (G := (fun _ : Unit => [(0, .pointer (some ⟨b, 0, none⟩)), (2, .pointer (some ⟨b2, 0, none⟩)), (3, .pointer (some ⟨b3, 0, none⟩))])) () (by repeat (first | exact Sub.nil | exact Sub.refl | refine Sub.cons (by repeat (first | exact Pick.here | apply Pick.there)) ?_ | refine Sub.drop ?_)) (by repeat (first | exact Keep.nil | refine Keep.cons rfl ?_))
                    ·
                      refine L_op (G_off rfl rfl rfl rfl rfl rfl ?_)
                      refine L_op (G_off rfl rfl rfl rfl rfl rfl ?_)
                      refine L_op (G_off rfl rfl rfl rfl rfl rfl ?_)
                      refine L_pur rfl (p_pick_f rfl rfl) ?_
                      refine L_nil ?_
                      refine Q_then ?_
                      refine C_false rfl ?_
                      refine J_skip ?_
                      refine Q_blk_normal ?_
                      refine Q_then ?_
                      refine J_pick (A := blk b3 39 _) (by repeat (first | with_reducible exact Pick.here | with_reducible assumption | with_reducible apply Pick.there)) ?_
                      refine J_closeS ?_
                      refine J_pick (A := sA b v _) (by repeat (first | with_reducible exact Pick.here | with_reducible assumption | with_reducible apply Pick.there)) ?_
                      refine J_sUp (lo' := lo + 25) (by omega) ?_
                      exact J_at (L := (fun _ : Unit => eA b3 :: sA b v (lo + 25) :: blk b2 39 [.int .i64 0, .int .i64 0, .int .u32 0, .int .u32 0, .int .u32 0, .int .u32 0, .int .u32 0, .int .u32 0] :: m)) (G := (fun _ : Unit => [(0, .pointer (some ⟨b, 0, none⟩)), (2, .pointer (some ⟨b2, 0, none⟩)), (3, .pointer (some ⟨b3, 0, none⟩))])) () (by repeat (first | exact Sub.nil | exact Sub.refl | refine Sub.cons (by repeat (first | exact Pick.here | apply Pick.there)) ?_ | refine Sub.drop ?_)) (by repeat (first | exact Keep.nil | refine Keep.cons rfl ?_))
                ·
                  refine C_false rfl ?_
                  refine J_seq ?_
                  refine J_region ?_
                  refine L_pur rfl (p_eql rfl rfl) ?_
                  refine L_pur rfl (p_assign rfl) ?_
                  refine L_nil ?_
                  refine Q_then ?_
                  refine J_gsplit (t := 84) rfl (fun h84 => ?_) (fun h84 => ?_)
                  ·
                    refine C_true rfl ?_
                    refine J_region ?_
                    refine L_op (x_call Try.func111 nm111 bd111 (.cons rfl (.cons rfl .nil)) rfl (join _ _) fun x => ?_)
                    refine L_pur rfl (p_fieldAddr rfl fa39_3) ?_
                    refine L_op (x_store rfl rfl ty37 rfl (by first | rfl | (simp [*]; done)) (by first | rfl | (simp [*]; done)) (by repeat (first | with_reducible exact Rep1.here | with_reducible apply Rep1.there)) (by first | exact Put.full rfl | ((repeat constructor); done) | exact Put.full (by first | rfl | simp [*])) ?_)
                    refine L_nil ?_
                    refine Q_blk_normal ?_
                    refine Q_then ?_
                    refine J_pick (A := blk b3 39 _) (by repeat (first | with_reducible exact Pick.here | with_reducible assumption | with_reducible apply Pick.there)) ?_
                    refine J_closeS ?_
                    refine J_pick (A := sA b v _) (by repeat (first | with_reducible exact Pick.here | with_reducible assumption | with_reducible apply Pick.there)) ?_
                    refine J_sUp (lo' := lo + 25) (by omega) ?_
                    exact J_at (L := (fun _ : Unit => eA b3 :: sA b v (lo + 25) :: blk b2 39 [.int .i64 0, .int .i64 0, .int .u32 0, .int .u32 0, .int .u32 0, .int .u32 0, .int .u32 0, .int .u32 0] :: m)) (G := (fun _ : Unit => [(0, .pointer (some ⟨b, 0, none⟩)), (2, .pointer (some ⟨b2, 0, none⟩)), (3, .pointer (some ⟨b3, 0, none⟩))])) () (by repeat (first | exact Sub.nil | exact Sub.refl | refine Sub.cons (by repeat (first | exact Pick.here | apply Pick.there)) ?_ | refine Sub.drop ?_)) (by repeat (first | exact Keep.nil | refine Keep.cons rfl ?_))
                  ·
                    refine C_false rfl ?_
                    refine J_seq ?_
                    refine J_seq ?_
                    refine J_region ?_
                    refine L_pur rfl (p_eql rfl rfl) ?_
                    refine L_pur rfl (p_assign rfl) ?_
                    refine L_nil ?_
                    refine Q_then ?_
                    refine J_gsplit (t := 88) rfl (fun h88 => ?_) (fun h88 => ?_)
                    ·
                      refine C_true rfl ?_
                      refine J_skip ?_
                      refine Q_then ?_
                      refine C_true rfl ?_
                      refine J_seq ?_
                      refine J_region ?_
                      refine L_pur rfl (p_move rfl) ?_
                      refine L_op (x_call Try.func81 nm81 bd81 (.cons rfl (.cons rfl .nil)) rfl (next (zs := zs) (by repeat (first | with_reducible exact Pick.here | with_reducible assumption | with_reducible apply Pick.there)) (fun w H => hr w (Sub.sep (by repeat (first | exact Sub.nil | exact Sub.refl | refine Sub.cons (by repeat (first | exact Pick.here | apply Pick.there)) ?_ | refine Sub.drop ?_)) H)) (by omega) (by omega) (by omega)) fun x92 => ?_)
                      refine J_pure fun hx92 => ?_
                      refine L_pur rfl (p_gtr rfl rfl) ?_
                      refine L_nil ?_
                      refine Q_then ?_
                      refine J_gsplit (t := 93) rfl (fun h93 => ?_) (fun h93 => ?_)
                      ·
                        refine C_true rfl ?_
                        refine J_region ?_
                        refine L_op (x_call Try.func111 nm111 bd111 (.cons rfl (.cons rfl .nil)) rfl (join _ _) fun x => ?_)
                        refine L_pur rfl (p_fieldAddr rfl fa39_3) ?_
                        refine L_op (x_store rfl rfl ty37 rfl (by first | rfl | (simp [*]; done)) (by first | rfl | (simp [*]; done)) (by repeat (first | with_reducible exact Rep1.here | with_reducible apply Rep1.there)) (by first | exact Put.full rfl | ((repeat constructor); done) | exact Put.full (by first | rfl | simp [*])) ?_)
                        refine L_nil ?_
                        refine Q_blk_normal ?_
                        refine Q_then ?_
                        refine J_pick (A := blk b3 39 _) (by repeat (first | with_reducible exact Pick.here | with_reducible assumption | with_reducible apply Pick.there)) ?_
                        refine J_closeS ?_
                        refine J_pick (A := sA b v _) (by repeat (first | with_reducible exact Pick.here | with_reducible assumption | with_reducible apply Pick.there)) ?_
                        refine J_sUp (lo' := lo + 25) (by omega) ?_
                        exact J_at (L := (fun _ : Unit => eA b3 :: sA b v (lo + 25) :: blk b2 39 [.int .i64 0, .int .i64 0, .int .u32 0, .int .u32 0, .int .u32 0, .int .u32 0, .int .u32 0, .int .u32 0] :: m)) (G := (fun _ : Unit => [(0, .pointer (some ⟨b, 0, none⟩)), (2, .pointer (some ⟨b2, 0, none⟩)), (3, .pointer (some ⟨b3, 0, none⟩))])) () (by repeat (first | exact Sub.nil | exact Sub.refl | refine Sub.cons (by repeat (first | exact Pick.here | apply Pick.there)) ?_ | refine Sub.drop ?_)) (by repeat (first | exact Keep.nil | refine Keep.cons rfl ?_))
                      ·
                        refine C_false rfl ?_
                        refine J_skip ?_
                        refine Q_blk_normal ?_
                        refine Q_then ?_
                        refine J_pick (A := blk b3 39 _) (by repeat (first | with_reducible exact Pick.here | with_reducible assumption | with_reducible apply Pick.there)) ?_
                        refine J_closeS ?_
                        refine J_pick (A := sA b v _) (by repeat (first | with_reducible exact Pick.here | with_reducible assumption | with_reducible apply Pick.there)) ?_
                        refine J_sUp (lo' := lo + 25) (by omega) ?_
                        exact J_at (L := (fun _ : Unit => eA b3 :: sA b v (lo + 25) :: blk b2 39 [.int .i64 0, .int .i64 0, .int .u32 0, .int .u32 0, .int .u32 0, .int .u32 0, .int .u32 0, .int .u32 0] :: m)) (G := (fun _ : Unit => [(0, .pointer (some ⟨b, 0, none⟩)), (2, .pointer (some ⟨b2, 0, none⟩)), (3, .pointer (some ⟨b3, 0, none⟩))])) () (by repeat (first | exact Sub.nil | exact Sub.refl | refine Sub.cons (by repeat (first | exact Pick.here | apply Pick.there)) ?_ | refine Sub.drop ?_)) (by repeat (first | exact Keep.nil | refine Keep.cons rfl ?_))
                    ·
                      refine C_false rfl ?_
                      refine J_region ?_
                      refine L_pur rfl (p_eql rfl rfl) ?_
                      refine L_pur rfl (p_assign rfl) ?_
                      refine L_nil ?_
                      refine Q_then ?_
                      refine J_gsplit (t := 88) rfl (fun h88 => ?_) (fun h88 => ?_)
                      ·
                        refine C_true rfl ?_
                        refine J_seq ?_
                        refine J_region ?_
                        refine L_pur rfl (p_move rfl) ?_
                        refine L_op (x_call Try.func81 nm81 bd81 (.cons rfl (.cons rfl .nil)) rfl (next (zs := zs) (by repeat (first | with_reducible exact Pick.here | with_reducible assumption | with_reducible apply Pick.there)) (fun w H => hr w (Sub.sep (by repeat (first | exact Sub.nil | exact Sub.refl | refine Sub.cons (by repeat (first | exact Pick.here | apply Pick.there)) ?_ | refine Sub.drop ?_)) H)) (by omega) (by omega) (by omega)) fun x92 => ?_)
                        refine J_pure fun hx92 => ?_
                        refine L_pur rfl (p_gtr rfl rfl) ?_
                        refine L_nil ?_
                        refine Q_then ?_
                        refine J_gsplit (t := 93) rfl (fun h93 => ?_) (fun h93 => ?_)
                        ·
                          refine C_true rfl ?_
                          refine J_region ?_
                          refine L_op (x_call Try.func111 nm111 bd111 (.cons rfl (.cons rfl .nil)) rfl (join _ _) fun x => ?_)
                          refine L_pur rfl (p_fieldAddr rfl fa39_3) ?_
                          refine L_op (x_store rfl rfl ty37 rfl (by first | rfl | (simp [*]; done)) (by first | rfl | (simp [*]; done)) (by repeat (first | with_reducible exact Rep1.here | with_reducible apply Rep1.there)) (by first | exact Put.full rfl | ((repeat constructor); done) | exact Put.full (by first | rfl | simp [*])) ?_)
                          refine L_nil ?_
                          refine Q_blk_normal ?_
                          refine Q_then ?_
                          refine J_pick (A := blk b3 39 _) (by repeat (first | with_reducible exact Pick.here | with_reducible assumption | with_reducible apply Pick.there)) ?_
                          refine J_closeS ?_
                          refine J_pick (A := sA b v _) (by repeat (first | with_reducible exact Pick.here | with_reducible assumption | with_reducible apply Pick.there)) ?_
                          refine J_sUp (lo' := lo + 25) (by omega) ?_
                          exact J_at (L := (fun _ : Unit => eA b3 :: sA b v (lo + 25) :: blk b2 39 [.int .i64 0, .int .i64 0, .int .u32 0, .int .u32 0, .int .u32 0, .int .u32 0, .int .u32 0, .int .u32 0] :: m)) (G := (fun _ : Unit => [(0, .pointer (some ⟨b, 0, none⟩)), (2, .pointer (some ⟨b2, 0, none⟩)), (3, .pointer (some ⟨b3, 0, none⟩))])) () (by repeat (first | exact Sub.nil | exact Sub.refl | refine Sub.cons (by repeat (first | exact Pick.here | apply Pick.there)) ?_ | refine Sub.drop ?_)) (by repeat (first | exact Keep.nil | refine Keep.cons rfl ?_))
                        ·
                          refine C_false rfl ?_
                          refine J_skip ?_
                          refine Q_blk_normal ?_
                          refine Q_then ?_
                          refine J_pick (A := blk b3 39 _) (by repeat (first | with_reducible exact Pick.here | with_reducible assumption | with_reducible apply Pick.there)) ?_
                          refine J_closeS ?_
                          refine J_pick (A := sA b v _) (by repeat (first | with_reducible exact Pick.here | with_reducible assumption | with_reducible apply Pick.there)) ?_
                          refine J_sUp (lo' := lo + 25) (by omega) ?_
                          exact J_at (L := (fun _ : Unit => eA b3 :: sA b v (lo + 25) :: blk b2 39 [.int .i64 0, .int .i64 0, .int .u32 0, .int .u32 0, .int .u32 0, .int .u32 0, .int .u32 0, .int .u32 0] :: m)) (G := (fun _ : Unit => [(0, .pointer (some ⟨b, 0, none⟩)), (2, .pointer (some ⟨b2, 0, none⟩)), (3, .pointer (some ⟨b3, 0, none⟩))])) () (by repeat (first | exact Sub.nil | exact Sub.refl | refine Sub.cons (by repeat (first | exact Pick.here | apply Pick.there)) ?_ | refine Sub.drop ?_)) (by repeat (first | exact Keep.nil | refine Keep.cons rfl ?_))
                      ·
                        refine C_false rfl ?_
                        refine J_seq ?_
                        refine J_seq ?_
                        refine J_region ?_
                        refine L_pur rfl (p_eql rfl rfl) ?_
                        refine L_pur rfl (p_assign rfl) ?_
                        refine L_nil ?_
                        refine Q_then ?_
                        refine J_gsplit (t := 96) rfl (fun h96 => ?_) (fun h96 => ?_)
                        ·
                          refine C_true rfl ?_
                          refine J_skip ?_
                          refine Q_then ?_
                          refine C_true rfl ?_
                          refine J_seq ?_
                          refine J_region ?_
                          refine L_pur rfl (p_move rfl) ?_
                          refine L_op (x_call Try.func81 nm81 bd81 (.cons rfl (.cons rfl .nil)) rfl (next (zs := zs) (by repeat (first | with_reducible exact Pick.here | with_reducible assumption | with_reducible apply Pick.there)) (fun w H => hr w (Sub.sep (by repeat (first | exact Sub.nil | exact Sub.refl | refine Sub.cons (by repeat (first | exact Pick.here | apply Pick.there)) ?_ | refine Sub.drop ?_)) H)) (by omega) (by omega) (by omega)) fun x101 => ?_)
                          refine J_pure fun hx101 => ?_
                          refine L_pur rfl (p_gtr rfl rfl) ?_
                          refine L_nil ?_
                          refine Q_then ?_
                          refine J_gsplit (t := 102) rfl (fun h102 => ?_) (fun h102 => ?_)
                          ·
                            refine C_true rfl ?_
                            refine J_region ?_
                            refine L_op (x_call Try.func111 nm111 bd111 (.cons rfl (.cons rfl .nil)) rfl (join _ _) fun x => ?_)
                            refine L_pur rfl (p_fieldAddr rfl fa39_3) ?_
                            refine L_op (x_store rfl rfl ty37 rfl (by first | rfl | (simp [*]; done)) (by first | rfl | (simp [*]; done)) (by repeat (first | with_reducible exact Rep1.here | with_reducible apply Rep1.there)) (by first | exact Put.full rfl | ((repeat constructor); done) | exact Put.full (by first | rfl | simp [*])) ?_)
                            refine L_nil ?_
                            refine Q_blk_normal ?_
                            refine Q_then ?_
                            refine J_pick (A := blk b3 39 _) (by repeat (first | with_reducible exact Pick.here | with_reducible assumption | with_reducible apply Pick.there)) ?_
                            refine J_closeS ?_
                            refine J_pick (A := sA b v _) (by repeat (first | with_reducible exact Pick.here | with_reducible assumption | with_reducible apply Pick.there)) ?_
                            refine J_sUp (lo' := lo + 25) (by omega) ?_
                            exact J_at (L := (fun _ : Unit => eA b3 :: sA b v (lo + 25) :: blk b2 39 [.int .i64 0, .int .i64 0, .int .u32 0, .int .u32 0, .int .u32 0, .int .u32 0, .int .u32 0, .int .u32 0] :: m)) (G := (fun _ : Unit => [(0, .pointer (some ⟨b, 0, none⟩)), (2, .pointer (some ⟨b2, 0, none⟩)), (3, .pointer (some ⟨b3, 0, none⟩))])) () (by repeat (first | exact Sub.nil | exact Sub.refl | refine Sub.cons (by repeat (first | exact Pick.here | apply Pick.there)) ?_ | refine Sub.drop ?_)) (by repeat (first | exact Keep.nil | refine Keep.cons rfl ?_))
                          ·
                            refine C_false rfl ?_
                            refine J_skip ?_
                            refine Q_blk_normal ?_
                            refine Q_then ?_
                            refine J_pick (A := blk b3 39 _) (by repeat (first | with_reducible exact Pick.here | with_reducible assumption | with_reducible apply Pick.there)) ?_
                            refine J_closeS ?_
                            refine J_pick (A := sA b v _) (by repeat (first | with_reducible exact Pick.here | with_reducible assumption | with_reducible apply Pick.there)) ?_
                            refine J_sUp (lo' := lo + 25) (by omega) ?_
                            exact J_at (L := (fun _ : Unit => eA b3 :: sA b v (lo + 25) :: blk b2 39 [.int .i64 0, .int .i64 0, .int .u32 0, .int .u32 0, .int .u32 0, .int .u32 0, .int .u32 0, .int .u32 0] :: m)) (G := (fun _ : Unit => [(0, .pointer (some ⟨b, 0, none⟩)), (2, .pointer (some ⟨b2, 0, none⟩)), (3, .pointer (some ⟨b3, 0, none⟩))])) () (by repeat (first | exact Sub.nil | exact Sub.refl | refine Sub.cons (by repeat (first | exact Pick.here | apply Pick.there)) ?_ | refine Sub.drop ?_)) (by repeat (first | exact Keep.nil | refine Keep.cons rfl ?_))
                        ·
                          refine C_false rfl ?_
                          refine J_seq ?_
                          refine J_region ?_
                          refine L_pur rfl (p_eql rfl rfl) ?_
                          refine L_pur rfl (p_assign rfl) ?_
                          refine L_nil ?_
                          refine Q_then ?_
                          refine J_gsplit (t := 96) rfl (fun h96 => ?_) (fun h96 => ?_)
                          ·
                            refine C_true rfl ?_
                            refine J_skip ?_
                            refine Q_then ?_
                            refine C_true rfl ?_
                            refine J_seq ?_
                            refine J_region ?_
                            refine L_pur rfl (p_move rfl) ?_
                            refine L_op (x_call Try.func81 nm81 bd81 (.cons rfl (.cons rfl .nil)) rfl (next (zs := zs) (by repeat (first | with_reducible exact Pick.here | with_reducible assumption | with_reducible apply Pick.there)) (fun w H => hr w (Sub.sep (by repeat (first | exact Sub.nil | exact Sub.refl | refine Sub.cons (by repeat (first | exact Pick.here | apply Pick.there)) ?_ | refine Sub.drop ?_)) H)) (by omega) (by omega) (by omega)) fun x101 => ?_)
                            refine J_pure fun hx101 => ?_
                            refine L_pur rfl (p_gtr rfl rfl) ?_
                            refine L_nil ?_
                            refine Q_then ?_
                            refine J_gsplit (t := 102) rfl (fun h102 => ?_) (fun h102 => ?_)
                            ·
                              refine C_true rfl ?_
                              refine J_region ?_
                              refine L_op (x_call Try.func111 nm111 bd111 (.cons rfl (.cons rfl .nil)) rfl (join _ _) fun x => ?_)
                              refine L_pur rfl (p_fieldAddr rfl fa39_3) ?_
                              refine L_op (x_store rfl rfl ty37 rfl (by first | rfl | (simp [*]; done)) (by first | rfl | (simp [*]; done)) (by repeat (first | with_reducible exact Rep1.here | with_reducible apply Rep1.there)) (by first | exact Put.full rfl | ((repeat constructor); done) | exact Put.full (by first | rfl | simp [*])) ?_)
                              refine L_nil ?_
                              refine Q_blk_normal ?_
                              refine Q_then ?_
                              refine J_pick (A := blk b3 39 _) (by repeat (first | with_reducible exact Pick.here | with_reducible assumption | with_reducible apply Pick.there)) ?_
                              refine J_closeS ?_
                              refine J_pick (A := sA b v _) (by repeat (first | with_reducible exact Pick.here | with_reducible assumption | with_reducible apply Pick.there)) ?_
                              refine J_sUp (lo' := lo + 25) (by omega) ?_
                              exact J_at (L := (fun _ : Unit => eA b3 :: sA b v (lo + 25) :: blk b2 39 [.int .i64 0, .int .i64 0, .int .u32 0, .int .u32 0, .int .u32 0, .int .u32 0, .int .u32 0, .int .u32 0] :: m)) (G := (fun _ : Unit => [(0, .pointer (some ⟨b, 0, none⟩)), (2, .pointer (some ⟨b2, 0, none⟩)), (3, .pointer (some ⟨b3, 0, none⟩))])) () (by repeat (first | exact Sub.nil | exact Sub.refl | refine Sub.cons (by repeat (first | exact Pick.here | apply Pick.there)) ?_ | refine Sub.drop ?_)) (by repeat (first | exact Keep.nil | refine Keep.cons rfl ?_))
                            ·
                              refine C_false rfl ?_
                              refine J_skip ?_
                              refine Q_blk_normal ?_
                              refine Q_then ?_
                              refine J_pick (A := blk b3 39 _) (by repeat (first | with_reducible exact Pick.here | with_reducible assumption | with_reducible apply Pick.there)) ?_
                              refine J_closeS ?_
                              refine J_pick (A := sA b v _) (by repeat (first | with_reducible exact Pick.here | with_reducible assumption | with_reducible apply Pick.there)) ?_
                              refine J_sUp (lo' := lo + 25) (by omega) ?_
                              exact J_at (L := (fun _ : Unit => eA b3 :: sA b v (lo + 25) :: blk b2 39 [.int .i64 0, .int .i64 0, .int .u32 0, .int .u32 0, .int .u32 0, .int .u32 0, .int .u32 0, .int .u32 0] :: m)) (G := (fun _ : Unit => [(0, .pointer (some ⟨b, 0, none⟩)), (2, .pointer (some ⟨b2, 0, none⟩)), (3, .pointer (some ⟨b3, 0, none⟩))])) () (by repeat (first | exact Sub.nil | exact Sub.refl | refine Sub.cons (by repeat (first | exact Pick.here | apply Pick.there)) ?_ | refine Sub.drop ?_)) (by repeat (first | exact Keep.nil | refine Keep.cons rfl ?_))
                          ·
                            refine C_false rfl ?_
                            refine J_region ?_
                            refine L_pur rfl (p_eql rfl rfl) ?_
                            refine L_pur rfl (p_assign rfl) ?_
                            refine L_nil ?_
                            refine Q_then ?_
                            refine J_gsplit (t := 96) rfl (fun h96 => ?_) (fun h96 => ?_)
                            ·
                              refine C_true rfl ?_
                              refine J_seq ?_
                              refine J_region ?_
                              refine L_pur rfl (p_move rfl) ?_
                              refine L_op (x_call Try.func81 nm81 bd81 (.cons rfl (.cons rfl .nil)) rfl (next (zs := zs) (by repeat (first | with_reducible exact Pick.here | with_reducible assumption | with_reducible apply Pick.there)) (fun w H => hr w (Sub.sep (by repeat (first | exact Sub.nil | exact Sub.refl | refine Sub.cons (by repeat (first | exact Pick.here | apply Pick.there)) ?_ | refine Sub.drop ?_)) H)) (by omega) (by omega) (by omega)) fun x101 => ?_)
                              refine J_pure fun hx101 => ?_
                              refine L_pur rfl (p_gtr rfl rfl) ?_
                              refine L_nil ?_
                              refine Q_then ?_
                              refine J_gsplit (t := 102) rfl (fun h102 => ?_) (fun h102 => ?_)
                              ·
                                refine C_true rfl ?_
                                refine J_region ?_
                                refine L_op (x_call Try.func111 nm111 bd111 (.cons rfl (.cons rfl .nil)) rfl (join _ _) fun x => ?_)
                                refine L_pur rfl (p_fieldAddr rfl fa39_3) ?_
                                refine L_op (x_store rfl rfl ty37 rfl (by first | rfl | (simp [*]; done)) (by first | rfl | (simp [*]; done)) (by repeat (first | with_reducible exact Rep1.here | with_reducible apply Rep1.there)) (by first | exact Put.full rfl | ((repeat constructor); done) | exact Put.full (by first | rfl | simp [*])) ?_)
                                refine L_nil ?_
                                refine Q_blk_normal ?_
                                refine Q_then ?_
                                refine J_pick (A := blk b3 39 _) (by repeat (first | with_reducible exact Pick.here | with_reducible assumption | with_reducible apply Pick.there)) ?_
                                refine J_closeS ?_
                                refine J_pick (A := sA b v _) (by repeat (first | with_reducible exact Pick.here | with_reducible assumption | with_reducible apply Pick.there)) ?_
                                refine J_sUp (lo' := lo + 25) (by omega) ?_
                                exact J_at (L := (fun _ : Unit => eA b3 :: sA b v (lo + 25) :: blk b2 39 [.int .i64 0, .int .i64 0, .int .u32 0, .int .u32 0, .int .u32 0, .int .u32 0, .int .u32 0, .int .u32 0] :: m)) (G := (fun _ : Unit => [(0, .pointer (some ⟨b, 0, none⟩)), (2, .pointer (some ⟨b2, 0, none⟩)), (3, .pointer (some ⟨b3, 0, none⟩))])) () (by repeat (first | exact Sub.nil | exact Sub.refl | refine Sub.cons (by repeat (first | exact Pick.here | apply Pick.there)) ?_ | refine Sub.drop ?_)) (by repeat (first | exact Keep.nil | refine Keep.cons rfl ?_))
                              ·
                                refine C_false rfl ?_
                                refine J_skip ?_
                                refine Q_blk_normal ?_
                                refine Q_then ?_
                                refine J_pick (A := blk b3 39 _) (by repeat (first | with_reducible exact Pick.here | with_reducible assumption | with_reducible apply Pick.there)) ?_
                                refine J_closeS ?_
                                refine J_pick (A := sA b v _) (by repeat (first | with_reducible exact Pick.here | with_reducible assumption | with_reducible apply Pick.there)) ?_
                                refine J_sUp (lo' := lo + 25) (by omega) ?_
                                exact J_at (L := (fun _ : Unit => eA b3 :: sA b v (lo + 25) :: blk b2 39 [.int .i64 0, .int .i64 0, .int .u32 0, .int .u32 0, .int .u32 0, .int .u32 0, .int .u32 0, .int .u32 0] :: m)) (G := (fun _ : Unit => [(0, .pointer (some ⟨b, 0, none⟩)), (2, .pointer (some ⟨b2, 0, none⟩)), (3, .pointer (some ⟨b3, 0, none⟩))])) () (by repeat (first | exact Sub.nil | exact Sub.refl | refine Sub.cons (by repeat (first | exact Pick.here | apply Pick.there)) ?_ | refine Sub.drop ?_)) (by repeat (first | exact Keep.nil | refine Keep.cons rfl ?_))
                            ·
                              refine C_false rfl ?_
                              refine J_seq ?_
                              refine J_region ?_
                              refine L_pur rfl (p_eql rfl rfl) ?_
                              refine L_pur rfl (p_assign rfl) ?_
                              refine L_nil ?_
                              refine Q_then ?_
                              refine J_gsplit (t := 105) rfl (fun h105 => ?_) (fun h105 => ?_)
                              ·
                                refine C_true rfl ?_
                                refine J_seq ?_
                                refine J_region ?_
                                refine L_pur rfl (p_move rfl) ?_
                                refine L_op (x_call Try.func81 nm81 bd81 (.cons rfl (.cons rfl .nil)) rfl (next (zs := zs) (by repeat (first | with_reducible exact Pick.here | with_reducible assumption | with_reducible apply Pick.there)) (fun w H => hr w (Sub.sep (by repeat (first | exact Sub.nil | exact Sub.refl | refine Sub.cons (by repeat (first | exact Pick.here | apply Pick.there)) ?_ | refine Sub.drop ?_)) H)) (by omega) (by omega) (by omega)) fun x108 => ?_)
                                refine J_pure fun hx108 => ?_
                                refine L_pur rfl (p_add64 rfl rfl (by omega)) ?_
                                refine L_op (x_call Try.func111 nm111 bd111 (.cons rfl (.cons rfl .nil)) rfl (join _ _) fun x => ?_)
                                refine L_pur rfl (p_fieldAddr rfl fa39_3) ?_
                                refine L_op (x_store rfl rfl ty37 rfl (by first | rfl | (simp [*]; done)) (by first | rfl | (simp [*]; done)) (by repeat (first | with_reducible exact Rep1.here | with_reducible apply Rep1.there)) (by first | exact Put.full rfl | ((repeat constructor); done) | exact Put.full (by first | rfl | simp [*])) ?_)
                                refine L_nil ?_
                                refine Q_then ?_
                                refine J_seq ?_
                                refine J_region ?_
                                refine L_pur rfl (p_move rfl) ?_
                                refine L_op (x_call Try.func81 nm81 bd81 (.cons rfl (.cons rfl .nil)) rfl (next (zs := zs) (by repeat (first | with_reducible exact Pick.here | with_reducible assumption | with_reducible apply Pick.there)) (fun w H => hr w (Sub.sep (by repeat (first | exact Sub.nil | exact Sub.refl | refine Sub.cons (by repeat (first | exact Pick.here | apply Pick.there)) ?_ | refine Sub.drop ?_)) H)) (by omega) (by omega) (by omega)) fun x113 => ?_)
                                refine J_pure fun hx113 => ?_
                                refine L_pur rfl (p_eql rfl rfl) ?_
                                refine L_nil ?_
                                refine Q_then ?_
                                refine J_gsplit (t := 114) rfl (fun h114 => ?_) (fun h114 => ?_)
                                ·
                                  refine C_true rfl ?_
                                  refine J_region ?_
                                  refine L_pur rfl (p_move rfl) ?_
                                  refine L_op (x_call Try.func81 nm81 bd81 (.cons rfl (.cons rfl .nil)) rfl (next (zs := zs) (by repeat (first | with_reducible exact Pick.here | with_reducible assumption | with_reducible apply Pick.there)) (fun w H => hr w (Sub.sep (by repeat (first | exact Sub.nil | exact Sub.refl | refine Sub.cons (by repeat (first | exact Pick.here | apply Pick.there)) ?_ | refine Sub.drop ?_)) H)) (by omega) (by omega) (by omega)) fun x116 => ?_)
                                  refine J_pure fun hx116 => ?_
                                  refine L_pur rfl (p_add64 rfl rfl (by omega)) ?_
                                  refine L_op (x_call Try.func111 nm111 bd111 (.cons rfl (.cons rfl .nil)) rfl (join _ _) fun x => ?_)
                                  refine L_pur rfl (p_fieldAddr rfl fa39_3) ?_
                                  refine L_op (x_store rfl rfl ty37 rfl (by first | rfl | (simp [*]; done)) (by first | rfl | (simp [*]; done)) (by repeat (first | with_reducible exact Rep1.here | with_reducible apply Rep1.there)) (by first | exact Put.full rfl | ((repeat constructor); done) | exact Put.full (by first | rfl | simp [*])) ?_)
                                  refine L_nil ?_
                                  refine Q_blk_normal ?_
                                  refine Q_then ?_
                                  refine J_pick (A := blk b3 39 _) (by repeat (first | with_reducible exact Pick.here | with_reducible assumption | with_reducible apply Pick.there)) ?_
                                  refine J_closeS ?_
                                  refine J_pick (A := sA b v _) (by repeat (first | with_reducible exact Pick.here | with_reducible assumption | with_reducible apply Pick.there)) ?_
                                  refine J_sUp (lo' := lo + 25) (by omega) ?_
                                  exact J_at (L := (fun _ : Unit => eA b3 :: sA b v (lo + 25) :: blk b2 39 [.int .i64 0, .int .i64 0, .int .u32 0, .int .u32 0, .int .u32 0, .int .u32 0, .int .u32 0, .int .u32 0] :: m)) (G := (fun _ : Unit => [(0, .pointer (some ⟨b, 0, none⟩)), (2, .pointer (some ⟨b2, 0, none⟩)), (3, .pointer (some ⟨b3, 0, none⟩))])) () (by repeat (first | exact Sub.nil | exact Sub.refl | refine Sub.cons (by repeat (first | exact Pick.here | apply Pick.there)) ?_ | refine Sub.drop ?_)) (by repeat (first | exact Keep.nil | refine Keep.cons rfl ?_))
                                ·
                                  refine C_false rfl ?_
                                  refine J_skip ?_
                                  refine Q_blk_normal ?_
                                  refine Q_then ?_
                                  refine J_pick (A := blk b3 39 _) (by repeat (first | with_reducible exact Pick.here | with_reducible assumption | with_reducible apply Pick.there)) ?_
                                  refine J_closeS ?_
                                  refine J_pick (A := sA b v _) (by repeat (first | with_reducible exact Pick.here | with_reducible assumption | with_reducible apply Pick.there)) ?_
                                  refine J_sUp (lo' := lo + 25) (by omega) ?_
                                  exact J_at (L := (fun _ : Unit => eA b3 :: sA b v (lo + 25) :: blk b2 39 [.int .i64 0, .int .i64 0, .int .u32 0, .int .u32 0, .int .u32 0, .int .u32 0, .int .u32 0, .int .u32 0] :: m)) (G := (fun _ : Unit => [(0, .pointer (some ⟨b, 0, none⟩)), (2, .pointer (some ⟨b2, 0, none⟩)), (3, .pointer (some ⟨b3, 0, none⟩))])) () (by repeat (first | exact Sub.nil | exact Sub.refl | refine Sub.cons (by repeat (first | exact Pick.here | apply Pick.there)) ?_ | refine Sub.drop ?_)) (by repeat (first | exact Keep.nil | refine Keep.cons rfl ?_))
                              ·
                                refine C_false rfl ?_
                                refine J_seq ?_
                                refine J_seq ?_
                                refine J_region ?_
                                refine L_pur rfl (p_eql rfl rfl) ?_
                                refine L_pur rfl (p_assign rfl) ?_
                                refine L_nil ?_
                                refine Q_then ?_
                                refine J_gsplit (t := 120) rfl (fun h120 => ?_) (fun h120 => ?_)
                                ·
                                  refine C_true rfl ?_
                                  refine J_skip ?_
                                  refine Q_then ?_
                                  refine C_true rfl ?_
                                  refine J_seq ?_
                                  refine J_region ?_
                                  refine L_pur rfl (p_move rfl) ?_
                                  refine L_op (x_call Try.func81 nm81 bd81 (.cons rfl (.cons rfl .nil)) rfl (next (zs := zs) (by repeat (first | with_reducible exact Pick.here | with_reducible assumption | with_reducible apply Pick.there)) (fun w H => hr w (Sub.sep (by repeat (first | exact Sub.nil | exact Sub.refl | refine Sub.cons (by repeat (first | exact Pick.here | apply Pick.there)) ?_ | refine Sub.drop ?_)) H)) (by omega) (by omega) (by omega)) fun x124 => ?_)
                                  refine J_pure fun hx124 => ?_
                                  refine L_pur rfl (p_add64 rfl rfl (by omega)) ?_
                                  refine L_op (x_call Try.func111 nm111 bd111 (.cons rfl (.cons rfl .nil)) rfl (join _ _) fun x => ?_)
                                  refine L_pur rfl (p_fieldAddr rfl fa39_3) ?_
                                  refine L_op (x_store rfl rfl ty37 rfl (by first | rfl | (simp [*]; done)) (by first | rfl | (simp [*]; done)) (by repeat (first | with_reducible exact Rep1.here | with_reducible apply Rep1.there)) (by first | exact Put.full rfl | ((repeat constructor); done) | exact Put.full (by first | rfl | simp [*])) ?_)
                                  refine L_nil ?_
                                  refine Q_then ?_
                                  refine J_seq ?_
                                  refine J_region ?_
                                  refine L_pur rfl (p_move rfl) ?_
                                  refine L_op (x_call Try.func81 nm81 bd81 (.cons rfl (.cons rfl .nil)) rfl (next (zs := zs) (by repeat (first | with_reducible exact Pick.here | with_reducible assumption | with_reducible apply Pick.there)) (fun w H => hr w (Sub.sep (by repeat (first | exact Sub.nil | exact Sub.refl | refine Sub.cons (by repeat (first | exact Pick.here | apply Pick.there)) ?_ | refine Sub.drop ?_)) H)) (by omega) (by omega) (by omega)) fun x129 => ?_)
                                  refine J_pure fun hx129 => ?_
                                  refine L_pur rfl (p_eql rfl rfl) ?_
                                  refine L_nil ?_
                                  refine Q_then ?_
                                  refine J_gsplit (t := 130) rfl (fun h130 => ?_) (fun h130 => ?_)
                                  ·
                                    refine C_true rfl ?_
                                    refine J_region ?_
                                    refine L_pur rfl (p_move rfl) ?_
                                    refine L_op (x_call Try.func110 nm110 bd110 (.cons rfl .nil) rfl (addr (zs := zs) (by repeat (first | with_reducible exact Pick.here | with_reducible assumption | with_reducible apply Pick.there)) (fun w H => hr w (Sub.sep (by repeat (first | exact Sub.nil | exact Sub.refl | refine Sub.cons (by repeat (first | exact Pick.here | apply Pick.there)) ?_ | refine Sub.drop ?_)) H)) (by omega)) fun x => ?_)
                                    refine L_pur rfl (p_fieldAddr rfl fa39_3) ?_
                                    refine L_op (x_store rfl rfl ty37 rfl (by first | rfl | (simp [*]; done)) (by first | rfl | (simp [*]; done)) (by repeat (first | with_reducible exact Rep1.here | with_reducible apply Rep1.there)) (by first | exact Put.full rfl | ((repeat constructor); done) | exact Put.full (by first | rfl | simp [*])) ?_)
                                    refine L_nil ?_
                                    refine Q_blk_normal ?_
                                    refine Q_then ?_
                                    refine J_pick (A := blk b3 39 _) (by repeat (first | with_reducible exact Pick.here | with_reducible assumption | with_reducible apply Pick.there)) ?_
                                    refine J_closeS ?_
                                    refine J_pick (A := sA b v _) (by repeat (first | with_reducible exact Pick.here | with_reducible assumption | with_reducible apply Pick.there)) ?_
                                    refine J_sUp (lo' := lo + 25) (by omega) ?_
                                    exact J_at (L := (fun _ : Unit => eA b3 :: sA b v (lo + 25) :: blk b2 39 [.int .i64 0, .int .i64 0, .int .u32 0, .int .u32 0, .int .u32 0, .int .u32 0, .int .u32 0, .int .u32 0] :: m)) (G := (fun _ : Unit => [(0, .pointer (some ⟨b, 0, none⟩)), (2, .pointer (some ⟨b2, 0, none⟩)), (3, .pointer (some ⟨b3, 0, none⟩))])) () (by repeat (first | exact Sub.nil | exact Sub.refl | refine Sub.cons (by repeat (first | exact Pick.here | apply Pick.there)) ?_ | refine Sub.drop ?_)) (by repeat (first | exact Keep.nil | refine Keep.cons rfl ?_))
                                  ·
                                    refine C_false rfl ?_
                                    refine J_skip ?_
                                    refine Q_blk_normal ?_
                                    refine Q_then ?_
                                    refine J_pick (A := blk b3 39 _) (by repeat (first | with_reducible exact Pick.here | with_reducible assumption | with_reducible apply Pick.there)) ?_
                                    refine J_closeS ?_
                                    refine J_pick (A := sA b v _) (by repeat (first | with_reducible exact Pick.here | with_reducible assumption | with_reducible apply Pick.there)) ?_
                                    refine J_sUp (lo' := lo + 25) (by omega) ?_
                                    exact J_at (L := (fun _ : Unit => eA b3 :: sA b v (lo + 25) :: blk b2 39 [.int .i64 0, .int .i64 0, .int .u32 0, .int .u32 0, .int .u32 0, .int .u32 0, .int .u32 0, .int .u32 0] :: m)) (G := (fun _ : Unit => [(0, .pointer (some ⟨b, 0, none⟩)), (2, .pointer (some ⟨b2, 0, none⟩)), (3, .pointer (some ⟨b3, 0, none⟩))])) () (by repeat (first | exact Sub.nil | exact Sub.refl | refine Sub.cons (by repeat (first | exact Pick.here | apply Pick.there)) ?_ | refine Sub.drop ?_)) (by repeat (first | exact Keep.nil | refine Keep.cons rfl ?_))
                                ·
                                  refine C_false rfl ?_
                                  refine J_region ?_
                                  refine L_pur rfl (p_eql rfl rfl) ?_
                                  refine L_pur rfl (p_assign rfl) ?_
                                  refine L_nil ?_
                                  refine Q_then ?_
                                  refine J_gsplit (t := 120) rfl (fun h120 => ?_) (fun h120 => ?_)
                                  ·
                                    refine C_true rfl ?_
                                    refine J_seq ?_
                                    refine J_region ?_
                                    refine L_pur rfl (p_move rfl) ?_
                                    refine L_op (x_call Try.func81 nm81 bd81 (.cons rfl (.cons rfl .nil)) rfl (next (zs := zs) (by repeat (first | with_reducible exact Pick.here | with_reducible assumption | with_reducible apply Pick.there)) (fun w H => hr w (Sub.sep (by repeat (first | exact Sub.nil | exact Sub.refl | refine Sub.cons (by repeat (first | exact Pick.here | apply Pick.there)) ?_ | refine Sub.drop ?_)) H)) (by omega) (by omega) (by omega)) fun x124 => ?_)
                                    refine J_pure fun hx124 => ?_
                                    refine L_pur rfl (p_add64 rfl rfl (by omega)) ?_
                                    refine L_op (x_call Try.func111 nm111 bd111 (.cons rfl (.cons rfl .nil)) rfl (join _ _) fun x => ?_)
                                    refine L_pur rfl (p_fieldAddr rfl fa39_3) ?_
                                    refine L_op (x_store rfl rfl ty37 rfl (by first | rfl | (simp [*]; done)) (by first | rfl | (simp [*]; done)) (by repeat (first | with_reducible exact Rep1.here | with_reducible apply Rep1.there)) (by first | exact Put.full rfl | ((repeat constructor); done) | exact Put.full (by first | rfl | simp [*])) ?_)
                                    refine L_nil ?_
                                    refine Q_then ?_
                                    refine J_seq ?_
                                    refine J_region ?_
                                    refine L_pur rfl (p_move rfl) ?_
                                    refine L_op (x_call Try.func81 nm81 bd81 (.cons rfl (.cons rfl .nil)) rfl (next (zs := zs) (by repeat (first | with_reducible exact Pick.here | with_reducible assumption | with_reducible apply Pick.there)) (fun w H => hr w (Sub.sep (by repeat (first | exact Sub.nil | exact Sub.refl | refine Sub.cons (by repeat (first | exact Pick.here | apply Pick.there)) ?_ | refine Sub.drop ?_)) H)) (by omega) (by omega) (by omega)) fun x129 => ?_)
                                    refine J_pure fun hx129 => ?_
                                    refine L_pur rfl (p_eql rfl rfl) ?_
                                    refine L_nil ?_
                                    refine Q_then ?_
                                    refine J_gsplit (t := 130) rfl (fun h130 => ?_) (fun h130 => ?_)
                                    ·
                                      refine C_true rfl ?_
                                      refine J_region ?_
                                      refine L_pur rfl (p_move rfl) ?_
                                      refine L_op (x_call Try.func110 nm110 bd110 (.cons rfl .nil) rfl (addr (zs := zs) (by repeat (first | with_reducible exact Pick.here | with_reducible assumption | with_reducible apply Pick.there)) (fun w H => hr w (Sub.sep (by repeat (first | exact Sub.nil | exact Sub.refl | refine Sub.cons (by repeat (first | exact Pick.here | apply Pick.there)) ?_ | refine Sub.drop ?_)) H)) (by omega)) fun x => ?_)
                                      refine L_pur rfl (p_fieldAddr rfl fa39_3) ?_
                                      refine L_op (x_store rfl rfl ty37 rfl (by first | rfl | (simp [*]; done)) (by first | rfl | (simp [*]; done)) (by repeat (first | with_reducible exact Rep1.here | with_reducible apply Rep1.there)) (by first | exact Put.full rfl | ((repeat constructor); done) | exact Put.full (by first | rfl | simp [*])) ?_)
                                      refine L_nil ?_
                                      refine Q_blk_normal ?_
                                      refine Q_then ?_
                                      refine J_pick (A := blk b3 39 _) (by repeat (first | with_reducible exact Pick.here | with_reducible assumption | with_reducible apply Pick.there)) ?_
                                      refine J_closeS ?_
                                      refine J_pick (A := sA b v _) (by repeat (first | with_reducible exact Pick.here | with_reducible assumption | with_reducible apply Pick.there)) ?_
                                      refine J_sUp (lo' := lo + 25) (by omega) ?_
                                      exact J_at (L := (fun _ : Unit => eA b3 :: sA b v (lo + 25) :: blk b2 39 [.int .i64 0, .int .i64 0, .int .u32 0, .int .u32 0, .int .u32 0, .int .u32 0, .int .u32 0, .int .u32 0] :: m)) (G := (fun _ : Unit => [(0, .pointer (some ⟨b, 0, none⟩)), (2, .pointer (some ⟨b2, 0, none⟩)), (3, .pointer (some ⟨b3, 0, none⟩))])) () (by repeat (first | exact Sub.nil | exact Sub.refl | refine Sub.cons (by repeat (first | exact Pick.here | apply Pick.there)) ?_ | refine Sub.drop ?_)) (by repeat (first | exact Keep.nil | refine Keep.cons rfl ?_))
                                    ·
                                      refine C_false rfl ?_
                                      refine J_skip ?_
                                      refine Q_blk_normal ?_
                                      refine Q_then ?_
                                      refine J_pick (A := blk b3 39 _) (by repeat (first | with_reducible exact Pick.here | with_reducible assumption | with_reducible apply Pick.there)) ?_
                                      refine J_closeS ?_
                                      refine J_pick (A := sA b v _) (by repeat (first | with_reducible exact Pick.here | with_reducible assumption | with_reducible apply Pick.there)) ?_
                                      refine J_sUp (lo' := lo + 25) (by omega) ?_
                                      exact J_at (L := (fun _ : Unit => eA b3 :: sA b v (lo + 25) :: blk b2 39 [.int .i64 0, .int .i64 0, .int .u32 0, .int .u32 0, .int .u32 0, .int .u32 0, .int .u32 0, .int .u32 0] :: m)) (G := (fun _ : Unit => [(0, .pointer (some ⟨b, 0, none⟩)), (2, .pointer (some ⟨b2, 0, none⟩)), (3, .pointer (some ⟨b3, 0, none⟩))])) () (by repeat (first | exact Sub.nil | exact Sub.refl | refine Sub.cons (by repeat (first | exact Pick.here | apply Pick.there)) ?_ | refine Sub.drop ?_)) (by repeat (first | exact Keep.nil | refine Keep.cons rfl ?_))
                                  ·
                                    refine C_false rfl ?_
                                    refine J_skip ?_
                                    refine Q_blk_normal ?_
                                    refine Q_then ?_
                                    refine J_pick (A := blk b3 39 _) (by repeat (first | with_reducible exact Pick.here | with_reducible assumption | with_reducible apply Pick.there)) ?_
                                    refine J_closeS ?_
                                    refine J_pick (A := sA b v _) (by repeat (first | with_reducible exact Pick.here | with_reducible assumption | with_reducible apply Pick.there)) ?_
                                    refine J_sUp (lo' := lo + 25) (by omega) ?_
                                    exact J_at (L := (fun _ : Unit => eA b3 :: sA b v (lo + 25) :: blk b2 39 [.int .i64 0, .int .i64 0, .int .u32 0, .int .u32 0, .int .u32 0, .int .u32 0, .int .u32 0, .int .u32 0] :: m)) (G := (fun _ : Unit => [(0, .pointer (some ⟨b, 0, none⟩)), (2, .pointer (some ⟨b2, 0, none⟩)), (3, .pointer (some ⟨b3, 0, none⟩))])) () (by repeat (first | exact Sub.nil | exact Sub.refl | refine Sub.cons (by repeat (first | exact Pick.here | apply Pick.there)) ?_ | refine Sub.drop ?_)) (by repeat (first | exact Keep.nil | refine Keep.cons rfl ?_))
  ·
    intro _
    refine J_pick (A := eA b3) .here ?_
    refine J_ex fun e => ?_
    refine J_seq ?_
    refine J_seq ?_
    refine J_region ?_
    refine L_pur rfl (p_move rfl) ?_
    refine L_op (x_call Try.func81 nm81 bd81 (.cons rfl (.cons rfl .nil)) rfl (next (zs := zs) (by repeat (first | with_reducible exact Pick.here | with_reducible assumption | with_reducible apply Pick.there)) (fun w H => hr w (Sub.sep (by repeat (first | exact Sub.nil | exact Sub.refl | refine Sub.cons (by repeat (first | exact Pick.here | apply Pick.there)) ?_ | refine Sub.drop ?_)) H)) (by omega) (by omega) (by omega)) fun x135 => ?_)
    refine J_pure fun hx135 => ?_
    refine L_nil ?_
    refine Q_then ?_
    refine J_block ?_
    refine J_seq ?_
    refine J_seq ?_
    refine J_region ?_
    refine L_pur rfl (p_eql rfl rfl) ?_
    refine L_pur rfl (p_assign rfl) ?_
    refine L_nil ?_
    refine Q_then ?_
    refine J_gsplit (t := 136) rfl (fun h136 => ?_) (fun h136 => ?_)
    ·
      refine C_true rfl ?_
      refine J_skip ?_
      refine Q_then ?_
      refine C_true rfl ?_
      refine J_region ?_
      refine L_pur rfl (p_fieldAddr rfl fa39_1) ?_
      refine L_op (x_store rfl rfl ty3 rfl (by first | rfl | (simp [*]; done)) (by first | rfl | (simp [*]; done)) (by repeat (first | with_reducible exact Rep1.here | with_reducible apply Rep1.there)) (by first | exact Put.full rfl | ((repeat constructor); done) | exact Put.full (by first | rfl | simp [*])) ?_)
      refine L_nil ?_
      refine Q_blk_normal ?_
      refine Q_then ?_
      refine J_seq ?_
      refine J_pick (A := blk b3 39 _) (by repeat (first | with_reducible exact Pick.here | with_reducible assumption | with_reducible apply Pick.there)) ?_
      refine J_closeS ?_
      refine J_pick (A := eA b3) .here ?_
      refine J_ex fun e' => ?_
      refine J_region ?_
      refine L_val rfl (v_loadA rfl ty39 (by repeat (first | with_reducible exact Has.here | with_reducible assumption | with_reducible apply Has.there)) (by first | exact Cut.full rfl | ((repeat constructor); done) | exact Cut.full (by first | rfl | simp [*]))) ?_
      refine L_op (x_store rfl rfl ty39 rfl (by first | rfl | (simp [*]; done)) (by first | rfl | (simp [*]; done)) (by repeat (first | with_reducible exact Rep1.here | with_reducible apply Rep1.there)) (by first | exact Put.full rfl | ((repeat constructor); done) | exact Put.full (by first | rfl | simp [*])) ?_)
      refine L_nil ?_
      refine Q_then ?_
      refine J_ret ?_
      refine J_pick (A := sA b v _) (by repeat (first | with_reducible exact Pick.here | with_reducible assumption | with_reducible apply Pick.there)) ?_
      refine J_sUp (lo' := lo + 30) (by omega) ?_
      exact J_return (_) Try.results82 (.cellA rfl ty39 (by repeat (first | with_reducible exact Has.here | with_reducible assumption | with_reducible apply Has.there)) (by first | exact Cut.full rfl | ((repeat constructor); done) | exact Cut.full (by first | rfl | simp [*])) .nil) rfl (by repeat (first | exact Sub.nil | exact Sub.refl | refine Sub.cons (by repeat (first | exact Pick.here | apply Pick.there)) ?_ | refine Sub.drop ?_))
    ·
      refine C_false rfl ?_
      refine J_region ?_
      refine L_pur rfl (p_eql rfl rfl) ?_
      refine L_pur rfl (p_assign rfl) ?_
      refine L_nil ?_
      refine Q_then ?_
      refine J_gsplit (t := 136) rfl (fun h136 => ?_) (fun h136 => ?_)
      ·
        refine C_true rfl ?_
        refine J_region ?_
        refine L_pur rfl (p_fieldAddr rfl fa39_1) ?_
        refine L_op (x_store rfl rfl ty3 rfl (by first | rfl | (simp [*]; done)) (by first | rfl | (simp [*]; done)) (by repeat (first | with_reducible exact Rep1.here | with_reducible apply Rep1.there)) (by first | exact Put.full rfl | ((repeat constructor); done) | exact Put.full (by first | rfl | simp [*])) ?_)
        refine L_nil ?_
        refine Q_blk_normal ?_
        refine Q_then ?_
        refine J_seq ?_
        refine J_pick (A := blk b3 39 _) (by repeat (first | with_reducible exact Pick.here | with_reducible assumption | with_reducible apply Pick.there)) ?_
        refine J_closeS ?_
        refine J_pick (A := eA b3) .here ?_
        refine J_ex fun e' => ?_
        refine J_region ?_
        refine L_val rfl (v_loadA rfl ty39 (by repeat (first | with_reducible exact Has.here | with_reducible assumption | with_reducible apply Has.there)) (by first | exact Cut.full rfl | ((repeat constructor); done) | exact Cut.full (by first | rfl | simp [*]))) ?_
        refine L_op (x_store rfl rfl ty39 rfl (by first | rfl | (simp [*]; done)) (by first | rfl | (simp [*]; done)) (by repeat (first | with_reducible exact Rep1.here | with_reducible apply Rep1.there)) (by first | exact Put.full rfl | ((repeat constructor); done) | exact Put.full (by first | rfl | simp [*])) ?_)
        refine L_nil ?_
        refine Q_then ?_
        refine J_ret ?_
        refine J_pick (A := sA b v _) (by repeat (first | with_reducible exact Pick.here | with_reducible assumption | with_reducible apply Pick.there)) ?_
        refine J_sUp (lo' := lo + 30) (by omega) ?_
        exact J_return (_) Try.results82 (.cellA rfl ty39 (by repeat (first | with_reducible exact Has.here | with_reducible assumption | with_reducible apply Has.there)) (by first | exact Cut.full rfl | ((repeat constructor); done) | exact Cut.full (by first | rfl | simp [*])) .nil) rfl (by repeat (first | exact Sub.nil | exact Sub.refl | refine Sub.cons (by repeat (first | exact Pick.here | apply Pick.there)) ?_ | refine Sub.drop ?_))
      ·
        refine C_false rfl ?_
        refine J_seq ?_
        refine J_region ?_
        refine L_pur rfl (p_eql rfl rfl) ?_
        refine L_pur rfl (p_assign rfl) ?_
        refine L_nil ?_
        refine Q_then ?_
        refine J_gsplit (t := 140) rfl (fun h140 => ?_) (fun h140 => ?_)
        ·
          refine C_true rfl ?_
          refine J_region ?_
          refine L_pur rfl (p_fieldAddr rfl fa39_1) ?_
          refine L_op (x_store rfl rfl ty3 rfl (by first | rfl | (simp [*]; done)) (by first | rfl | (simp [*]; done)) (by repeat (first | with_reducible exact Rep1.here | with_reducible apply Rep1.there)) (by first | exact Put.full rfl | ((repeat constructor); done) | exact Put.full (by first | rfl | simp [*])) ?_)
          refine L_nil ?_
          refine Q_blk_normal ?_
          refine Q_then ?_
          refine J_seq ?_
          refine J_pick (A := blk b3 39 _) (by repeat (first | with_reducible exact Pick.here | with_reducible assumption | with_reducible apply Pick.there)) ?_
          refine J_closeS ?_
          refine J_pick (A := eA b3) .here ?_
          refine J_ex fun e' => ?_
          refine J_region ?_
          refine L_val rfl (v_loadA rfl ty39 (by repeat (first | with_reducible exact Has.here | with_reducible assumption | with_reducible apply Has.there)) (by first | exact Cut.full rfl | ((repeat constructor); done) | exact Cut.full (by first | rfl | simp [*]))) ?_
          refine L_op (x_store rfl rfl ty39 rfl (by first | rfl | (simp [*]; done)) (by first | rfl | (simp [*]; done)) (by repeat (first | with_reducible exact Rep1.here | with_reducible apply Rep1.there)) (by first | exact Put.full rfl | ((repeat constructor); done) | exact Put.full (by first | rfl | simp [*])) ?_)
          refine L_nil ?_
          refine Q_then ?_
          refine J_ret ?_
          refine J_pick (A := sA b v _) (by repeat (first | with_reducible exact Pick.here | with_reducible assumption | with_reducible apply Pick.there)) ?_
          refine J_sUp (lo' := lo + 30) (by omega) ?_
          exact J_return (_) Try.results82 (.cellA rfl ty39 (by repeat (first | with_reducible exact Has.here | with_reducible assumption | with_reducible apply Has.there)) (by first | exact Cut.full rfl | ((repeat constructor); done) | exact Cut.full (by first | rfl | simp [*])) .nil) rfl (by repeat (first | exact Sub.nil | exact Sub.refl | refine Sub.cons (by repeat (first | exact Pick.here | apply Pick.there)) ?_ | refine Sub.drop ?_))
        ·
          refine C_false rfl ?_
          refine J_seq ?_
          refine J_region ?_
          refine L_pur rfl (p_eql rfl rfl) ?_
          refine L_pur rfl (p_assign rfl) ?_
          refine L_nil ?_
          refine Q_then ?_
          refine J_gsplit (t := 143) rfl (fun h143 => ?_) (fun h143 => ?_)
          ·
            refine C_true rfl ?_
            refine J_region ?_
            refine L_pur rfl (p_fieldAddr rfl fa39_1) ?_
            refine L_op (x_store rfl rfl ty3 rfl (by first | rfl | (simp [*]; done)) (by first | rfl | (simp [*]; done)) (by repeat (first | with_reducible exact Rep1.here | with_reducible apply Rep1.there)) (by first | exact Put.full rfl | ((repeat constructor); done) | exact Put.full (by first | rfl | simp [*])) ?_)
            refine L_nil ?_
            refine Q_blk_normal ?_
            refine Q_then ?_
            refine J_seq ?_
            refine J_pick (A := blk b3 39 _) (by repeat (first | with_reducible exact Pick.here | with_reducible assumption | with_reducible apply Pick.there)) ?_
            refine J_closeS ?_
            refine J_pick (A := eA b3) .here ?_
            refine J_ex fun e' => ?_
            refine J_region ?_
            refine L_val rfl (v_loadA rfl ty39 (by repeat (first | with_reducible exact Has.here | with_reducible assumption | with_reducible apply Has.there)) (by first | exact Cut.full rfl | ((repeat constructor); done) | exact Cut.full (by first | rfl | simp [*]))) ?_
            refine L_op (x_store rfl rfl ty39 rfl (by first | rfl | (simp [*]; done)) (by first | rfl | (simp [*]; done)) (by repeat (first | with_reducible exact Rep1.here | with_reducible apply Rep1.there)) (by first | exact Put.full rfl | ((repeat constructor); done) | exact Put.full (by first | rfl | simp [*])) ?_)
            refine L_nil ?_
            refine Q_then ?_
            refine J_ret ?_
            refine J_pick (A := sA b v _) (by repeat (first | with_reducible exact Pick.here | with_reducible assumption | with_reducible apply Pick.there)) ?_
            refine J_sUp (lo' := lo + 30) (by omega) ?_
            exact J_return (_) Try.results82 (.cellA rfl ty39 (by repeat (first | with_reducible exact Has.here | with_reducible assumption | with_reducible apply Has.there)) (by first | exact Cut.full rfl | ((repeat constructor); done) | exact Cut.full (by first | rfl | simp [*])) .nil) rfl (by repeat (first | exact Sub.nil | exact Sub.refl | refine Sub.cons (by repeat (first | exact Pick.here | apply Pick.there)) ?_ | refine Sub.drop ?_))
          ·
            refine C_false rfl ?_
            refine J_seq ?_
            refine J_region ?_
            refine L_pur rfl (p_eql rfl rfl) ?_
            refine L_pur rfl (p_assign rfl) ?_
            refine L_nil ?_
            refine Q_then ?_
            refine J_gsplit (t := 146) rfl (fun h146 => ?_) (fun h146 => ?_)
            ·
              refine C_true rfl ?_
              refine J_seq ?_
              refine J_region ?_
              refine L_pur rfl (p_fieldAddr rfl fa39_1) ?_
              refine L_op (x_store rfl rfl ty3 rfl (by first | rfl | (simp [*]; done)) (by first | rfl | (simp [*]; done)) (by repeat (first | with_reducible exact Rep1.here | with_reducible apply Rep1.there)) (by first | exact Put.full rfl | ((repeat constructor); done) | exact Put.full (by first | rfl | simp [*])) ?_)
              refine L_nil ?_
              refine Q_then ?_
              refine J_region ?_
              refine L_pur rfl (p_move rfl) ?_
              refine L_op (x_call Try.func81 nm81 bd81 (.cons rfl (.cons rfl .nil)) rfl (next (zs := zs) (by repeat (first | with_reducible exact Pick.here | with_reducible assumption | with_reducible apply Pick.there)) (fun w H => hr w (Sub.sep (by repeat (first | exact Sub.nil | exact Sub.refl | refine Sub.cons (by repeat (first | exact Pick.here | apply Pick.there)) ?_ | refine Sub.drop ?_)) H)) (by omega) (by omega) (by omega)) fun x150 => ?_)
              refine J_pure fun hx150 => ?_
              refine L_pur rfl (p_conv rfl Try.underlying3 Try.underlying37) ?_
              refine L_pur rfl (p_fieldAddr rfl fa39_7) ?_
              refine L_op (x_store rfl rfl ty37 rfl (by first | rfl | (simp [*]; done)) (by first | rfl | (simp [*]; done)) (by repeat (first | with_reducible exact Rep1.here | with_reducible apply Rep1.there)) (by first | exact Put.full rfl | ((repeat constructor); done) | exact Put.full (by first | rfl | simp [*])) ?_)
              refine L_nil ?_
              refine Q_blk_normal ?_
              refine Q_then ?_
              refine J_seq ?_
              refine J_pick (A := blk b3 39 _) (by repeat (first | with_reducible exact Pick.here | with_reducible assumption | with_reducible apply Pick.there)) ?_
              refine J_closeS ?_
              refine J_pick (A := eA b3) .here ?_
              refine J_ex fun e' => ?_
              refine J_region ?_
              refine L_val rfl (v_loadA rfl ty39 (by repeat (first | with_reducible exact Has.here | with_reducible assumption | with_reducible apply Has.there)) (by first | exact Cut.full rfl | ((repeat constructor); done) | exact Cut.full (by first | rfl | simp [*]))) ?_
              refine L_op (x_store rfl rfl ty39 rfl (by first | rfl | (simp [*]; done)) (by first | rfl | (simp [*]; done)) (by repeat (first | with_reducible exact Rep1.here | with_reducible apply Rep1.there)) (by first | exact Put.full rfl | ((repeat constructor); done) | exact Put.full (by first | rfl | simp [*])) ?_)
              refine L_nil ?_
              refine Q_then ?_
              refine J_ret ?_
              refine J_pick (A := sA b v _) (by repeat (first | with_reducible exact Pick.here | with_reducible assumption | with_reducible apply Pick.there)) ?_
              refine J_sUp (lo' := lo + 30) (by omega) ?_
              exact J_return (_) Try.results82 (.cellA rfl ty39 (by repeat (first | with_reducible exact Has.here | with_reducible assumption | with_reducible apply Has.there)) (by first | exact Cut.full rfl | ((repeat constructor); done) | exact Cut.full (by first | rfl | simp [*])) .nil) rfl (by repeat (first | exact Sub.nil | exact Sub.refl | refine Sub.cons (by repeat (first | exact Pick.here | apply Pick.there)) ?_ | refine Sub.drop ?_))
            ·
              refine C_false rfl ?_
              refine J_seq ?_
              refine J_seq ?_
              refine J_region ?_
              refine L_pur rfl (p_eql rfl rfl) ?_
              refine L_pur rfl (p_assign rfl) ?_
              refine L_nil ?_
              refine Q_then ?_
              refine J_gsplit (t := 153) rfl (fun h153 => ?_) (fun h153 => ?_)
              ·
                refine C_true rfl ?_
                refine J_skip ?_
                refine Q_then ?_
                refine C_true rfl ?_
                refine J_region ?_
                refine L_pur rfl (p_move rfl) ?_
                refine L_op (x_call Try.func81 nm81 bd81 (.cons rfl (.cons rfl .nil)) rfl (next (zs := zs) (by repeat (first | with_reducible exact Pick.here | with_reducible assumption | with_reducible apply Pick.there)) (fun w H => hr w (Sub.sep (by repeat (first | exact Sub.nil | exact Sub.refl | refine Sub.cons (by repeat (first | exact Pick.here | apply Pick.there)) ?_ | refine Sub.drop ?_)) H)) (by omega) (by omega) (by omega)) fun x157 => ?_)
                refine J_pure fun hx157 => ?_
                refine L_pur rfl (p_add64 rfl rfl (by omega)) ?_
                refine L_pur rfl (p_conv rfl Try.underlying3 Try.underlying37) ?_
                refine L_pur rfl (p_fieldAddr rfl fa39_7) ?_
                refine L_op (x_store rfl rfl ty37 rfl (by first | rfl | (simp [*]; done)) (by first | rfl | (simp [*]; done)) (by repeat (first | with_reducible exact Rep1.here | with_reducible apply Rep1.there)) (by first | exact Put.full rfl | ((repeat constructor); done) | exact Put.full (by first | rfl | simp [*])) ?_)
                refine L_nil ?_
                refine Q_blk_normal ?_
                refine Q_then ?_
                refine J_seq ?_
                refine J_pick (A := blk b3 39 _) (by repeat (first | with_reducible exact Pick.here | with_reducible assumption | with_reducible apply Pick.there)) ?_
                refine J_closeS ?_
                refine J_pick (A := eA b3) .here ?_
                refine J_ex fun e' => ?_
                refine J_region ?_
                refine L_val rfl (v_loadA rfl ty39 (by repeat (first | with_reducible exact Has.here | with_reducible assumption | with_reducible apply Has.there)) (by first | exact Cut.full rfl | ((repeat constructor); done) | exact Cut.full (by first | rfl | simp [*]))) ?_
                refine L_op (x_store rfl rfl ty39 rfl (by first | rfl | (simp [*]; done)) (by first | rfl | (simp [*]; done)) (by repeat (first | with_reducible exact Rep1.here | with_reducible apply Rep1.there)) (by first | exact Put.full rfl | ((repeat constructor); done) | exact Put.full (by first | rfl | simp [*])) ?_)
                refine L_nil ?_
                refine Q_then ?_
                refine J_ret ?_
                refine J_pick (A := sA b v _) (by repeat (first | with_reducible exact Pick.here | with_reducible assumption | with_reducible apply Pick.there)) ?_
                refine J_sUp (lo' := lo + 30) (by omega) ?_
                exact J_return (_) Try.results82 (.cellA rfl ty39 (by repeat (first | with_reducible exact Has.here | with_reducible assumption | with_reducible apply Has.there)) (by first | exact Cut.full rfl | ((repeat constructor); done) | exact Cut.full (by first | rfl | simp [*])) .nil) rfl (by repeat (first | exact Sub.nil | exact Sub.refl | refine Sub.cons (by repeat (first | exact Pick.here | apply Pick.there)) ?_ | refine Sub.drop ?_))
              ·
                refine C_false rfl ?_
                refine J_region ?_
                refine L_pur rfl (p_eql rfl rfl) ?_
                refine L_pur rfl (p_assign rfl) ?_
                refine L_nil ?_
                refine Q_then ?_
                refine J_gsplit (t := 153) rfl (fun h153 => ?_) (fun h153 => ?_)
                ·
                  refine C_true rfl ?_
                  refine J_region ?_
                  refine L_pur rfl (p_move rfl) ?_
                  refine L_op (x_call Try.func81 nm81 bd81 (.cons rfl (.cons rfl .nil)) rfl (next (zs := zs) (by repeat (first | with_reducible exact Pick.here | with_reducible assumption | with_reducible apply Pick.there)) (fun w H => hr w (Sub.sep (by repeat (first | exact Sub.nil | exact Sub.refl | refine Sub.cons (by repeat (first | exact Pick.here | apply Pick.there)) ?_ | refine Sub.drop ?_)) H)) (by omega) (by omega) (by omega)) fun x157 => ?_)
                  refine J_pure fun hx157 => ?_
                  refine L_pur rfl (p_add64 rfl rfl (by omega)) ?_
                  refine L_pur rfl (p_conv rfl Try.underlying3 Try.underlying37) ?_
                  refine L_pur rfl (p_fieldAddr rfl fa39_7) ?_
                  refine L_op (x_store rfl rfl ty37 rfl (by first | rfl | (simp [*]; done)) (by first | rfl | (simp [*]; done)) (by repeat (first | with_reducible exact Rep1.here | with_reducible apply Rep1.there)) (by first | exact Put.full rfl | ((repeat constructor); done) | exact Put.full (by first | rfl | simp [*])) ?_)
                  refine L_nil ?_
                  refine Q_blk_normal ?_
                  refine Q_then ?_
                  refine J_seq ?_
                  refine J_pick (A := blk b3 39 _) (by repeat (first | with_reducible exact Pick.here | with_reducible assumption | with_reducible apply Pick.there)) ?_
                  refine J_closeS ?_
                  refine J_pick (A := eA b3) .here ?_
                  refine J_ex fun e' => ?_
                  refine J_region ?_
                  refine L_val rfl (v_loadA rfl ty39 (by repeat (first | with_reducible exact Has.here | with_reducible assumption | with_reducible apply Has.there)) (by first | exact Cut.full rfl | ((repeat constructor); done) | exact Cut.full (by first | rfl | simp [*]))) ?_
                  refine L_op (x_store rfl rfl ty39 rfl (by first | rfl | (simp [*]; done)) (by first | rfl | (simp [*]; done)) (by repeat (first | with_reducible exact Rep1.here | with_reducible apply Rep1.there)) (by first | exact Put.full rfl | ((repeat constructor); done) | exact Put.full (by first | rfl | simp [*])) ?_)
                  refine L_nil ?_
                  refine Q_then ?_
                  refine J_ret ?_
                  refine J_pick (A := sA b v _) (by repeat (first | with_reducible exact Pick.here | with_reducible assumption | with_reducible apply Pick.there)) ?_
                  refine J_sUp (lo' := lo + 30) (by omega) ?_
                  exact J_return (_) Try.results82 (.cellA rfl ty39 (by repeat (first | with_reducible exact Has.here | with_reducible assumption | with_reducible apply Has.there)) (by first | exact Cut.full rfl | ((repeat constructor); done) | exact Cut.full (by first | rfl | simp [*])) .nil) rfl (by repeat (first | exact Sub.nil | exact Sub.refl | refine Sub.cons (by repeat (first | exact Pick.here | apply Pick.there)) ?_ | refine Sub.drop ?_))
                ·
                  refine C_false rfl ?_
                  refine J_skip ?_
                  refine Q_blk_normal ?_
                  refine Q_then ?_
                  refine J_seq ?_
                  refine J_pick (A := blk b3 39 _) (by repeat (first | with_reducible exact Pick.here | with_reducible assumption | with_reducible apply Pick.there)) ?_
                  refine J_closeS ?_
                  refine J_pick (A := eA b3) .here ?_
                  refine J_ex fun e' => ?_
                  refine J_region ?_
                  refine L_val rfl (v_loadA rfl ty39 (by repeat (first | with_reducible exact Has.here | with_reducible assumption | with_reducible apply Has.there)) (by first | exact Cut.full rfl | ((repeat constructor); done) | exact Cut.full (by first | rfl | simp [*]))) ?_
                  refine L_op (x_store rfl rfl ty39 rfl (by first | rfl | (simp [*]; done)) (by first | rfl | (simp [*]; done)) (by repeat (first | with_reducible exact Rep1.here | with_reducible apply Rep1.there)) (by first | exact Put.full rfl | ((repeat constructor); done) | exact Put.full (by first | rfl | simp [*])) ?_)
                  refine L_nil ?_
                  refine Q_then ?_
                  refine J_ret ?_
                  refine J_pick (A := sA b v _) (by repeat (first | with_reducible exact Pick.here | with_reducible assumption | with_reducible apply Pick.there)) ?_
                  refine J_sUp (lo' := lo + 30) (by omega) ?_
                  exact J_return (_) Try.results82 (.cellA rfl ty39 (by repeat (first | with_reducible exact Has.here | with_reducible assumption | with_reducible apply Has.there)) (by first | exact Cut.full rfl | ((repeat constructor); done) | exact Cut.full (by first | rfl | simp [*])) .nil) rfl (by repeat (first | exact Sub.nil | exact Sub.refl | refine Sub.cons (by repeat (first | exact Pick.here | apply Pick.there)) ?_ | refine Sub.drop ?_))

end Go.Pse
