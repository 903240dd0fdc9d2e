/-
  Some entries.
-/
import Derived.Test.YtjolbnicboaaeaaCh1
namespace Go.Pse
open Go.RowKit Go.Proofs

/-- Some entries, at most twenty, whatever they are, as what v leads to. -/
def esF (v : Value) (es : List Sqe) : As := As.all [As.pure (es.length ≤ 20), row 39 8 v (es.map encS)]
def esA (v : Value) : As := As.ex (esF v)
section
variable {E : World} {l : List As} {n : Nat} {F : Env} {K : Act → World → Prop} {v : Value}
theorem J_esOpen (j : ∀ es : List Sqe, es.length ≤ 20 → Jk E (row 39 8 v (es.map encS) :: l) n F K) : Jk E (esA v :: l) n F K :=
  J_ex fun es => J_all2 (J_pure fun h => j es h)
theorem J_esShut {es : List Sqe} (h : es.length ≤ 20) (j : Jk E (esA v :: l) n F K) : Jk E (row 39 8 v (es.map encS) :: l) n F K :=
  J_pure_in h (J_all_in (m := [As.pure (es.length ≤ 20), row 39 8 v (es.map encS)]) (J_ex_in (f := esF v) es j))
end

set_option maxRecDepth 100000 in
set_option maxHeartbeats 4000000 in
theorem entries {E : World} {l m : List As} {b lo : Nat} {v : Value} {zs : List Int} (hp : Pick (sA b v lo) l m) (hr : ∀ w, Sep E w m → Reads w 1 v (zs.map fun z => [Value.int .i64 z])) (hlo : lo ≤ 10000) :
    Con Try.prog 24 #[.pointer (some ⟨b, 0, none⟩), .int .i64 20] E l (fun v' : Value => v') (fun v' => esA v' :: sA b v (lo + 1000) :: m) := by
  refine Con.body (vs := [.pointer (some ⟨b, 0, none⟩), .int .i64 20]) (n := 21) Try.func24 rfl rfl [(0, .pointer (some ⟨b, 0, none⟩)), (1, .int .i64 20)] (env_ok 2 rfl) ?_
  refine J_pick hp ?_
  refine J_seq ?_
  refine J_region ?_
  refine L_pur rfl (p_assign rfl) ?_
  refine L_nil ?_
  refine Q_then ?_
  refine J_seq ?_
  refine J_region ?_
  refine L_pur rfl (p_assign rfl) ?_
  refine L_nil ?_
  refine Q_then ?_
  refine J_seq ?_
  refine J_seq ?_
  refine J_region ?_
  refine L_pur rfl (p_move rfl) ?_
  refine L_pur rfl (p_move rfl) ?_
  refine L_pur rfl (p_add64 rfl rfl (by omega)) ?_
  refine L_op (x_call Try.func81 nm81 bd81 (.cons rfl (.cons rfl .nil)) rfl (next (zs := zs) (by repeat (first | with_reducible exact Pick.here | with_reducible assumption | with_reducible apply Pick.there)) (fun w H => hr w (Sub.sep (by repeat (first | exact Sub.nil | exact Sub.refl | refine Sub.cons (by repeat (first | exact Pick.here | apply Pick.there)) ?_ | refine Sub.drop ?_)) H)) (by omega) (by omega) (by omega)) fun x10 => ?_)
  refine J_pure fun hx10 => ?_
  refine L_pur rfl (p_assign rfl) ?_
  refine L_nil ?_
  refine Q_then ?_
  refine J_block ?_
  refine J_nil (el := 39) (sz := 8) ?_
  refine J_loop3 (fun (i : Nat) (v' : Value) (es : List Sqe) => es.length + i ≤ 20) (fun i v' es => row 39 8 v' (es.map encS) :: sA b v (lo + 1 + 30 * es.length) :: m) (fun i v' es => [(6, .int .i64 (i : Int)), (5, v'), (0, .pointer (some ⟨b, 0, none⟩))]) (fun i v' es => i) x10 (.slice none 0 0) ([] : List Sqe) (by simp; omega) (by repeat (first | exact Sub.nil | exact Sub.refl | refine Sub.cons (by repeat (first | exact Pick.here | apply Pick.there)) ?_ | refine Sub.drop ?_)) (by repeat (first | exact Keep.nil | refine Keep.cons rfl ?_)) ?_
  intro i v' es hes
  refine J_seq ?_
  refine J_seq ?_
  refine J_region ?_
  refine L_pur rfl (p_move rfl) ?_
  refine L_pur rfl (p_gtr rfl rfl) ?_
  refine L_nil ?_
  refine Q_then ?_
  refine C_dec rfl (fun h12 => ?_) (fun h12 => ?_)
  ·
    refine J_skip ?_
    refine Q_then ?_
    refine J_seq ?_
    refine J_block ?_
    refine J_region ?_
    refine L_pur rfl (p_move rfl) ?_
    refine L_pur rfl (p_move rfl) ?_
    refine L_op (x_call Try.func82 nm82 bd82 (.cons rfl .nil) rfl (entry (zs := zs) (by repeat (first | with_reducible exact Pick.here | with_reducible assumption | with_reducible apply Pick.there)) (fun w H => hr w (Sub.sep (by repeat (first | exact Sub.nil | exact Sub.refl | refine Sub.cons (by repeat (first | exact Pick.here | apply Pick.there)) ?_ | refine Sub.drop ?_)) H)) (by omega)) fun e => ?_)
    refine L_op (x_lit (vals := [_]) Try.underlying29 ty39 rfl (.cons rfl .nil) (.agg .nil) (Wf.cons rfl rfl Wf.nil) rfl (by decide) rfl rfl fun v18 => ?_)
    refine J_row .here fun hw18 a18 c18 hv18 hl18 hm18 hz18 => ?_
    subst hv18
    refine L_op (x_app rfl rfl Try.underlying29 ty39 rfl rfl (by repeat (first | with_reducible exact Pick.here | with_reducible assumption | with_reducible apply Pick.there)) (fun w H => sep_reads (by repeat (first | with_reducible exact Has.here | with_reducible assumption | with_reducible apply Has.there)) H) (by first | omega | (simp <;> omega)) (by first | omega | (simp <;> omega)) rfl fun v19 => ?_)
    refine J_rowEq (ys := (es ++ [e]).map encS) (by simp) ?_
    refine J_row .here fun hw19 a19 c19 hv19 hl19 hm19 hz19 => ?_
    subst hv19
    refine L_pur rfl (p_assign rfl) ?_
    refine L_nil ?_
    refine Q_blk_normal ?_
    refine Q_then ?_
    refine J_region ?_
    refine L_pur rfl (p_move rfl) ?_
    refine L_pur rfl (p_sub64 rfl rfl (by omega)) ?_
    refine L_pur rfl (p_assign rfl) ?_
    refine L_nil ?_
    refine Q_then ?_
    refine J_pick (A := sA b v _) (by repeat (first | with_reducible exact Pick.here | with_reducible assumption | with_reducible apply Pick.there)) ?_
    refine J_sUp (lo' := lo + 1 + 30 * (es ++ [e]).length) (by simp; omega) ?_
    refine J_slot (t := 6) (v := .int .i64 ((i - 1 : Nat) : Int)) rfl (by congr 1; omega) ?_
    exact J_again3 (i - 1) _ (es ++ [e]) (by omega) (by simp; omega) (by repeat (first | exact Sub.nil | exact Sub.refl | refine Sub.cons (by repeat (first | exact Pick.here | apply Pick.there)) ?_ | refine Sub.drop ?_)) (by repeat (first | exact Keep.nil | refine Keep.cons rfl ?_))
  ·
    refine J_exit ?_
    refine Q_then_exit ?_
    refine Q_then_exit ?_
    refine Q_blk_this ?_
    refine Q_then ?_
    refine J_seq ?_
    refine J_region ?_
    refine L_pur rfl (p_move rfl) ?_
    refine L_pur rfl (p_assign rfl) ?_
    refine L_nil ?_
    refine Q_then ?_
    refine J_ret ?_
    refine J_pick (A := sA b v _) (by repeat (first | with_reducible exact Pick.here | with_reducible assumption | with_reducible apply Pick.there)) ?_
    refine J_sUp (lo' := lo + 1000) (by omega) ?_
    refine J_pick (A := row 39 8 v' _) (by repeat (first | with_reducible exact Pick.here | with_reducible assumption | with_reducible apply Pick.there)) ?_
    refine J_esShut (by omega) ?_
    exact J_return (_) Try.results24 (.tmp rfl .nil) rfl (by repeat (first | exact Sub.nil | exact Sub.refl | refine Sub.cons (by repeat (first | exact Pick.here | apply Pick.there)) ?_ | refine Sub.drop ?_))

end Go.Pse
