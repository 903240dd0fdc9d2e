/-
  The journal of the program, and the document's: contracts of their methods.
-/
import Derived.Test.YtjolbnicboaaeaaTy
import Derived.Test.YtjolbnicboaaeaaMore
import Derived.Test.YtjolbnicboaaeaaNum
namespace Go.Pse
open Go.RowKit Go.Proofs

/-! ### plain data -/
abbrev Deed := ID × Int × Int × Int × Int × Bool
def encD (d : Deed) : List Value := [.int .i64 d.1.1, .int .i64 d.1.2, .int .u32 d.2.1, .int .i64 d.2.2.1, .int .i64 d.2.2.2.1, .int .u32 d.2.2.2.2.1, .bool d.2.2.2.2.2]
theorem encD_one (c : Deed) : ones (encD c) = true := rfl
theorem encD_len (c : Deed) : (encD c).length = 7 := rfl
def isD (i : ID) (d : Deed) : Bool := decide (d.1.1 = i.1 ∧ d.1.2 = i.2)
def ofR (r : Int) (d : Deed) : Bool := decide (d.1.1 = r)
def gone (d : Deed) : Bool := d.2.2.2.2.2
def fAt {α : Type} (q : α → Bool) (xs : List α) : Int := if (0 : Int) > idx q xs then 0 else idx q xs
theorem fAt_of {α : Type} {q : α → Bool} {xs : List α} {k : Nat} (h : idx q xs = k) : fAt q xs = k ∧ decide (0 ≤ idx q xs) = true := by
  unfold fAt; rw [h]; constructor
  · rw [if_neg (by omega)]
  · simp
theorem fAt_no {α : Type} {q : α → Bool} {xs : List α} (h : idx q xs = -1) : fAt q xs = 0 ∧ decide (0 ≤ idx q xs) = false := by
  unfold fAt; rw [h]; exact ⟨rfl, rfl⟩
theorem take_filter_succ {α : Type} {p : α → Bool} {xs : List α} {k : Nat} {c : α} (h : xs[k]? = some c) : (xs.take (k + 1)).filter p = (xs.take k).filter p ++ if p c then [c] else [] := by
  rw [List.take_add_one, h, List.filter_append]
  by_cases hp : p c = true <;> simp [hp]
theorem take_count_succ {α : Type} {p : α → Bool} {xs : List α} {k : Nat} {c : α} (h : xs[k]? = some c) : (xs.take (k + 1)).countP p = (xs.take k).countP p + if p c then 1 else 0 := by
  rw [List.take_add_one, h, List.countP_append]
  by_cases hp : p c = true <;> simp [hp]
/-- The journal in block b: its deeds. (t: the program's type, or the document's.) -/
def jF (t : TypeId) (b : Nat) (xs : List Deed) (v : Value) : As := As.all [blk b t [v], row 68 7 v (xs.map encD)]
def jA (t : TypeId) (b : Nat) (xs : List Deed) : As := As.ex (jF t b xs)
theorem J_j {t : TypeId} {E : World} {l : List As} {n : Nat} {F : Env} {K : Act → World → Prop} {b : Nat} (k : Jk E (jA t b [] :: l) n F K) : Jk E (blk b t [.slice none 0 0] :: l) n F K :=
  J_nil (el := 68) (sz := 7) (J_shut2 (f := jF t b []) _ rfl (.there .here) .here k)

set_option maxRecDepth 100000 in
theorem clone93 {E : World} {l : List As} {v : Value} {xs : List (List Value)} (hr : ∀ w, Sep E w l → Reads w 7 v xs) (hb : xs.length ≤ 1000000) :
    Con Try.prog 93 #[v] E l (fun v' : Value => v') (fun v' => row 68 7 v' xs :: l) := by
  refine Con.body (vs := [v]) (n := 8) Try.func93 rfl rfl [(0, v)] (env_ok 1 rfl) ?_
  refine J_reads hr fun hw a cap hv h1 h2 h3 => ?_
  subst hv
  refine J_seq ?_
  refine J_region ?_
  refine L_pur rfl (p_assign rfl) ?_
  refine L_nil ?_
  refine Q_then ?_
  refine J_seq ?_
  refine J_seq ?_
  refine J_region ?_
  refine L_pur rfl (p_move rfl) ?_
  refine L_pur rfl (p_eqnil Try.underlying62 rfl) ?_
  refine L_nil ?_
  refine Q_then ?_
  refine C_split rfl (fun h4 => ?_) (fun h4 => ?_)
  ·
    obtain rfl : a = none := by simpa using h4
    obtain ⟨rfl, rfl⟩ := h3 rfl
    refine J_nil (el := 68) (sz := 7) ?_
    refine J_seq ?_
    refine J_region ?_
    refine L_pur rfl (p_assign rfl) ?_
    refine L_nil ?_
    refine Q_then ?_
    refine J_ret ?_
    refine Q_then_ret ?_
    exact J_return (_) Try.results93 (.tmp rfl .nil) rfl (by repeat (first | exact Sub.nil | exact Sub.refl | refine Sub.cons (by repeat (first | exact Pick.here | apply Pick.there)) ?_ | refine Sub.drop ?_))
  ·
    refine J_skip ?_
    refine Q_then ?_
    refine J_seq ?_
    refine J_region ?_
    refine L_op (x_lit (vals := []) Try.underlying62 ty68 rfl .nil .nil Wf.nil rfl (by decide) rfl rfl fun v5 => ?_)
    refine J_row .here fun hw5 a5 c5 hv5 hl5 hm5 hz5 => ?_
    subst hv5
    refine L_pur rfl (p_move rfl) ?_
    refine L_op (x_app rfl rfl Try.underlying62 ty68 rfl rfl (by repeat (first | with_reducible exact Pick.here | with_reducible assumption | with_reducible apply Pick.there)) (fun w H => hr w H.tail) (by first | omega | (simp <;> omega)) (by first | omega | (simp <;> omega)) rfl fun v7 => ?_)
    refine J_row .here fun hw7 a7 c7 hv7 hl7 hm7 hz7 => ?_
    subst hv7
    refine L_pur rfl (p_assign rfl) ?_
    refine L_nil ?_
    refine Q_then ?_
    refine J_ret ?_
    exact J_return (_) Try.results93 (.tmp rfl .nil) rfl (by repeat (first | exact Sub.nil | exact Sub.refl | refine Sub.cons (by repeat (first | exact Pick.here | apply Pick.there)) ?_ | refine Sub.drop ?_))

set_option maxRecDepth 100000 in
theorem indexfunc90 {E : World} {l : List As} {v : Value} {α : Type} {enc : α → List Value} {xs : List α} {g : FuncId} {caps : Array Value} {fn : Func} (hf : Try.prog.funcs[g]? = some fn) (hn : (fn.name == "runtime.NumGoroutine") = false) (hb : fn.body.isNone = false) {q : α → Bool} {C : As} (hg : ∀ (l' : List As) (c : α), Has C l' → Con Try.prog g (#[.agg (enc c).toArray] ++ caps) E l' (fun _ : Unit => .bool (q c)) (fun _ => l')) (hv : Has (row 68 7 v (xs.map enc)) l) (hc : Has C l) :
    Con Try.prog 90 #[v, .func (.func g) #[] caps] E l (fun _ : Unit => .int .i64 (idx q xs)) (fun _ => l) := by
  refine Con.body (vs := [v, .func (.func g) #[] caps]) (n := 19) Try.func90 rfl rfl [(0, v), (1, .func (.func g) #[] caps)] (env_ok 2 rfl) ?_
  refine J_row hv fun hw a cap hv h1 h2 h3 => ?_
  subst hv
  have hm : cap ≤ 9223372036854775807 := h2
  have hml : (xs.map enc).length = xs.length := List.length_map _
  refine J_seq ?_
  refine J_region ?_
  refine L_pur rfl (p_assign rfl) ?_
  refine L_nil ?_
  refine Q_then ?_
  refine J_seq ?_
  refine J_seq ?_
  refine J_region ?_
  refine L_pur rfl (p_move rfl) ?_
  refine L_pur rfl (p_len rfl Try.underlying62) ?_
  refine L_pur rfl (p_move rfl) ?_
  refine L_nil ?_
  refine Q_then ?_
  refine J_block ?_
  refine J_loop (α := Nat) (fun i => i ≤ xs.length ∧ ∀ c ∈ xs.take i, q c = false) (fun _ => l) (fun i => [(8, .int .i64 (i : Int)), (7, .int .i64 (xs.map enc).length), (0, .slice a (xs.map enc).length cap), (1, .func (.func g) #[] caps)]) (fun i => xs.length - i) 0 ⟨by omega, by simp⟩ (by repeat (first | exact Sub.nil | exact Sub.refl | refine Sub.cons (by repeat (first | exact Pick.here | apply Pick.there)) ?_ | refine Sub.drop ?_)) (by repeat (first | exact Keep.nil | refine Keep.cons rfl ?_)) ?_
  intro i ⟨hi, hq⟩
  refine J_seq ?_
  refine J_region ?_
  refine L_pur rfl (p_lss rfl rfl) ?_
  refine L_nil ?_
  refine Q_then ?_
  refine J_seq ?_
  refine C_dec rfl (fun h9 => ?_) (fun h9 => ?_)
  ·
    have hlt : i < xs.length := by omega
    obtain ⟨b, o, rfl⟩ := h3 (by intro h; rw [h] at hml; simp at hml; omega)
    obtain ⟨c, hcc⟩ : ∃ c, xs[i]? = some c := ⟨_, List.getElem?_eq_getElem hlt⟩
    refine J_skip ?_
    refine Q_then ?_
    refine J_seq ?_
    refine J_block ?_
    refine J_seq ?_
    refine J_region ?_
    refine L_pur rfl (p_move rfl) ?_
    refine L_pur rfl (p_assign rfl) ?_
    refine L_nil ?_
    refine Q_then ?_
    refine J_seq ?_
    refine J_region ?_
    refine L_pur rfl (p_move rfl) ?_
    refine L_pur rfl (p_move rfl) ?_
    refine L_pur rfl (p_move rfl) ?_
    refine L_pur rfl (p_indexAddr rfl rfl Try.underlying62 ty68 (by omega) (by omega)) ?_
    refine L_val rfl (v_loadE rfl ty68 (by repeat (first | with_reducible exact Has.here | with_reducible assumption | with_reducible apply Has.there)) (by simp only [Int.toNat_natCast, List.getElem?_map, hcc]; rfl)) ?_
    refine L_op (x_callc rfl hf hn hb (.cons rfl .nil) rfl (hg _ c hc) fun _ => ?_)
    refine L_nil ?_
    refine Q_then ?_
    refine C_split rfl (fun h16 => ?_) (fun h16 => ?_)
    ·
      have hidx := idx_here hq hcc h16
      refine J_seq ?_
      refine J_region ?_
      refine L_pur rfl (p_move rfl) ?_
      refine L_pur rfl (p_assign rfl) ?_
      refine L_nil ?_
      refine Q_then ?_
      refine J_ret ?_
      refine Q_blk_ret ?_
      refine Q_then_ret ?_
      refine Q_then_ret ?_
      refine Q_blk_ret ?_
      refine Q_then_ret ?_
      refine J_return (()) Try.results90 (.tmp rfl .nil) ?_ ?_
      · simp [one, hidx]
      · exact (by repeat (first | exact Sub.nil | exact Sub.refl | refine Sub.cons (by repeat (first | exact Pick.here | apply Pick.there)) ?_ | refine Sub.drop ?_))
    ·
      refine J_skip ?_
      refine Q_blk_normal ?_
      refine Q_then ?_
      refine J_region ?_
      refine L_pur rfl (p_add64 rfl rfl (by omega)) ?_
      refine L_pur rfl (p_move rfl) ?_
      refine L_nil ?_
      refine Q_then ?_
      exact J_again (i + 1) (by omega) (⟨by omega, take_false_succ hq hcc h16⟩) (by repeat (first | exact Sub.nil | exact Sub.refl | refine Sub.cons (by repeat (first | exact Pick.here | apply Pick.there)) ?_ | refine Sub.drop ?_)) (by repeat (first | exact Keep.nil | refine Keep.cons rfl ?_))
  ·
    have hix : i = xs.length := by omega
    rw [hix, List.take_length] at hq
    have hidx := idx_none hq
    refine J_exit ?_
    refine Q_then_exit ?_
    refine Q_then_exit ?_
    refine Q_blk_this ?_
    refine Q_then ?_
    refine J_seq ?_
    refine J_region ?_
    refine L_pur rfl (p_assign rfl) ?_
    refine L_nil ?_
    refine Q_then ?_
    refine J_ret ?_
    refine J_return (()) Try.results90 (.tmp rfl .nil) ?_ ?_
    · simp [one, hidx]
    · exact (by repeat (first | exact Sub.nil | exact Sub.refl | refine Sub.cons (by repeat (first | exact Pick.here | apply Pick.there)) ?_ | refine Sub.drop ?_))

set_option maxRecDepth 100000 in
theorem clo91 {E : World} {l : List As} {bc : Nat} {i : ID} {c : Deed} (hc : Has (blk bc 36 (encI i)) l) :
    Con Try.prog 91 #[.agg (encD c).toArray, .pointer (some ⟨bc, 0, none⟩)] E l (fun _ : Unit => .bool (isD i c)) (fun _ => l) := by
  refine Con.body (vs := [.agg (encD c).toArray, .pointer (some ⟨bc, 0, none⟩)]) (n := 8) Try.func91 rfl rfl [(0, .agg (encD c).toArray), (1, .pointer (some ⟨bc, 0, none⟩))] (env_ok 2 rfl) ?_
  refine J_seq ?_
  refine J_region ?_
  refine L_op (x_box rfl rfl rfl fun b2 => ?_)
  refine L_pur rfl (p_assign rfl) ?_
  refine L_nil ?_
  refine Q_then ?_
  refine J_seq ?_
  refine J_region ?_
  refine L_pur rfl (p_fieldAddr rfl fa68_0) ?_
  refine L_val rfl (v_loadA rfl ty36 (by repeat (first | with_reducible exact Has.here | with_reducible assumption | with_reducible apply Has.there)) (by first | exact Cut.full rfl | ((repeat constructor); done) | exact Cut.full (by first | rfl | simp [*]))) ?_
  refine L_val rfl (v_loadA rfl ty36 (by repeat (first | with_reducible exact Has.here | with_reducible assumption | with_reducible apply Has.there)) (by first | exact Cut.full rfl | ((repeat constructor); done) | exact Cut.full (by first | rfl | simp [*]))) ?_
  refine L_pur rfl (p_eqv rfl rfl (fun w => eg36 _ _ _ _ _ w) (fun w => eqv36 _ _ _ _ w)) ?_
  refine L_pur rfl (p_assign rfl) ?_
  refine L_nil ?_
  refine Q_then ?_
  refine J_ret ?_
  exact J_return (()) Try.results91 (.tmp rfl .nil) rfl (by repeat (first | exact Sub.nil | exact Sub.refl | refine Sub.cons (by repeat (first | exact Pick.here | apply Pick.there)) ?_ | refine Sub.drop ?_))

set_option maxRecDepth 100000 in
theorem add {E : World} {l m : List As}{b : Nat} {xs : List Deed} (hp : Pick (jA 64 b xs) l m) (hb : xs.length ≤ 1000) (d : Deed) :
    Con Try.prog 35 #[.pointer (some ⟨b, 0, none⟩), .agg (encD d).toArray] E l (fun _ : Unit => .tuple #[]) (fun _ => jA 64 b (xs ++ [d]) :: m) := by
  refine Con.body (vs := [.pointer (some ⟨b, 0, none⟩), .agg (encD d).toArray]) (n := 14) Try.func35 rfl rfl [(0, .pointer (some ⟨b, 0, none⟩)), (1, .agg (encD d).toArray)] (env_ok 2 rfl) ?_
  refine J_pick hp ?_
  refine J_ex fun vj => ?_
  refine J_all2 ?_
  refine J_seq ?_
  refine J_region ?_
  refine L_op (x_box rfl rfl rfl fun b3 => ?_)
  refine L_nil ?_
  refine Q_then ?_
  refine J_draw mixed ?_
  refine A_take (i := 0) rfl rfl rfl rfl (by kernel_rfl) (by kernel_rfl) (by kernel_rfl) (fun _ _ _ _ h => h) (p_move rfl) ?_
  refine A_take (i := 1) rfl rfl rfl rfl (by kernel_rfl) (by kernel_rfl) (by kernel_rfl) (fun _ _ _ _ h => h) (p_move rfl) ?_
  refine A_take (i := 2) rfl rfl rfl rfl (by kernel_rfl) (by kernel_rfl) (by kernel_rfl) (fun _ _ _ _ h => h) (p_nilCheck rfl) ?_
  refine A_take (i := 3) rfl rfl rfl rfl (by kernel_rfl) (by kernel_rfl) (by kernel_rfl) (fun _ _ _ _ h => h) (p_fieldAddr rfl fa64_0) ?_
  refine A_ready (rs := [4, 5]) (by kernel_rfl) (by simp) ?_
  refine (A_cons rfl ?_ (A_cons rfl ?_ A_nil))
  ·
    refine J_val (v_load rfl ty62 (by repeat (first | with_reducible exact Has.here | with_reducible assumption | with_reducible apply Has.there)) (by exact rfl)) rfl rfl rfl ?_
    refine A_one (i := 5) (by kernel_rfl) rfl ?_
    refine J_val (v_loadA rfl ty68 (by repeat (first | with_reducible exact Has.here | with_reducible assumption | with_reducible apply Has.there)) (by first | exact Cut.full rfl | ((repeat constructor); done) | exact Cut.full (by first | rfl | simp [*]))) rfl rfl rfl ?_
    refine A_one (i := 6) (by kernel_rfl) rfl ?_
    refine x_lit (vals := [_]) Try.underlying62 ty68 rfl (.cons rfl .nil) (.agg .nil) (Wf.cons rfl rfl Wf.nil) rfl (by decide) rfl rfl fun v10 => ?_
    refine J_row .here fun hw10 a10 c10 hv10 hl10 hm10 hz10 => ?_
    subst hv10
    refine A_one (i := 7) (by kernel_rfl) rfl ?_
    refine x_app rfl rfl Try.underlying62 ty68 rfl rfl (by repeat (first | with_reducible exact Pick.here | with_reducible assumption | with_reducible apply Pick.there)) (fun w H => sep_reads (by repeat (first | with_reducible exact Has.here | with_reducible assumption | with_reducible apply Has.there)) H) (by first | omega | (simp <;> omega)) (by first | omega | (simp <;> omega)) rfl fun v11 => ?_
    refine J_rowEq (ys := (xs ++ [d]).map encD) (by simp) ?_
    refine J_row .here fun hw11 a11 c11 hv11 hl11 hm11 hz11 => ?_
    subst hv11
    refine A_take (i := 8) rfl rfl rfl rfl (by kernel_rfl) (by kernel_rfl) (by kernel_rfl) (fun _ _ _ _ h => h) (p_nilCheck rfl) ?_
    refine A_take (i := 9) rfl rfl rfl rfl (by kernel_rfl) (by kernel_rfl) (by kernel_rfl) (fun _ _ _ _ h => h) (p_fieldAddr rfl fa64_0) ?_
    refine A_one (i := 10) (by kernel_rfl) rfl ?_
    refine x_store rfl rfl ty62 rfl (by first | rfl | (simp [*]; done)) (by first | rfl | (simp [*]; done)) (by repeat (first | with_reducible exact Rep1.here | with_reducible apply Rep1.there)) (by first | exact Put.full rfl | ((repeat constructor); done) | exact Put.full (by first | rfl | simp [*])) ?_
    refine A_done (by kernel_rfl) ?_
    refine J_endnormal ?_
    refine J_shut2 (f := jF 64 b (xs ++ [d])) _ rfl (by repeat (first | with_reducible exact Pick.here | with_reducible assumption | with_reducible apply Pick.there)) (by repeat (first | with_reducible exact Pick.here | with_reducible assumption | with_reducible apply Pick.there)) ?_
    exact J_return (()) Try.results35 .nil rfl (by repeat (first | exact Sub.nil | exact Sub.refl | refine Sub.cons (by repeat (first | exact Pick.here | apply Pick.there)) ?_ | refine Sub.drop ?_))
  ·
    refine J_val (v_loadA rfl ty68 (by repeat (first | with_reducible exact Has.here | with_reducible assumption | with_reducible apply Has.there)) (by first | exact Cut.full rfl | ((repeat constructor); done) | exact Cut.full (by first | rfl | simp [*]))) rfl rfl rfl ?_
    refine A_ready (rs := [4, 6]) (by kernel_rfl) (by simp) ?_
    refine (A_cons rfl ?_ (A_cons rfl ?_ A_nil))
    ·
      refine J_val (v_load rfl ty62 (by repeat (first | with_reducible exact Has.here | with_reducible assumption | with_reducible apply Has.there)) (by exact rfl)) rfl rfl rfl ?_
      refine A_one (i := 6) (by kernel_rfl) rfl ?_
      refine x_lit (vals := [_]) Try.underlying62 ty68 rfl (.cons rfl .nil) (.agg .nil) (Wf.cons rfl rfl Wf.nil) rfl (by decide) rfl rfl fun v10 => ?_
      refine J_row .here fun hw10 a10 c10 hv10 hl10 hm10 hz10 => ?_
      subst hv10
      refine A_one (i := 7) (by kernel_rfl) rfl ?_
      refine x_app rfl rfl Try.underlying62 ty68 rfl rfl (by repeat (first | with_reducible exact Pick.here | with_reducible assumption | with_reducible apply Pick.there)) (fun w H => sep_reads (by repeat (first | with_reducible exact Has.here | with_reducible assumption | with_reducible apply Has.there)) H) (by first | omega | (simp <;> omega)) (by first | omega | (simp <;> omega)) rfl fun v11 => ?_
      refine J_rowEq (ys := (xs ++ [d]).map encD) (by simp) ?_
      refine J_row .here fun hw11 a11 c11 hv11 hl11 hm11 hz11 => ?_
      subst hv11
      refine A_take (i := 8) rfl rfl rfl rfl (by kernel_rfl) (by kernel_rfl) (by kernel_rfl) (fun _ _ _ _ h => h) (p_nilCheck rfl) ?_
      refine A_take (i := 9) rfl rfl rfl rfl (by kernel_rfl) (by kernel_rfl) (by kernel_rfl) (fun _ _ _ _ h => h) (p_fieldAddr rfl fa64_0) ?_
      refine A_one (i := 10) (by kernel_rfl) rfl ?_
      refine x_store rfl rfl ty62 rfl (by first | rfl | (simp [*]; done)) (by first | rfl | (simp [*]; done)) (by repeat (first | with_reducible exact Rep1.here | with_reducible apply Rep1.there)) (by first | exact Put.full rfl | ((repeat constructor); done) | exact Put.full (by first | rfl | simp [*])) ?_
      refine A_done (by kernel_rfl) ?_
      refine J_endnormal ?_
      refine J_shut2 (f := jF 64 b (xs ++ [d])) _ rfl (by repeat (first | with_reducible exact Pick.here | with_reducible assumption | with_reducible apply Pick.there)) (by repeat (first | with_reducible exact Pick.here | with_reducible assumption | with_reducible apply Pick.there)) ?_
      exact J_return (()) Try.results35 .nil rfl (by repeat (first | exact Sub.nil | exact Sub.refl | refine Sub.cons (by repeat (first | exact Pick.here | apply Pick.there)) ?_ | refine Sub.drop ?_))
    ·
      refine x_lit (vals := [_]) Try.underlying62 ty68 rfl (.cons rfl .nil) (.agg .nil) (Wf.cons rfl rfl Wf.nil) rfl (by decide) rfl rfl fun v10 => ?_
      refine J_row .here fun hw10 a10 c10 hv10 hl10 hm10 hz10 => ?_
      subst hv10
      refine A_one (i := 4) (by kernel_rfl) rfl ?_
      refine J_val (v_load rfl ty62 (by repeat (first | with_reducible exact Has.here | with_reducible assumption | with_reducible apply Has.there)) (by exact rfl)) rfl rfl rfl ?_
      refine A_one (i := 7) (by kernel_rfl) rfl ?_
      refine x_app rfl rfl Try.underlying62 ty68 rfl rfl (by repeat (first | with_reducible exact Pick.here | with_reducible assumption | with_reducible apply Pick.there)) (fun w H => sep_reads (by repeat (first | with_reducible exact Has.here | with_reducible assumption | with_reducible apply Has.there)) H) (by first | omega | (simp <;> omega)) (by first | omega | (simp <;> omega)) rfl fun v11 => ?_
      refine J_rowEq (ys := (xs ++ [d]).map encD) (by simp) ?_
      refine J_row .here fun hw11 a11 c11 hv11 hl11 hm11 hz11 => ?_
      subst hv11
      refine A_take (i := 8) rfl rfl rfl rfl (by kernel_rfl) (by kernel_rfl) (by kernel_rfl) (fun _ _ _ _ h => h) (p_nilCheck rfl) ?_
      refine A_take (i := 9) rfl rfl rfl rfl (by kernel_rfl) (by kernel_rfl) (by kernel_rfl) (fun _ _ _ _ h => h) (p_fieldAddr rfl fa64_0) ?_
      refine A_one (i := 10) (by kernel_rfl) rfl ?_
      refine x_store rfl rfl ty62 rfl (by first | rfl | (simp [*]; done)) (by first | rfl | (simp [*]; done)) (by repeat (first | with_reducible exact Rep1.here | with_reducible apply Rep1.there)) (by first | exact Put.full rfl | ((repeat constructor); done) | exact Put.full (by first | rfl | simp [*])) ?_
      refine A_done (by kernel_rfl) ?_
      refine J_endnormal ?_
      refine J_shut2 (f := jF 64 b (xs ++ [d])) _ rfl (by repeat (first | with_reducible exact Pick.here | with_reducible assumption | with_reducible apply Pick.there)) (by repeat (first | with_reducible exact Pick.here | with_reducible assumption | with_reducible apply Pick.there)) ?_
      exact J_return (()) Try.results35 .nil rfl (by repeat (first | exact Sub.nil | exact Sub.refl | refine Sub.cons (by repeat (first | exact Pick.here | apply Pick.there)) ?_ | refine Sub.drop ?_))

set_option maxRecDepth 100000 in
theorem all {E : World} {l m : List As}{b : Nat} {xs : List Deed} (hp : Pick (jA 64 b xs) l m) (hb : xs.length ≤ 1000) :
    Con Try.prog 42 #[.pointer (some ⟨b, 0, none⟩)] E l (fun v : Value => v) (fun v => row 68 7 v (xs.map encD) :: jA 64 b xs :: m) := by
  refine Con.body (vs := [.pointer (some ⟨b, 0, none⟩)]) (n := 8) Try.func42 rfl rfl [(0, .pointer (some ⟨b, 0, none⟩))] (env_ok 1 rfl) ?_
  refine J_pick hp ?_
  refine J_ex fun vj => ?_
  refine J_all2 ?_
  refine J_seq ?_
  refine J_region ?_
  refine L_pur rfl (p_assign rfl) ?_
  refine L_nil ?_
  refine Q_then ?_
  refine J_seq ?_
  refine J_region ?_
  refine L_pur rfl (p_move rfl) ?_
  refine L_pur rfl (p_nilCheck rfl) ?_
  refine L_pur rfl (p_fieldAddr rfl fa64_0) ?_
  refine L_val rfl (v_load rfl ty62 (by repeat (first | with_reducible exact Has.here | with_reducible assumption | with_reducible apply Has.there)) (by exact rfl)) ?_
  refine L_op (x_call Try.func93 nm93 bd93 (.cons rfl .nil) rfl (clone93 (xs := xs.map encD) (fun w H => sep_reads (xs := xs.map encD) (by repeat (first | with_reducible exact Has.here | with_reducible assumption | with_reducible apply Has.there)) H) (by simp; omega)) fun v7 => ?_)
  refine J_row .here fun hw7 a7 c7 hv7 hl7 hm7 hz7 => ?_
  subst hv7
  refine L_pur rfl (p_assign rfl) ?_
  refine L_nil ?_
  refine Q_then ?_
  refine J_ret ?_
  refine J_shut2 (f := jF 64 b (xs)) _ rfl (by repeat (first | with_reducible exact Pick.here | with_reducible assumption | with_reducible apply Pick.there)) (by repeat (first | with_reducible exact Pick.here | with_reducible assumption | with_reducible apply Pick.there)) ?_
  exact J_return (_) Try.results42 (.tmp rfl .nil) rfl (by repeat (first | exact Sub.nil | exact Sub.refl | refine Sub.cons (by repeat (first | exact Pick.here | apply Pick.there)) ?_ | refine Sub.drop ?_))

set_option maxRecDepth 100000 in
theorem find {E : World} {l m : List As}{b : Nat} {xs : List Deed} (hp : Pick (jA 64 b xs) l m) (hb : xs.length ≤ 1000) (i : ID) :
    Con Try.prog 37 #[.pointer (some ⟨b, 0, none⟩), .agg (encI i).toArray] E l (fun _ : Unit => .tuple #[.int .i64 (fAt (isD i) xs), .bool (decide (0 ≤ idx (isD i) xs))]) (fun _ => jA 64 b xs :: m) := by
  refine Con.body (vs := [.pointer (some ⟨b, 0, none⟩), .agg (encI i).toArray]) (n := 17) Try.func37 rfl rfl [(0, .pointer (some ⟨b, 0, none⟩)), (1, .agg (encI i).toArray)] (env_ok 2 rfl) ?_
  refine J_pick hp ?_
  refine J_ex fun vj => ?_
  refine J_all2 ?_
  refine J_seq ?_
  refine J_region ?_
  refine L_op (x_box rfl rfl rfl fun b3 => ?_)
  refine L_pur rfl (p_assign rfl) ?_
  refine L_pur rfl (p_assign rfl) ?_
  refine L_nil ?_
  refine Q_then ?_
  refine J_seq ?_
  refine J_region ?_
  refine L_pur rfl (p_move rfl) ?_
  refine L_pur rfl (p_nilCheck rfl) ?_
  refine L_pur rfl (p_fieldAddr rfl fa64_0) ?_
  refine L_val rfl (v_load rfl ty62 (by repeat (first | with_reducible exact Has.here | with_reducible assumption | with_reducible apply Has.there)) (by exact rfl)) ?_
  refine L_pur rfl (p_makeFunc (.cons rfl .nil)) ?_
  refine L_op (x_call Try.func90 nm90 bd90 (.cons rfl (.cons rfl .nil)) rfl (indexfunc90 (xs := xs) (enc := encD) (q := isD i) (C := blk b3 36 (encI i)) Try.func91 nm91 bd91 (fun l' c hc => clo91 hc) (by repeat (first | with_reducible exact Has.here | with_reducible assumption | with_reducible apply Has.there)) (by repeat (first | with_reducible exact Has.here | with_reducible assumption | with_reducible apply Has.there))) fun _ => ?_)
  refine L_pur rfl (p_assign rfl) ?_
  refine L_nil ?_
  refine Q_then ?_
  refine J_seq ?_
  refine J_region ?_
  refine L_pur rfl (p_move rfl) ?_
  refine L_pur rfl (p_max rfl rfl) ?_
  refine L_pur rfl (p_move rfl) ?_
  refine L_pur rfl (p_geq rfl rfl) ?_
  refine L_pur rfl (p_assign rfl) ?_
  refine L_pur rfl (p_assign rfl) ?_
  refine L_nil ?_
  refine Q_then ?_
  refine J_ret ?_
  refine J_shut2 (f := jF 64 b (xs)) _ rfl (by repeat (first | with_reducible exact Pick.here | with_reducible assumption | with_reducible apply Pick.there)) (by repeat (first | with_reducible exact Pick.here | with_reducible assumption | with_reducible apply Pick.there)) ?_
  exact J_return (()) Try.results37 (.tmp rfl (.tmp rfl .nil)) rfl (by repeat (first | exact Sub.nil | exact Sub.refl | refine Sub.cons (by repeat (first | exact Pick.here | apply Pick.there)) ?_ | refine Sub.drop ?_))

set_option maxRecDepth 100000 in
theorem rfind {E : World} {l m : List As}{b : Nat} {xs : List Deed} (hp : Pick (jA 66 b xs) l m) (hb : xs.length ≤ 1000) (i : ID) :
    Con Try.prog 38 #[.pointer (some ⟨b, 0, none⟩), .agg (encI i).toArray] E l (fun _ : Unit => .tuple #[.int .i64 (fAt (isD i) xs), .bool (decide (0 ≤ idx (isD i) xs))]) (fun _ => jA 66 b xs :: m) := by
  refine Con.body (vs := [.pointer (some ⟨b, 0, none⟩), .agg (encI i).toArray]) (n := 27) Try.func38 rfl rfl [(0, .pointer (some ⟨b, 0, none⟩)), (1, .agg (encI i).toArray)] (env_ok 2 rfl) ?_
  refine J_pick hp ?_
  refine J_ex fun vj => ?_
  refine J_all2 ?_
  refine J_row (.there .here) fun hw a cap hv h1 h2 h3 => ?_
  subst hv
  have hml : (xs.map encD).length = xs.length := List.length_map _
  have hm : cap ≤ 9223372036854775807 := h2
  refine J_seq ?_
  refine J_region ?_
  refine L_op (x_box rfl rfl rfl fun b3 => ?_)
  refine L_pur rfl (p_assign rfl) ?_
  refine L_pur rfl (p_assign rfl) ?_
  refine L_nil ?_
  refine Q_then ?_
  refine J_seq ?_
  refine J_seq ?_
  refine J_region ?_
  refine L_pur rfl (p_assign rfl) ?_
  refine L_nil ?_
  refine Q_then ?_
  refine J_block ?_
  refine J_loop (α := Nat) (fun k => k ≤ xs.length ∧ ∀ c ∈ xs.take k, isD i c = false) (fun _ => blk b3 36 (encI i) :: blk b 66 [.slice a (xs.map encD).length cap] :: row 68 7 (.slice a (xs.map encD).length cap) (xs.map encD) :: m) (fun k => [(6, .int .i64 (k : Int)), (0, .pointer (some ⟨b, 0, none⟩)), (3, .pointer (some ⟨b3, 0, none⟩))]) (fun k => xs.length - k) 0 ⟨by omega, by simp⟩ (by repeat (first | exact Sub.nil | exact Sub.refl | refine Sub.cons (by repeat (first | exact Pick.here | apply Pick.there)) ?_ | refine Sub.drop ?_)) (by repeat (first | exact Keep.nil | refine Keep.cons rfl ?_)) ?_
  intro k ⟨hk, hq⟩
  refine J_seq ?_
  refine J_seq ?_
  refine J_region ?_
  refine L_pur rfl (p_move rfl) ?_
  refine L_pur rfl (p_move rfl) ?_
  refine L_pur rfl (p_nilCheck rfl) ?_
  refine L_pur rfl (p_fieldAddr rfl fa66_0) ?_
  refine L_val rfl (v_load rfl ty62 (by repeat (first | with_reducible exact Has.here | with_reducible assumption | with_reducible apply Has.there)) (by exact rfl)) ?_
  refine L_pur rfl (p_len rfl Try.underlying62) ?_
  refine L_pur rfl (p_lss rfl rfl) ?_
  refine L_nil ?_
  refine Q_then ?_
  refine C_dec rfl (fun h13 => ?_) (fun h13 => ?_)
  ·
    have hlt : k < xs.length := by omega
    obtain ⟨bx, ox, rfl⟩ := h3 (by intro h; rw [h] at hml; simp at hml; omega)
    obtain ⟨c, hcc⟩ : ∃ c, xs[k]? = some c := ⟨_, List.getElem?_eq_getElem hlt⟩
    refine J_skip ?_
    refine Q_then ?_
    refine J_seq ?_
    refine J_block ?_
    refine J_seq ?_
    refine J_drawS mixed (by kernel_rfl) ?_
    refine S_val rfl (Pur.vl (p_move rfl)) ?_
    refine S_val rfl (Pur.vl (p_nilCheck rfl)) ?_
    refine S_val rfl (Pur.vl (p_fieldAddr rfl fa66_0)) ?_
    refine S_val rfl (v_load rfl ty62 (by repeat (first | with_reducible exact Has.here | with_reducible assumption | with_reducible apply Has.there)) (by exact rfl)) ?_
    refine S_val rfl (Pur.vl (p_move rfl)) ?_
    refine S_val rfl (Pur.vl (p_indexAddr rfl rfl Try.underlying62 ty68 (by omega) (by omega))) ?_
    refine S_val rfl (Pur.vl (p_fieldAddr rfl fa68_0)) ?_
    refine S_val rfl (v_loadFA rfl ty36 (by repeat (first | with_reducible exact Has.here | with_reducible assumption | with_reducible apply Has.there)) (by simp only [Int.toNat_natCast, List.getElem?_map, hcc]; rfl) (by first | exact Cut.full rfl | ((repeat constructor); done) | exact Cut.full (by first | rfl | simp [*]))) ?_
    refine S_val rfl (v_loadA rfl ty36 (by repeat (first | with_reducible exact Has.here | with_reducible assumption | with_reducible apply Has.there)) (by first | exact Cut.full rfl | ((repeat constructor); done) | exact Cut.full (by first | rfl | simp [*]))) ?_
    refine S_val rfl (Pur.vl (p_eqv rfl rfl (fun w => eg36 _ _ _ _ _ w) (fun w => eqv36 _ _ _ _ w))) ?_
    refine S_nil ?_
    refine Q_then ?_
    refine C_split rfl (fun h25 => ?_) (fun h25 => ?_)
    ·
      have hidx := idx_here hq hcc h25
      refine J_seq ?_
      refine J_region ?_
      refine L_pur rfl (p_move rfl) ?_
      refine L_pur rfl (p_assign rfl) ?_
      refine L_pur rfl (p_assign rfl) ?_
      refine L_nil ?_
      refine Q_then ?_
      refine J_ret ?_
      refine Q_blk_ret ?_
      refine Q_then_ret ?_
      refine Q_then_ret ?_
      refine Q_blk_ret ?_
      refine Q_then_ret ?_
      refine J_shut2 (f := jF 66 b (xs)) _ rfl (by repeat (first | with_reducible exact Pick.here | with_reducible assumption | with_reducible apply Pick.there)) (by repeat (first | with_reducible exact Pick.here | with_reducible assumption | with_reducible apply Pick.there)) ?_
      refine J_return (()) Try.results38 (.tmp rfl (.tmp rfl .nil)) ?_ ?_
      · show one _ = Value.tuple #[.int .i64 (fAt (isD i) xs), .bool (decide (0 ≤ idx (isD i) xs))]
        rw [(fAt_of hidx).1, (fAt_of hidx).2]; rfl
      · exact (by repeat (first | exact Sub.nil | exact Sub.refl | refine Sub.cons (by repeat (first | exact Pick.here | apply Pick.there)) ?_ | refine Sub.drop ?_))
    ·
      refine J_skip ?_
      refine Q_blk_normal ?_
      refine Q_then ?_
      refine J_region ?_
      refine L_pur rfl (p_move rfl) ?_
      refine L_pur rfl (p_add64 rfl rfl (by omega)) ?_
      refine L_pur rfl (p_assign rfl) ?_
      refine L_nil ?_
      refine Q_then ?_
      exact J_again (k + 1) (by omega) (⟨by omega, take_false_succ hq hcc h25⟩) (by repeat (first | exact Sub.nil | exact Sub.refl | refine Sub.cons (by repeat (first | exact Pick.here | apply Pick.there)) ?_ | refine Sub.drop ?_)) (by repeat (first | exact Keep.nil | refine Keep.cons rfl ?_))
  ·
    have hkx : k = xs.length := by omega
    rw [hkx, List.take_length] at hq
    have hidx := idx_none hq
    refine J_exit ?_
    refine Q_then_exit ?_
    refine Q_then_exit ?_
    refine Q_blk_this ?_
    refine Q_then ?_
    refine J_seq ?_
    refine J_region ?_
    refine L_pur rfl (p_assign rfl) ?_
    refine L_pur rfl (p_assign rfl) ?_
    refine L_nil ?_
    refine Q_then ?_
    refine J_ret ?_
    refine J_shut2 (f := jF 66 b (xs)) _ rfl (by repeat (first | with_reducible exact Pick.here | with_reducible assumption | with_reducible apply Pick.there)) (by repeat (first | with_reducible exact Pick.here | with_reducible assumption | with_reducible apply Pick.there)) ?_
    refine J_return (()) Try.results38 (.tmp rfl (.tmp rfl .nil)) ?_ ?_
    · show one _ = Value.tuple #[.int .i64 (fAt (isD i) xs), .bool (decide (0 ≤ idx (isD i) xs))]
      rw [(fAt_no hidx).1, (fAt_no hidx).2]; rfl
    · exact (by repeat (first | exact Sub.nil | exact Sub.refl | refine Sub.cons (by repeat (first | exact Pick.here | apply Pick.there)) ?_ | refine Sub.drop ?_))

set_option maxRecDepth 100000 in
theorem of {E : World} {l m : List As}{b : Nat} {xs : List Deed} (hp : Pick (jA 64 b xs) l m) (hb : xs.length ≤ 1000) (r : Int) :
    Con Try.prog 43 #[.pointer (some ⟨b, 0, none⟩), .int .i64 r] E l (fun v : Value => v) (fun v => row 68 7 v ((xs.filter (ofR r)).map encD) :: jA 64 b xs :: m) := by
  refine Con.body (vs := [.pointer (some ⟨b, 0, none⟩), .int .i64 r]) (n := 28) Try.func43 rfl rfl [(0, .pointer (some ⟨b, 0, none⟩)), (1, .int .i64 r)] (env_ok 2 rfl) ?_
  refine J_pick hp ?_
  refine J_ex fun vj => ?_
  refine J_all2 ?_
  refine J_row (.there .here) fun hw a cap hv h1 h2 h3 => ?_
  subst hv
  have hml : (xs.map encD).length = xs.length := List.length_map _
  have hm : cap ≤ 9223372036854775807 := h2
  refine J_seq ?_
  refine J_region ?_
  refine L_pur rfl (p_assign rfl) ?_
  refine L_nil ?_
  refine Q_then ?_
  refine J_seq ?_
  refine J_region ?_
  refine L_pur rfl (p_assign rfl) ?_
  refine L_nil ?_
  refine Q_then ?_
  refine J_seq ?_
  refine J_seq ?_
  refine J_region ?_
  refine L_pur rfl (p_move rfl) ?_
  refine L_pur rfl (p_nilCheck rfl) ?_
  refine L_pur rfl (p_fieldAddr rfl fa64_0) ?_
  refine L_val rfl (v_load rfl ty62 (by repeat (first | with_reducible exact Has.here | with_reducible assumption | with_reducible apply Has.there)) (by exact rfl)) ?_
  refine L_pur rfl (p_len rfl Try.underlying62) ?_
  refine L_pur rfl (p_move rfl) ?_
  refine L_nil ?_
  refine Q_then ?_
  refine J_block ?_
  refine J_nil (el := 68) (sz := 7) ?_
  refine J_loop2 (fun k v => k ≤ xs.length) (fun k v => row 68 7 v (((xs.take k).filter (ofR r)).map encD) :: blk b 64 [.slice a (xs.map encD).length cap] :: row 68 7 (.slice a (xs.map encD).length cap) (xs.map encD) :: m) (fun k v => [(13, .int .i64 (k : Int)), (5, v), (1, .int .i64 r), (11, .slice a (xs.map encD).length cap), (12, .int .i64 (xs.map encD).length)]) (fun k v => xs.length - k) 0 (.slice none 0 0) (by omega) (by repeat (first | exact Sub.nil | exact Sub.refl | refine Sub.cons (by repeat (first | exact Pick.here | apply Pick.there)) ?_ | refine Sub.drop ?_)) (by repeat (first | exact Keep.nil | refine Keep.cons rfl ?_)) ?_
  intro k v hk
  refine J_seq ?_
  refine J_region ?_
  refine L_pur rfl (p_lss rfl rfl) ?_
  refine L_nil ?_
  refine Q_then ?_
  refine J_seq ?_
  refine C_dec rfl (fun h14 => ?_) (fun h14 => ?_)
  ·
    have hlt : k < xs.length := by omega
    obtain ⟨bx, ox, rfl⟩ := h3 (by intro h; rw [h] at hml; simp at hml; omega)
    obtain ⟨c, hcc⟩ : ∃ c, xs[k]? = some c := ⟨_, List.getElem?_eq_getElem hlt⟩
    have hsucc := take_filter_succ (p := ofR r) hcc
    have hfl : ((xs.take k).filter (ofR r)).length ≤ xs.length := Nat.le_trans (List.length_filter_le _ _) (by simp; omega)
    refine J_skip ?_
    refine Q_then ?_
    refine J_seq ?_
    refine J_block ?_
    refine J_seq ?_
    refine J_region ?_
    refine L_pur rfl (p_indexAddr rfl rfl Try.underlying62 ty68 (by omega) (by omega)) ?_
    refine L_val rfl (v_loadE rfl ty68 (by repeat (first | with_reducible exact Has.here | with_reducible assumption | with_reducible apply Has.there)) (by simp only [Int.toNat_natCast, List.getElem?_map, hcc]; rfl)) ?_
    refine L_op (x_alloc ty68 rfl fun b7 => ?_)
    refine L_op (x_store rfl rfl ty68 rfl (by first | rfl | (simp [*]; done)) (by first | rfl | (simp [*]; done)) (by repeat (first | with_reducible exact Rep1.here | with_reducible apply Rep1.there)) (by first | exact Put.full rfl | ((repeat constructor); done) | exact Put.full (by first | rfl | simp [*])) ?_)
    refine L_nil ?_
    refine Q_then ?_
    refine J_seq ?_
    refine J_region ?_
    refine L_pur rfl (p_fieldAddr rfl fa68_0) ?_
    refine L_pur rfl (p_fieldAddr rfl fa36_0) ?_
    refine L_val rfl (v_load rfl ty3 (by repeat (first | with_reducible exact Has.here | with_reducible assumption | with_reducible apply Has.there)) (by exact rfl)) ?_
    refine L_pur rfl (p_move rfl) ?_
    refine L_pur rfl (p_eql rfl rfl) ?_
    refine L_nil ?_
    refine Q_then ?_
    refine C_split rfl (fun h21 => ?_) (fun h21 => ?_)
    ·
      refine J_region ?_
      refine L_pur rfl (p_move rfl) ?_
      refine L_val rfl (v_loadA rfl ty68 (by repeat (first | with_reducible exact Has.here | with_reducible assumption | with_reducible apply Has.there)) (by first | exact Cut.full rfl | ((repeat constructor); done) | exact Cut.full (by first | rfl | simp [*]))) ?_
      refine L_op (x_lit (vals := [_]) Try.underlying62 ty68 rfl (.cons rfl .nil) (.agg .nil) (Wf.cons rfl rfl Wf.nil) rfl (by decide) rfl rfl fun v24 => ?_)
      refine J_row .here fun hw24 a24 c24 hv24 hl24 hm24 hz24 => ?_
      subst hv24
      refine L_op (x_app rfl rfl Try.underlying62 ty68 rfl rfl (by repeat (first | with_reducible exact Pick.here | with_reducible assumption | with_reducible apply Pick.there)) (fun w H => sep_reads (by repeat (first | with_reducible exact Has.here | with_reducible assumption | with_reducible apply Has.there)) H) (by first | omega | (simp <;> omega)) (by first | omega | (simp <;> omega)) rfl fun v25 => ?_)
      refine J_rowEq (ys := ((xs.take (k + 1)).filter (ofR r)).map encD) (by rw [hsucc, if_pos (by simpa [ofR] using h21)]; simp) ?_
      refine J_row .here fun hw25 a25 c25 hv25 hl25 hm25 hz25 => ?_
      subst hv25
      refine L_pur rfl (p_assign rfl) ?_
      refine L_nil ?_
      refine Q_blk_normal ?_
      refine Q_then ?_
      refine J_region ?_
      refine L_pur rfl (p_add64 rfl rfl (by omega)) ?_
      refine L_pur rfl (p_move rfl) ?_
      refine L_nil ?_
      refine Q_then ?_
      
      exact J_again2 (k + 1) _ (by omega) (by omega) (by repeat (first | exact Sub.nil | exact Sub.refl | refine Sub.cons (by repeat (first | exact Pick.here | apply Pick.there)) ?_ | refine Sub.drop ?_)) (by repeat (first | exact Keep.nil | refine Keep.cons rfl ?_))
    ·
      refine J_skip ?_
      refine Q_blk_normal ?_
      refine Q_then ?_
      refine J_region ?_
      refine L_pur rfl (p_add64 rfl rfl (by omega)) ?_
      refine L_pur rfl (p_move rfl) ?_
      refine L_nil ?_
      refine Q_then ?_
      refine J_pick (A := row 68 7 v (((xs.take k).filter (ofR r)).map encD)) (by repeat (first | with_reducible exact Pick.here | with_reducible assumption | with_reducible apply Pick.there)) ?_
      refine J_rowEq (ys := ((xs.take (k + 1)).filter (ofR r)).map encD) (by rw [hsucc, if_neg (by simp [ofR] at h21 ⊢; exact h21)]; simp) ?_
      exact J_again2 (k + 1) _ (by omega) (by omega) (by repeat (first | exact Sub.nil | exact Sub.refl | refine Sub.cons (by repeat (first | exact Pick.here | apply Pick.there)) ?_ | refine Sub.drop ?_)) (by repeat (first | exact Keep.nil | refine Keep.cons rfl ?_))
  ·
    have hkx : k = xs.length := by omega
    subst hkx
    refine J_rowEq (ys := (xs.filter (ofR r)).map encD) (by rw [List.take_length]) ?_
    refine J_exit ?_
    refine Q_then_exit ?_
    refine Q_then_exit ?_
    refine Q_blk_this ?_
    refine Q_then ?_
    refine J_seq ?_
    refine J_region ?_
    refine L_pur rfl (p_move rfl) ?_
    refine L_pur rfl (p_assign rfl) ?_
    refine L_nil ?_
    refine Q_then ?_
    refine J_ret ?_
    refine J_shut2 (f := jF 64 b (xs)) _ rfl (by repeat (first | with_reducible exact Pick.here | with_reducible assumption | with_reducible apply Pick.there)) (by repeat (first | with_reducible exact Pick.here | with_reducible assumption | with_reducible apply Pick.there)) ?_
    exact J_return (_) Try.results43 (.tmp rfl .nil) rfl (by repeat (first | exact Sub.nil | exact Sub.refl | refine Sub.cons (by repeat (first | exact Pick.here | apply Pick.there)) ?_ | refine Sub.drop ?_))

set_option maxRecDepth 100000 in
theorem rof {E : World} {l m : List As}{b : Nat} {xs : List Deed} (hp : Pick (jA 66 b xs) l m) (hb : xs.length ≤ 1000) (r : Int) :
    Con Try.prog 44 #[.pointer (some ⟨b, 0, none⟩), .int .i64 r] E l (fun v : Value => v) (fun v => row 68 7 v ((xs.filter (ofR r)).map encD) :: jA 66 b xs :: m) := by
  refine Con.body (vs := [.pointer (some ⟨b, 0, none⟩), .int .i64 r]) (n := 38) Try.func44 rfl rfl [(0, .pointer (some ⟨b, 0, none⟩)), (1, .int .i64 r)] (env_ok 2 rfl) ?_
  refine J_pick hp ?_
  refine J_ex fun vj => ?_
  refine J_all2 ?_
  refine J_row (.there .here) fun hw a cap hv h1 h2 h3 => ?_
  subst hv
  have hml : (xs.map encD).length = xs.length := List.length_map _
  have hm : cap ≤ 9223372036854775807 := h2
  refine J_seq ?_
  refine J_region ?_
  refine L_pur rfl (p_assign rfl) ?_
  refine L_nil ?_
  refine Q_then ?_
  refine J_seq ?_
  refine J_region ?_
  refine L_pur rfl (p_assign rfl) ?_
  refine L_nil ?_
  refine Q_then ?_
  refine J_seq ?_
  refine J_seq ?_
  refine J_region ?_
  refine L_pur rfl (p_assign rfl) ?_
  refine L_nil ?_
  refine Q_then ?_
  refine J_block ?_
  refine J_nil (el := 68) (sz := 7) ?_
  refine J_loop2 (fun k v => k ≤ xs.length) (fun k v => row 68 7 v (((xs.take k).filter (ofR r)).map encD) :: blk b 66 [.slice a (xs.map encD).length cap] :: row 68 7 (.slice a (xs.map encD).length cap) (xs.map encD) :: m) (fun k v => [(6, .int .i64 (k : Int)), (5, v), (1, .int .i64 r), (0, .pointer (some ⟨b, 0, none⟩))]) (fun k v => xs.length - k) 0 (.slice none 0 0) (by omega) (by repeat (first | exact Sub.nil | exact Sub.refl | refine Sub.cons (by repeat (first | exact Pick.here | apply Pick.there)) ?_ | refine Sub.drop ?_)) (by repeat (first | exact Keep.nil | refine Keep.cons rfl ?_)) ?_
  intro k v hk
  refine J_seq ?_
  refine J_seq ?_
  refine J_region ?_
  refine L_pur rfl (p_move rfl) ?_
  refine L_pur rfl (p_move rfl) ?_
  refine L_pur rfl (p_nilCheck rfl) ?_
  refine L_pur rfl (p_fieldAddr rfl fa66_0) ?_
  refine L_val rfl (v_load rfl ty62 (by repeat (first | with_reducible exact Has.here | with_reducible assumption | with_reducible apply Has.there)) (by exact rfl)) ?_
  refine L_pur rfl (p_len rfl Try.underlying62) ?_
  refine L_pur rfl (p_lss rfl rfl) ?_
  refine L_nil ?_
  refine Q_then ?_
  refine C_dec rfl (fun h13 => ?_) (fun h13 => ?_)
  ·
    have hlt : k < xs.length := by omega
    obtain ⟨bx, ox, rfl⟩ := h3 (by intro h; rw [h] at hml; simp at hml; omega)
    obtain ⟨c, hcc⟩ : ∃ c, xs[k]? = some c := ⟨_, List.getElem?_eq_getElem hlt⟩
    have hsucc := take_filter_succ (p := ofR r) hcc
    have hfl : ((xs.take k).filter (ofR r)).length ≤ xs.length := Nat.le_trans (List.length_filter_le _ _) (by simp; omega)
    refine J_skip ?_
    refine Q_then ?_
    refine J_seq ?_
    refine J_block ?_
    refine J_seq ?_
    refine J_region ?_
    refine L_pur rfl (p_move rfl) ?_
    refine L_pur rfl (p_nilCheck rfl) ?_
    refine L_pur rfl (p_fieldAddr rfl fa66_0) ?_
    refine L_val rfl (v_load rfl ty62 (by repeat (first | with_reducible exact Has.here | with_reducible assumption | with_reducible apply Has.there)) (by exact rfl)) ?_
    refine L_pur rfl (p_move rfl) ?_
    refine L_pur rfl (p_indexAddr rfl rfl Try.underlying62 ty68 (by omega) (by omega)) ?_
    refine L_pur rfl (p_fieldAddr rfl fa68_0) ?_
    refine L_pur rfl (p_fieldAddr rfl fa36_0) ?_
    refine L_val rfl (v_loadF rfl ty3 (by repeat (first | with_reducible exact Has.here | with_reducible assumption | with_reducible apply Has.there)) (by simp only [Int.toNat_natCast, List.getElem?_map, hcc]; rfl) (by exact rfl)) ?_
    refine L_pur rfl (p_move rfl) ?_
    refine L_pur rfl (p_eql rfl rfl) ?_
    refine L_nil ?_
    refine Q_then ?_
    refine C_split rfl (fun h26 => ?_) (fun h26 => ?_)
    ·
      refine J_region ?_
      refine L_pur rfl (p_move rfl) ?_
      refine L_pur rfl (p_move rfl) ?_
      refine L_pur rfl (p_nilCheck rfl) ?_
      refine L_pur rfl (p_fieldAddr rfl fa66_0) ?_
      refine L_val rfl (v_load rfl ty62 (by repeat (first | with_reducible exact Has.here | with_reducible assumption | with_reducible apply Has.there)) (by exact rfl)) ?_
      refine L_pur rfl (p_move rfl) ?_
      refine L_pur rfl (p_indexAddr rfl rfl Try.underlying62 ty68 (by omega) (by omega)) ?_
      refine L_val rfl (v_loadE rfl ty68 (by repeat (first | with_reducible exact Has.here | with_reducible assumption | with_reducible apply Has.there)) (by simp only [Int.toNat_natCast, List.getElem?_map, hcc]; rfl)) ?_
      refine L_op (x_lit (vals := [_]) Try.underlying62 ty68 rfl (.cons rfl .nil) (.agg .nil) (Wf.cons rfl rfl Wf.nil) rfl (by decide) rfl rfl fun v35 => ?_)
      refine J_row .here fun hw35 a35 c35 hv35 hl35 hm35 hz35 => ?_
      subst hv35
      refine L_op (x_app rfl rfl Try.underlying62 ty68 rfl rfl (by repeat (first | with_reducible exact Pick.here | with_reducible assumption | with_reducible apply Pick.there)) (fun w H => sep_reads (by repeat (first | with_reducible exact Has.here | with_reducible assumption | with_reducible apply Has.there)) H) (by first | omega | (simp <;> omega)) (by first | omega | (simp <;> omega)) rfl fun v36 => ?_)
      refine J_rowEq (ys := ((xs.take (k + 1)).filter (ofR r)).map encD) (by rw [hsucc, if_pos (by simpa [ofR] using h26)]; simp) ?_
      refine J_row .here fun hw36 a36 c36 hv36 hl36 hm36 hz36 => ?_
      subst hv36
      refine L_pur rfl (p_assign rfl) ?_
      refine L_nil ?_
      refine Q_blk_normal ?_
      refine Q_then ?_
      refine J_region ?_
      refine L_pur rfl (p_move rfl) ?_
      refine L_pur rfl (p_add64 rfl rfl (by omega)) ?_
      refine L_pur rfl (p_assign rfl) ?_
      refine L_nil ?_
      refine Q_then ?_
      
      exact J_again2 (k + 1) _ (by omega) (by omega) (by repeat (first | exact Sub.nil | exact Sub.refl | refine Sub.cons (by repeat (first | exact Pick.here | apply Pick.there)) ?_ | refine Sub.drop ?_)) (by repeat (first | exact Keep.nil | refine Keep.cons rfl ?_))
    ·
      refine J_skip ?_
      refine Q_blk_normal ?_
      refine Q_then ?_
      refine J_region ?_
      refine L_pur rfl (p_move rfl) ?_
      refine L_pur rfl (p_add64 rfl rfl (by omega)) ?_
      refine L_pur rfl (p_assign rfl) ?_
      refine L_nil ?_
      refine Q_then ?_
      refine J_pick (A := row 68 7 v (((xs.take k).filter (ofR r)).map encD)) (by repeat (first | with_reducible exact Pick.here | with_reducible assumption | with_reducible apply Pick.there)) ?_
      refine J_rowEq (ys := ((xs.take (k + 1)).filter (ofR r)).map encD) (by rw [hsucc, if_neg (by simp [ofR] at h26 ⊢; exact h26)]; simp) ?_
      exact J_again2 (k + 1) _ (by omega) (by omega) (by repeat (first | exact Sub.nil | exact Sub.refl | refine Sub.cons (by repeat (first | exact Pick.here | apply Pick.there)) ?_ | refine Sub.drop ?_)) (by repeat (first | exact Keep.nil | refine Keep.cons rfl ?_))
  ·
    have hkx : k = xs.length := by omega
    subst hkx
    refine J_rowEq (ys := (xs.filter (ofR r)).map encD) (by rw [List.take_length]) ?_
    refine J_exit ?_
    refine Q_then_exit ?_
    refine Q_then_exit ?_
    refine Q_blk_this ?_
    refine Q_then ?_
    refine J_seq ?_
    refine J_region ?_
    refine L_pur rfl (p_move rfl) ?_
    refine L_pur rfl (p_assign rfl) ?_
    refine L_nil ?_
    refine Q_then ?_
    refine J_ret ?_
    refine J_shut2 (f := jF 66 b (xs)) _ rfl (by repeat (first | with_reducible exact Pick.here | with_reducible assumption | with_reducible apply Pick.there)) (by repeat (first | with_reducible exact Pick.here | with_reducible assumption | with_reducible apply Pick.there)) ?_
    exact J_return (_) Try.results44 (.tmp rfl .nil) rfl (by repeat (first | exact Sub.nil | exact Sub.refl | refine Sub.cons (by repeat (first | exact Pick.here | apply Pick.there)) ?_ | refine Sub.drop ?_))

set_option maxRecDepth 100000 in
theorem counts {E : World} {l m : List As}{b : Nat} {xs : List Deed} (hp : Pick (jA 64 b xs) l m) (hb : xs.length ≤ 1000) (r : Int) :
    Con Try.prog 39 #[.pointer (some ⟨b, 0, none⟩), .int .i64 r] E l (fun _ : Unit => .tuple #[.int .i64 (((xs.filter (ofR r)).length : Int) - ((xs.filter (ofR r)).countP gone : Nat)), .int .i64 (((xs.filter (ofR r)).countP gone : Nat) : Int)]) (fun _ => jA 64 b xs :: m) := by
  refine Con.body (vs := [.pointer (some ⟨b, 0, none⟩), .int .i64 r]) (n := 29) Try.func39 rfl rfl [(0, .pointer (some ⟨b, 0, none⟩)), (1, .int .i64 r)] (env_ok 2 rfl) ?_
  refine J_seq ?_
  refine J_region ?_
  refine L_pur rfl (p_assign rfl) ?_
  refine L_pur rfl (p_assign rfl) ?_
  refine L_nil ?_
  refine Q_then ?_
  refine J_seq ?_
  refine J_region ?_
  refine L_pur rfl (p_assign rfl) ?_
  refine L_nil ?_
  refine Q_then ?_
  refine J_seq ?_
  refine J_region ?_
  refine L_pur rfl (p_move rfl) ?_
  refine L_pur rfl (p_move rfl) ?_
  refine L_op (x_call Try.func43 nm43 bd43 (.cons rfl (.cons rfl .nil)) rfl (of hp hb r) fun _ => ?_)
  obtain ⟨ys, hys⟩ : ∃ ys, ys = xs.filter (ofR r) := ⟨_, rfl⟩
  rw [← hys]
  have hyl : ys.length ≤ 1000 := by rw [hys]; exact Nat.le_trans (List.length_filter_le _ _) hb
  refine J_row .here fun hw a cap hv h1 h2 h3 => ?_
  subst hv
  have hml : (ys.map encD).length = ys.length := List.length_map _
  have hm : cap ≤ 9223372036854775807 := h2
  refine L_pur rfl (p_assign rfl) ?_
  refine L_nil ?_
  refine Q_then ?_
  refine J_seq ?_
  refine J_seq ?_
  refine J_region ?_
  refine L_pur rfl (p_move rfl) ?_
  refine L_pur rfl (p_len rfl Try.underlying62) ?_
  refine L_pur rfl (p_move rfl) ?_
  refine L_nil ?_
  refine Q_then ?_
  refine J_block ?_
  refine J_loop (α := Nat) (fun k => k ≤ ys.length) (fun k => row 68 7 (.slice a (ys.map encD).length cap) (ys.map encD) :: jA 64 b xs :: m) (fun k => [(15, .int .i64 (k : Int)), (6, .int .i64 (((ys.take k).countP gone : Nat) : Int)), (7, .slice a (ys.map encD).length cap), (13, .slice a (ys.map encD).length cap), (14, .int .i64 (ys.map encD).length)]) (fun k => ys.length - k) 0 (by omega) (by repeat (first | exact Sub.nil | exact Sub.refl | refine Sub.cons (by repeat (first | exact Pick.here | apply Pick.there)) ?_ | refine Sub.drop ?_)) (by repeat (first | exact Keep.nil | refine Keep.cons rfl ?_)) ?_
  intro k hk
  refine J_seq ?_
  refine J_region ?_
  refine L_pur rfl (p_lss rfl rfl) ?_
  refine L_nil ?_
  refine Q_then ?_
  refine J_seq ?_
  refine C_dec rfl (fun h16 => ?_) (fun h16 => ?_)
  ·
    have hlt : k < ys.length := by omega
    obtain ⟨bx, ox, rfl⟩ := h3 (by intro h; rw [h] at hml; simp at hml; omega)
    obtain ⟨c, hcc⟩ : ∃ c, ys[k]? = some c := ⟨_, List.getElem?_eq_getElem hlt⟩
    have hsucc := take_count_succ (p := gone) hcc
    have hcl : (ys.take k).countP gone ≤ ys.length := Nat.le_trans List.countP_le_length (by simp; omega)
    refine J_skip ?_
    refine Q_then ?_
    refine J_seq ?_
    refine J_block ?_
    refine J_seq ?_
    refine J_region ?_
    refine L_pur rfl (p_indexAddr rfl rfl Try.underlying62 ty68 (by omega) (by omega)) ?_
    refine L_val rfl (v_loadE rfl ty68 (by repeat (first | with_reducible exact Has.here | with_reducible assumption | with_reducible apply Has.there)) (by simp only [Int.toNat_natCast, List.getElem?_map, hcc]; rfl)) ?_
    refine L_op (x_alloc ty68 rfl fun b9 => ?_)
    refine L_op (x_store rfl rfl ty68 rfl (by first | rfl | (simp [*]; done)) (by first | rfl | (simp [*]; done)) (by repeat (first | with_reducible exact Rep1.here | with_reducible apply Rep1.there)) (by first | exact Put.full rfl | ((repeat constructor); done) | exact Put.full (by first | rfl | simp [*])) ?_)
    refine L_nil ?_
    refine Q_then ?_
    refine J_seq ?_
    refine J_region ?_
    refine L_pur rfl (p_fieldAddr rfl fa68_5) ?_
    refine L_val rfl (v_load rfl ty4 (by repeat (first | with_reducible exact Has.here | with_reducible assumption | with_reducible apply Has.there)) (by exact rfl)) ?_
    refine L_nil ?_
    refine Q_then ?_
    refine C_split rfl (fun h20 => ?_) (fun h20 => ?_)
    ·
      refine J_region ?_
      refine L_pur rfl (p_move rfl) ?_
      refine L_pur rfl (p_add64 rfl rfl (by omega)) ?_
      refine L_pur rfl (p_assign rfl) ?_
      refine L_nil ?_
      refine Q_blk_normal ?_
      refine Q_then ?_
      refine J_region ?_
      refine L_pur rfl (p_add64 rfl rfl (by omega)) ?_
      refine L_pur rfl (p_move rfl) ?_
      refine L_nil ?_
      refine Q_then ?_
      refine J_slot (t := 6) (v := .int .i64 (((ys.take (k + 1)).countP gone : Nat) : Int)) rfl (by have h20' : gone c = _ := h20; rw [hsucc, h20']; simp) ?_
      exact J_again (k + 1) (by omega) (by omega) (by repeat (first | exact Sub.nil | exact Sub.refl | refine Sub.cons (by repeat (first | exact Pick.here | apply Pick.there)) ?_ | refine Sub.drop ?_)) (by repeat (first | exact Keep.nil | refine Keep.cons rfl ?_))
    ·
      refine J_skip ?_
      refine Q_blk_normal ?_
      refine Q_then ?_
      refine J_region ?_
      refine L_pur rfl (p_add64 rfl rfl (by omega)) ?_
      refine L_pur rfl (p_move rfl) ?_
      refine L_nil ?_
      refine Q_then ?_
      refine J_slot (t := 6) (v := .int .i64 (((ys.take (k + 1)).countP gone : Nat) : Int)) rfl (by have h20' : gone c = _ := h20; rw [hsucc, h20']; simp) ?_
      exact J_again (k + 1) (by omega) (by omega) (by repeat (first | exact Sub.nil | exact Sub.refl | refine Sub.cons (by repeat (first | exact Pick.here | apply Pick.there)) ?_ | refine Sub.drop ?_)) (by repeat (first | exact Keep.nil | refine Keep.cons rfl ?_))
  ·
    have hkx : k = ys.length := by omega
    subst hkx
    have hcl : (ys.take ys.length).countP gone ≤ ys.length := Nat.le_trans List.countP_le_length (by simp)
    refine J_exit ?_
    refine Q_then_exit ?_
    refine Q_then_exit ?_
    refine Q_blk_this ?_
    refine Q_then ?_
    refine J_seq ?_
    refine J_region ?_
    refine L_pur rfl (p_move rfl) ?_
    refine L_pur rfl (p_len rfl Try.underlying62) ?_
    refine L_pur rfl (p_move rfl) ?_
    refine L_pur rfl (p_sub64 rfl rfl (by omega)) ?_
    refine L_pur rfl (p_move rfl) ?_
    refine L_pur rfl (p_assign rfl) ?_
    refine L_pur rfl (p_assign rfl) ?_
    refine L_nil ?_
    refine Q_then ?_
    refine J_ret ?_
    refine J_return (()) Try.results39 (.tmp rfl (.tmp rfl .nil)) ?_ ?_
    · simp [one]
    · exact (by repeat (first | exact Sub.nil | exact Sub.refl | refine Sub.cons (by repeat (first | exact Pick.here | apply Pick.there)) ?_ | refine Sub.drop ?_))

set_option maxRecDepth 100000 in
theorem rcounts {E : World} {l m : List As}{b : Nat} {xs : List Deed} (hp : Pick (jA 66 b xs) l m) (hb : xs.length ≤ 1000) (r : Int) :
    Con Try.prog 40 #[.pointer (some ⟨b, 0, none⟩), .int .i64 r] E l (fun _ : Unit => .tuple #[.int .i64 (((xs.filter (ofR r)).length : Int) - ((xs.filter (ofR r)).countP gone : Nat)), .int .i64 (((xs.filter (ofR r)).countP gone : Nat) : Int)]) (fun _ => jA 66 b xs :: m) := by
  refine Con.body (vs := [.pointer (some ⟨b, 0, none⟩), .int .i64 r]) (n := 30) Try.func40 rfl rfl [(0, .pointer (some ⟨b, 0, none⟩)), (1, .int .i64 r)] (env_ok 2 rfl) ?_
  refine J_seq ?_
  refine J_region ?_
  refine L_pur rfl (p_assign rfl) ?_
  refine L_pur rfl (p_assign rfl) ?_
  refine L_nil ?_
  refine Q_then ?_
  refine J_seq ?_
  refine J_region ?_
  refine L_pur rfl (p_move rfl) ?_
  refine L_pur rfl (p_move rfl) ?_
  refine L_op (x_call Try.func44 nm44 bd44 (.cons rfl (.cons rfl .nil)) rfl (rof hp hb r) fun _ => ?_)
  obtain ⟨ys, hys⟩ : ∃ ys, ys = xs.filter (ofR r) := ⟨_, rfl⟩
  rw [← hys]
  have hyl : ys.length ≤ 1000 := by rw [hys]; exact Nat.le_trans (List.length_filter_le _ _) hb
  refine J_row .here fun hw a cap hv h1 h2 h3 => ?_
  subst hv
  have hml : (ys.map encD).length = ys.length := List.length_map _
  have hm : cap ≤ 9223372036854775807 := h2
  refine L_pur rfl (p_assign rfl) ?_
  refine L_nil ?_
  refine Q_then ?_
  refine J_seq ?_
  refine J_region ?_
  refine L_pur rfl (p_assign rfl) ?_
  refine L_nil ?_
  refine Q_then ?_
  refine J_seq ?_
  refine J_seq ?_
  refine J_region ?_
  refine L_pur rfl (p_assign rfl) ?_
  refine L_nil ?_
  refine Q_then ?_
  refine J_block ?_
  refine J_loop (α := Nat) (fun k => k ≤ ys.length) (fun k => row 68 7 (.slice a (ys.map encD).length cap) (ys.map encD) :: jA 66 b xs :: m) (fun k => [(8, .int .i64 (k : Int)), (7, .int .i64 (((ys.take k).countP gone : Nat) : Int)), (6, .slice a (ys.map encD).length cap)]) (fun k => ys.length - k) 0 (by omega) (by repeat (first | exact Sub.nil | exact Sub.refl | refine Sub.cons (by repeat (first | exact Pick.here | apply Pick.there)) ?_ | refine Sub.drop ?_)) (by repeat (first | exact Keep.nil | refine Keep.cons rfl ?_)) ?_
  intro k hk
  refine J_seq ?_
  refine J_seq ?_
  refine J_region ?_
  refine L_pur rfl (p_move rfl) ?_
  refine L_pur rfl (p_move rfl) ?_
  refine L_pur rfl (p_len rfl Try.underlying62) ?_
  refine L_pur rfl (p_lss rfl rfl) ?_
  refine L_nil ?_
  refine Q_then ?_
  refine C_dec rfl (fun h15 => ?_) (fun h15 => ?_)
  ·
    have hlt : k < ys.length := by omega
    obtain ⟨bx, ox, rfl⟩ := h3 (by intro h; rw [h] at hml; simp at hml; omega)
    obtain ⟨c, hcc⟩ : ∃ c, ys[k]? = some c := ⟨_, List.getElem?_eq_getElem hlt⟩
    have hsucc := take_count_succ (p := gone) hcc
    have hcl : (ys.take k).countP gone ≤ ys.length := Nat.le_trans List.countP_le_length (by simp; omega)
    refine J_skip ?_
    refine Q_then ?_
    refine J_seq ?_
    refine J_block ?_
    refine J_seq ?_
    refine J_region ?_
    refine L_pur rfl (p_move rfl) ?_
    refine L_pur rfl (p_move rfl) ?_
    refine L_pur rfl (p_indexAddr rfl rfl Try.underlying62 ty68 (by omega) (by omega)) ?_
    refine L_pur rfl (p_fieldAddr rfl fa68_5) ?_
    refine L_val rfl (v_loadF rfl ty4 (by repeat (first | with_reducible exact Has.here | with_reducible assumption | with_reducible apply Has.there)) (by simp only [Int.toNat_natCast, List.getElem?_map, hcc]; rfl) (by exact rfl)) ?_
    refine L_nil ?_
    refine Q_then ?_
    refine C_split rfl (fun h22 => ?_) (fun h22 => ?_)
    ·
      refine J_region ?_
      refine L_pur rfl (p_move rfl) ?_
      refine L_pur rfl (p_add64 rfl rfl (by omega)) ?_
      refine L_pur rfl (p_assign rfl) ?_
      refine L_nil ?_
      refine Q_blk_normal ?_
      refine Q_then ?_
      refine J_region ?_
      refine L_pur rfl (p_move rfl) ?_
      refine L_pur rfl (p_add64 rfl rfl (by omega)) ?_
      refine L_pur rfl (p_assign rfl) ?_
      refine L_nil ?_
      refine Q_then ?_
      refine J_slot (t := 7) (v := .int .i64 (((ys.take (k + 1)).countP gone : Nat) : Int)) rfl (by have h22' : gone c = _ := h22; rw [hsucc, h22']; simp) ?_
      exact J_again (k + 1) (by omega) (by omega) (by repeat (first | exact Sub.nil | exact Sub.refl | refine Sub.cons (by repeat (first | exact Pick.here | apply Pick.there)) ?_ | refine Sub.drop ?_)) (by repeat (first | exact Keep.nil | refine Keep.cons rfl ?_))
    ·
      refine J_skip ?_
      refine Q_blk_normal ?_
      refine Q_then ?_
      refine J_region ?_
      refine L_pur rfl (p_move rfl) ?_
      refine L_pur rfl (p_add64 rfl rfl (by omega)) ?_
      refine L_pur rfl (p_assign rfl) ?_
      refine L_nil ?_
      refine Q_then ?_
      refine J_slot (t := 7) (v := .int .i64 (((ys.take (k + 1)).countP gone : Nat) : Int)) rfl (by have h22' : gone c = _ := h22; rw [hsucc, h22']; simp) ?_
      exact J_again (k + 1) (by omega) (by omega) (by repeat (first | exact Sub.nil | exact Sub.refl | refine Sub.cons (by repeat (first | exact Pick.here | apply Pick.there)) ?_ | refine Sub.drop ?_)) (by repeat (first | exact Keep.nil | refine Keep.cons rfl ?_))
  ·
    have hkx : k = ys.length := by omega
    subst hkx
    have hcl : (ys.take ys.length).countP gone ≤ ys.length := Nat.le_trans List.countP_le_length (by simp)
    refine J_exit ?_
    refine Q_then_exit ?_
    refine Q_then_exit ?_
    refine Q_blk_this ?_
    refine Q_then ?_
    refine J_seq ?_
    refine J_region ?_
    refine L_pur rfl (p_move rfl) ?_
    refine L_pur rfl (p_len rfl Try.underlying62) ?_
    refine L_pur rfl (p_move rfl) ?_
    refine L_pur rfl (p_sub64 rfl rfl (by omega)) ?_
    refine L_pur rfl (p_move rfl) ?_
    refine L_pur rfl (p_assign rfl) ?_
    refine L_pur rfl (p_assign rfl) ?_
    refine L_nil ?_
    refine Q_then ?_
    refine J_ret ?_
    refine J_return (()) Try.results40 (.tmp rfl (.tmp rfl .nil)) ?_ ?_
    · simp [one]
    · exact (by repeat (first | exact Sub.nil | exact Sub.refl | refine Sub.cons (by repeat (first | exact Pick.here | apply Pick.there)) ?_ | refine Sub.drop ?_))

end Go.Pse
