/-
  The law on those who are dropped.
-/
import Derived.Test.YtjolbnicboaaeaaEp3
import Derived.Test.YtjolbnicboaaeaaNum
namespace Go.Pse
open Go.RowKit Go.Proofs

/-! ### plain: who is left, from the i-th on -/
def encB (b : Bool) : List Value := [.bool b]
def mk (k : Nat) : Msg := ((1, k), k, k, false)
def rk (k : Nat) : Rcv := ((1, k), k)
def live (g : List Bool) (i : Nat) : List Nat := (List.range' i (g.length - i)).filter fun k => !(g.getD k false)
theorem live_cons {g : List Bool} {i : Nat} (h : g[i]? = some false) : live g i = i :: live g (i + 1) := by
  have h1 := (List.getElem?_eq_some_iff.1 h).1
  unfold live
  rw [show g.length - i = (g.length - (i + 1)) + 1 by omega, List.range'_succ, List.filter_cons]
  simp [List.getD, h]
theorem live_skip {g : List Bool} {i : Nat} (h : g[i]? = some true) : live g i = live g (i + 1) := by
  have h1 := (List.getElem?_eq_some_iff.1 h).1
  unfold live
  rw [show g.length - i = (g.length - (i + 1)) + 1 by omega, List.range'_succ, List.filter_cons]
  simp [List.getD, h]
theorem live_end {g : List Bool} {i : Nat} (h : g.length ≤ i) : live g i = [] := by
  unfold live
  rw [show g.length - i = 0 by omega]; rfl
theorem live_len (g : List Bool) (i : Nat) : (live g i).length ≤ g.length := by
  unfold live
  exact Nat.le_trans (List.length_filter_le _ _) (by simp)
theorem live_all (n : Nat) : live (List.replicate n false) 0 = List.range n := by
  unfold live
  rw [List.filter_eq_self.2]
  · simp [List.range_eq_range']
  · intro k _
    simp only [List.getD, List.getElem?_replicate]
    split <;> rfl
theorem live_set (g : List Bool) (k : Nat) : live (g.set k true) 0 = (live g 0).filter fun j => !decide (j = k) := by
  unfold live
  rw [List.length_set, List.filter_filter]
  apply List.filter_congr
  intro j hj
  have hj' : j < g.length := by simpa using hj
  simp only [List.getD, List.getElem?_set]
  by_cases h : k = j
  · subst h; simp [hj']
  · have : ¬ j = k := fun e => h e.symm
    simp [h, this]
theorem live_mem {g : List Bool} {k : Nat} : k ∈ live g 0 ↔ k < g.length ∧ g.getD k false = false := by
  unfold live
  simp [List.mem_filter]
theorem cut_lt {l : List Nat} {k : Nat} : (l.filter fun j => !decide (j = k)).length < l.length ↔ k ∈ l := by
  induction l with
  | nil => simp
  | cons a l ih =>
    have h2 : (l.filter fun j => !decide (j = k)).length ≤ l.length := List.length_filter_le _ _
    rw [List.filter_cons]
    by_cases h : a = k
    · subst h; simp; omega
    · have h3 : ¬ k = a := fun e => h e.symm
      simp only [h, decide_false, Bool.not_false, if_true, List.length_cons, List.mem_cons, h3, false_or, ← ih]; omega
theorem drop_mk (l : List Nat) (k : Nat) : (l.map mk).filter (fun c => !isM (1, k) c) = (l.filter fun j => !decide (j = k)).map mk := by
  rw [List.filter_map]; congr 1; apply List.filter_congr; intro j _; simp [isM, mk]; exact decide_eq_decide.2 (by omega)
theorem drop_rk (l : List Nat) (k : Nat) : (l.map rk).filter (fun c => !isR (1, k) c) = (l.filter fun j => !decide (j = k)).map rk := by
  rw [List.filter_map]; congr 1; apply List.filter_congr; intro j _; simp [isR, rk]; exact decide_eq_decide.2 (by omega)
theorem drop_says {g : List Bool} {k : Nat} (h : k < g.length) : decide ((live (g.set k true) 0).length < (live g 0).length) = !(g.getD k false) := by
  rw [live_set]
  have := @cut_lt (live g 0) k
  rw [live_mem] at this
  rw [Bool.eq_iff_iff, decide_eq_true_eq, this]
  simp [h]

theorem putS {E : World} {l m : List As} {b i : Nat} (hp : Pick (epA b ((List.range i).map mk) []) l m) (hi : i ≤ 1000) :
    Con Try.prog 30 #[.pointer (some ⟨b, 0, none⟩), .agg (encM (mk i)).toArray] E l (fun _ : Unit => .tuple #[.agg (encR (((0, 0), 0))).toArray, .bool false]) (fun _ => epA b ((List.range (i + 1)).map mk) [] :: m) := by
  have h := send (E := E) hp (by simp; try omega) (by simp; try omega) (mk i)
  rw [List.range_succ, List.map_append]
  exact h
theorem takeS {E : World} {l m : List As} {b i : Nat} {g : List Bool} (hp : Pick (epA b ((live g i).map mk) []) l m) (hi : g[i]? = some false) (hg : g.length ≤ 1000) :
    Con Try.prog 31 #[.pointer (some ⟨b, 0, none⟩), .agg (encR (((2, i), 0))).toArray] E l (fun _ : Unit => .tuple #[.agg (encM (mk i)).toArray, .bool true]) (fun _ => epA b ((live g (i + 1)).map mk) [] :: m) := by
  have hlen := live_len g i
  have h := recv (E := E) hp (by simp; try omega) (by simp; try omega) (((2, i), 0))
  rw [live_cons hi] at h
  exact h
theorem dropS {E : World} {l m : List As} {b k : Nat} {g : List Bool} (hp : Pick (epA b ((live g 0).map mk) []) l m) (hk : k < g.length) (hg : g.length ≤ 1000) :
    Con Try.prog 58 #[.pointer (some ⟨b, 0, none⟩), .agg (encI (1, (k : Int))).toArray] E l (fun _ : Unit => .bool (!(g.getD k false))) (fun _ => epA b ((live (g.set k true) 0).map mk) [] :: m) := by
  have hlen := live_len g 0
  have h := drop (E := E) hp (by simp; try omega) (by simp; try omega) (i := (1, (k : Int)))
  rw [drop_mk, ← live_set] at h
  have hd := drop_says hk
  simp only [List.filter_nil, List.length_nil, List.length_map, Nat.add_zero, Nat.zero_add, hd] at h
  exact h

theorem putR {E : World} {l m : List As} {b i : Nat} (hp : Pick (epA b [] ((List.range i).map rk)) l m) (hi : i ≤ 1000) :
    Con Try.prog 31 #[.pointer (some ⟨b, 0, none⟩), .agg (encR (rk i)).toArray] E l (fun _ : Unit => .tuple #[.agg (encM (((0, 0), 0, 0, false))).toArray, .bool false]) (fun _ => epA b [] ((List.range (i + 1)).map rk) :: m) := by
  have h := recv (E := E) hp (by simp; try omega) (by simp; try omega) (rk i)
  rw [List.range_succ, List.map_append]
  exact h
theorem takeR {E : World} {l m : List As} {b i : Nat} {g : List Bool} (hp : Pick (epA b [] ((live g i).map rk)) l m) (hi : g[i]? = some false) (hg : g.length ≤ 1000) :
    Con Try.prog 30 #[.pointer (some ⟨b, 0, none⟩), .agg (encM (((2, i), 0, 0, false))).toArray] E l (fun _ : Unit => .tuple #[.agg (encR (rk i)).toArray, .bool true]) (fun _ => epA b [] ((live g (i + 1)).map rk) :: m) := by
  have hlen := live_len g i
  have h := send (E := E) hp (by simp; try omega) (by simp; try omega) (((2, i), 0, 0, false))
  rw [live_cons hi] at h
  exact h
theorem dropR {E : World} {l m : List As} {b k : Nat} {g : List Bool} (hp : Pick (epA b [] ((live g 0).map rk)) l m) (hk : k < g.length) (hg : g.length ≤ 1000) :
    Con Try.prog 58 #[.pointer (some ⟨b, 0, none⟩), .agg (encI (1, (k : Int))).toArray] E l (fun _ : Unit => .bool (!(g.getD k false))) (fun _ => epA b [] ((live (g.set k true) 0).map rk) :: m) := by
  have hlen := live_len g 0
  have h := drop (E := E) hp (by simp; try omega) (by simp; try omega) (i := (1, (k : Int)))
  rw [drop_rk, ← live_set] at h
  have hd := drop_says hk
  simp only [List.filter_nil, List.length_nil, List.length_map, Nat.add_zero, Nat.zero_add, hd] at h
  exact h

theorem J_epTo {E : World} {l : List As} {n : Nat} {F : Env} {K : Act → World → Prop} {A B : As} (h : A = B) (k : Jk E (B :: l) n F K) : Jk E (A :: l) n F K := h ▸ k

set_option maxRecDepth 100000 in
theorem epDrops {E W : World} {v : Value} {ds : List Int} (hr : Reads W 1 v (ds.map fun z => [Value.int .i64 z])) (z0 : Int) (sd : Bool) :
    Con Try.prog 13 #[.int .i64 z0, v, .bool sd] E [old W] (fun _ : Unit => .bool true) (fun _ => [old W]) := by
  cases sd
  ·
    refine Con.body (vs := [.int .i64 z0, v, .bool false]) (n := 136) Try.func13 rfl rfl [(0, .int .i64 z0), (1, v), (2, .bool false)] (env_ok 3 rfl) ?_
    refine J_readsB (fun w H => hr.old .here H) fun hw a cap hv h1 h2 h3 => ?_
    subst hv
    have hm : cap ≤ 9223372036854775807 := h2
    have hml : (ds.map fun z => [Value.int .i64 z]).length = ds.length := List.length_map _
    obtain ⟨n, hn⟩ : ∃ n, n = num z0 16 + 1 := ⟨_, rfl⟩
    have hn2 : num z0 16 < 16 := num_lt' (b := 16) (by omega)
    have hn1 : 1 ≤ n := by omega
    have hn3 : n ≤ 16 := by omega
    refine J_seq ?_
    refine J_region ?_
    refine L_pur rfl (p_assign rfl) ?_
    refine L_nil ?_
    refine Q_then ?_
    refine J_seq ?_
    refine J_region ?_
    refine L_op (x_call Try.func29 nm29 bd29 .nil rfl (first) fun _ => ?_)
    refine L_pur rfl (p_assign rfl) ?_
    refine L_nil ?_
    refine Q_then ?_
    refine J_seq ?_
    refine J_seq ?_
    refine J_region ?_
    refine L_pur rfl (p_move rfl) ?_
    refine L_pur rfl (p_not rfl) ?_
    refine L_nil ?_
    refine Q_then ?_
    refine J_bool (t := 20) (c := false) rfl (rfl) ?_
    refine C_false rfl ?_
    refine J_skip ?_
    refine Q_then ?_
    refine J_seq ?_
    refine J_seq ?_
    refine J_region ?_
    refine L_pur rfl (p_move rfl) ?_
    refine L_pur rfl (p_len rfl Try.underlying23) ?_
    refine L_pur rfl (p_gtr rfl rfl) ?_
    refine L_nil ?_
    refine Q_then ?_
    refine C_dec rfl (fun h23 => ?_) (fun h23 => ?_)
    ·
      refine J_seq ?_
      refine J_region ?_
      refine L_pur rfl (p_move rfl) ?_
      refine L_pur rfl (p_assign rfl) ?_
      refine L_nil ?_
      refine Q_then ?_
      refine J_ret ?_
      refine Q_then_ret ?_
      exact J_return (()) Try.results13 (.tmp rfl .nil) rfl (by repeat (first | exact Sub.nil | exact Sub.refl | refine Sub.cons (by repeat (first | exact Pick.here | apply Pick.there)) ?_ | refine Sub.drop ?_))
    ·
      refine J_skip ?_
      refine Q_then ?_
      refine J_seq ?_
      refine J_region ?_
      refine L_pur rfl (p_move rfl) ?_
      refine L_op (x_call Try.func23 nm23 bd23 (.cons rfl (.cons rfl .nil)) rfl (number (by omega) (by omega)) fun _ => ?_)
      refine L_pur rfl (p_add64 rfl rfl (by omega)) ?_
      refine J_slot (t := 27) (v := .int .i64 (n : Int)) rfl (by rw [hn]; simp) ?_
      refine L_pur rfl (p_assign rfl) ?_
      refine L_nil ?_
      refine Q_then ?_
      refine J_seq ?_
      refine J_region ?_
      refine L_op (x_alloc ty50 rfl fun b8 => ?_)
      refine J_ep ?_
      refine L_nil ?_
      refine Q_then ?_
      refine J_seq ?_
      refine J_region ?_
      refine L_pur rfl (p_move rfl) ?_
      refine L_op (x_make rfl rfl Try.underlying22 ty4 rfl rfl (by omega) (by omega) rfl rfl fun v29 => ?_)
      refine J_rowEq (ys := (List.replicate n false).map encB) (by simp [encB]) ?_
      refine J_row .here fun hw29 a29 c29 hv29 hl29 hm29 hz29 => ?_
      subst hv29
      obtain ⟨bg, og, rfl⟩ := hz29 (by simp; omega)
      refine J_rowTo (v' := .slice (some ⟨bg, og, none⟩) n c29) (ys := (List.replicate n false).map encB) rfl (by simp) ?_
      refine J_slot (t := 29) (v := .slice (some ⟨bg, og, none⟩) n c29) rfl (by simp) ?_
      obtain ⟨cg, hcg⟩ : ∃ cg, cg = c29 := ⟨_, rfl⟩
      subst hcg
      refine L_pur rfl (p_assign rfl) ?_
      refine L_nil ?_
      refine Q_then ?_
      refine J_seq ?_
      refine J_seq ?_
      refine J_region ?_
      refine L_pur rfl (p_assign rfl) ?_
      refine L_nil ?_
      refine Q_then ?_
      refine J_block ?_
      refine J_loop (α := Nat) (fun i => i ≤ n) (fun i => [epA b8 [] ((List.range i).map rk), row 4 1 (.slice (some ⟨bg, og, none⟩) n cg) ((List.replicate n false).map encB), old W]) (fun i => [(10, .int .i64 (i : Int)), (0, .int .i64 (n : Int)), (1, .slice a (ds.map fun z => [Value.int .i64 z]).length cap), (2, .bool false), (7, .bool true), (8, .pointer (some ⟨b8, 0, none⟩)), (9, .slice (some ⟨bg, og, none⟩) n cg)]) (fun i => n - i) 0 (by omega) (by repeat (first | exact Sub.nil | exact Sub.refl | refine Sub.cons (by repeat (first | exact Pick.here | apply Pick.there)) ?_ | refine Sub.drop ?_)) (by repeat (first | exact Keep.nil | refine Keep.cons rfl ?_)) ?_
      intro i hi
      refine J_seq ?_
      refine J_seq ?_
      refine J_region ?_
      refine L_pur rfl (p_move rfl) ?_
      refine L_pur rfl (p_move rfl) ?_
      refine L_pur rfl (p_lss rfl rfl) ?_
      refine L_nil ?_
      refine Q_then ?_
      refine C_dec rfl (fun h32 => ?_) (fun h32 => ?_)
      ·
        refine J_skip ?_
        refine Q_then ?_
        refine J_seq ?_
        refine J_block ?_
        refine J_seq ?_
        refine J_region ?_
        refine L_pur rfl (p_move rfl) ?_
        refine L_nil ?_
        refine Q_then ?_
        refine J_bool (t := 35) (c := false) rfl (rfl) ?_
        refine C_false rfl ?_
        refine J_region ?_
        refine L_pur rfl (p_move rfl) ?_
        refine L_pur rfl (bld36 (.cons rfl (.cons rfl .nil)) (by repeat constructor)) ?_
        refine L_pur rfl (p_move rfl) ?_
        refine L_pur rfl (bld52 (.cons rfl (.cons rfl .nil)) (by repeat constructor)) ?_
        refine L_op (x_call Try.func31 nm31 bd31 (.cons rfl (.cons rfl .nil)) rfl (putR (i := i) (by repeat (first | with_reducible exact Pick.here | with_reducible assumption | with_reducible apply Pick.there)) (by omega)) fun _ => ?_)
        refine L_nil ?_
        refine Q_blk_normal ?_
        refine Q_then ?_
        refine J_region ?_
        refine L_pur rfl (p_move rfl) ?_
        refine L_pur rfl (p_add64 rfl rfl (by omega)) ?_
        refine L_pur rfl (p_assign rfl) ?_
        refine L_nil ?_
        refine Q_then ?_
        exact J_again (i + 1) (by omega) (by omega) (by repeat (first | exact Sub.nil | exact Sub.refl | refine Sub.cons (by repeat (first | exact Pick.here | apply Pick.there)) ?_ | refine Sub.drop ?_)) (by repeat (first | exact Keep.nil | refine Keep.cons rfl ?_))
      ·
        have hin : n = i := by omega
        subst hin
        refine J_pick (A := epA b8 [] ((List.range n).map rk)) (by repeat (first | with_reducible exact Pick.here | with_reducible assumption | with_reducible apply Pick.there)) ?_
        refine J_epTo (B := epA b8 [] ((live (List.replicate n false) 0).map rk)) (by rw [live_all]) ?_
        refine J_exit ?_
        refine Q_then_exit ?_
        refine Q_then_exit ?_
        refine Q_blk_this ?_
        refine Q_then ?_
        refine J_seq ?_
        refine J_seq ?_
        refine J_region ?_
        refine L_pur rfl (p_assign rfl) ?_
        refine L_nil ?_
        refine Q_then ?_
        refine J_block ?_
        refine J_loop2 (fun i g => i ≤ ds.length ∧ g.length = n) (fun i g => [epA b8 [] ((live g 0).map rk), row 4 1 (.slice (some ⟨bg, og, none⟩) n cg) (g.map encB), old W]) (fun i g => [(11, .int .i64 (i : Int)), (0, .int .i64 (n : Int)), (1, .slice a (ds.map fun z => [Value.int .i64 z]).length cap), (2, .bool false), (7, .bool true), (8, .pointer (some ⟨b8, 0, none⟩)), (9, .slice (some ⟨bg, og, none⟩) n cg)]) (fun i g => ds.length - i) 0 (List.replicate n false) ⟨by omega, by simp⟩ (by repeat (first | exact Sub.nil | exact Sub.refl | refine Sub.cons (by repeat (first | exact Pick.here | apply Pick.there)) ?_ | refine Sub.drop ?_)) (by repeat (first | exact Keep.nil | refine Keep.cons rfl ?_)) ?_
        intro i g ⟨hi, hg⟩
        refine J_seq ?_
        refine J_seq ?_
        refine J_region ?_
        refine L_pur rfl (p_move rfl) ?_
        refine L_pur rfl (p_move rfl) ?_
        refine L_pur rfl (p_len rfl Try.underlying23) ?_
        refine L_pur rfl (p_lss rfl rfl) ?_
        refine L_nil ?_
        refine Q_then ?_
        refine C_dec rfl (fun h51 => ?_) (fun h51 => ?_)
        ·
          have hlt : i < ds.length := by omega
          obtain ⟨b, o, rfl⟩ := h3 (by intro h; rw [h] at hml; simp at hml; omega)
          obtain ⟨z, hzz⟩ : ∃ z, ds[i]? = some z := ⟨_, List.getElem?_eq_getElem hlt⟩
          refine J_skip ?_
          refine Q_then ?_
          refine J_seq ?_
          refine J_block ?_
          refine J_seq ?_
          refine J_region ?_
          refine L_pur rfl (p_move rfl) ?_
          refine L_pur rfl (p_move rfl) ?_
          refine L_pur rfl (p_indexAddr rfl rfl Try.underlying23 ty3 (by omega) (by omega)) ?_
          refine L_val rfl (v_loadR1 rfl ty3 (fun w H => hr.old (by repeat (first | with_reducible exact Has.here | with_reducible assumption | with_reducible apply Has.there)) H) (by simp only [Int.toNat_natCast, List.getElem?_map, hzz]; rfl)) ?_
          refine L_pur rfl (p_move rfl) ?_
          refine L_op (x_call Try.func23 nm23 bd23 (.cons rfl (.cons rfl .nil)) rfl (number (b := (n : Int)) (by omega) (by omega)) fun _ => ?_)
          obtain ⟨k, hk⟩ : ∃ k, k = num z n := ⟨_, rfl⟩
          have hkn : k < n := by rw [hk]; exact num_lt' (by omega)
          refine J_slot (t := 59) (v := .int .i64 (k : Int)) rfl (by rw [hk]) ?_
          obtain ⟨bk, hbk⟩ : ∃ bk, g[k]? = some bk := ⟨_, List.getElem?_eq_getElem (by omega)⟩
          refine L_pur rfl (p_assign rfl) ?_
          refine L_nil ?_
          refine Q_then ?_
          refine J_seq ?_
          refine J_seq ?_
          refine J_draw mixed ?_
          refine A_take (i := 0) rfl rfl rfl rfl (by kernel_rfl) (by kernel_rfl) (by kernel_rfl) (fun _ _ _ _ h => h) (p_move rfl) ?_
          refine A_take (i := 1) rfl rfl rfl rfl (by kernel_rfl) (by kernel_rfl) (by kernel_rfl) (fun _ _ _ _ h => h) (bld36 (.cons rfl (.cons rfl .nil)) (by repeat constructor)) ?_
          refine A_take (i := 3) rfl rfl rfl rfl (by kernel_rfl) (by kernel_rfl) (by kernel_rfl) (fun _ _ _ _ h => h) (p_move rfl) ?_
          refine A_take (i := 4) rfl rfl rfl rfl (by kernel_rfl) (by kernel_rfl) (by kernel_rfl) (fun _ _ _ _ h => h) (p_move rfl) ?_
          refine A_take (i := 5) rfl rfl rfl rfl (by kernel_rfl) (by kernel_rfl) (by kernel_rfl) (fun _ _ _ _ h => h) (p_indexAddr rfl rfl Try.underlying22 ty4 (by omega) (by omega)) ?_
          refine A_ready (rs := [2, 6]) (by kernel_rfl) (by simp) ?_
          refine (A_cons rfl ?_ (A_cons rfl ?_ A_nil))
          ·
            refine x_call Try.func58 nm58 bd58 (.cons rfl (.cons rfl .nil)) rfl (dropR (g := g) (k := k) (by repeat (first | with_reducible exact Pick.here | with_reducible assumption | with_reducible apply Pick.there)) (by omega) (by omega)) fun _ => ?_
            refine A_one (i := 6) (by kernel_rfl) rfl ?_
            refine J_val (v_loadE1 rfl ty4 (by repeat (first | with_reducible exact Has.here | with_reducible assumption | with_reducible apply Has.there)) (by simp only [Int.toNat_natCast, List.getElem?_map, hbk]; rfl)) rfl rfl rfl ?_
            refine A_take (i := 7) rfl rfl rfl rfl (by kernel_rfl) (by kernel_rfl) (by kernel_rfl) (fun _ _ _ _ h => h) (p_eqb Try.underlying4 rfl rfl) ?_
            refine A_done (by kernel_rfl) ?_
            refine Q_then ?_
            refine J_bool (t := 67) (c := false) rfl (by simp [List.getD, hbk]) ?_
            refine C_false rfl ?_
            refine J_skip ?_
            refine Q_then ?_
            refine J_region ?_
            refine L_pur rfl (p_move rfl) ?_
            refine L_pur rfl (p_move rfl) ?_
            refine L_pur rfl (p_indexAddr rfl rfl Try.underlying22 ty4 (by omega) (by omega)) ?_
            refine L_op (x_storeE (len := n) (vs := [.bool true]) rfl rfl ty4 rfl rfl rfl (by repeat (first | with_reducible exact Pick.here | with_reducible assumption | with_reducible apply Pick.there)) (by first | omega | (simp <;> omega)) ?_)
            refine J_rowEq (ys := (g.set k true).map encB) (by simp [List.map_set, encB]) ?_
            refine L_nil ?_
            refine Q_blk_normal ?_
            refine Q_then ?_
            refine J_region ?_
            refine L_pur rfl (p_move rfl) ?_
            refine L_pur rfl (p_add64 rfl rfl (by omega)) ?_
            refine L_pur rfl (p_assign rfl) ?_
            refine L_nil ?_
            refine Q_then ?_
            exact J_again2 (i + 1) (g.set k true) (by omega) (⟨by omega, by simpa using hg⟩) (by repeat (first | exact Sub.nil | exact Sub.refl | refine Sub.cons (by repeat (first | exact Pick.here | apply Pick.there)) ?_ | refine Sub.drop ?_)) (by repeat (first | exact Keep.nil | refine Keep.cons rfl ?_))
          ·
            refine J_val (v_loadE1 rfl ty4 (by repeat (first | with_reducible exact Has.here | with_reducible assumption | with_reducible apply Has.there)) (by simp only [Int.toNat_natCast, List.getElem?_map, hbk]; rfl)) rfl rfl rfl ?_
            refine A_one (i := 2) (by kernel_rfl) rfl ?_
            refine x_call Try.func58 nm58 bd58 (.cons rfl (.cons rfl .nil)) rfl (dropR (g := g) (k := k) (by repeat (first | with_reducible exact Pick.here | with_reducible assumption | with_reducible apply Pick.there)) (by omega) (by omega)) fun _ => ?_
            refine A_take (i := 7) rfl rfl rfl rfl (by kernel_rfl) (by kernel_rfl) (by kernel_rfl) (fun _ _ _ _ h => h) (p_eqb Try.underlying4 rfl rfl) ?_
            refine A_done (by kernel_rfl) ?_
            refine Q_then ?_
            refine J_bool (t := 67) (c := false) rfl (by simp [List.getD, hbk]) ?_
            refine C_false rfl ?_
            refine J_skip ?_
            refine Q_then ?_
            refine J_region ?_
            refine L_pur rfl (p_move rfl) ?_
            refine L_pur rfl (p_move rfl) ?_
            refine L_pur rfl (p_indexAddr rfl rfl Try.underlying22 ty4 (by omega) (by omega)) ?_
            refine L_op (x_storeE (len := n) (vs := [.bool true]) rfl rfl ty4 rfl rfl rfl (by repeat (first | with_reducible exact Pick.here | with_reducible assumption | with_reducible apply Pick.there)) (by first | omega | (simp <;> omega)) ?_)
            refine J_rowEq (ys := (g.set k true).map encB) (by simp [List.map_set, encB]) ?_
            refine L_nil ?_
            refine Q_blk_normal ?_
            refine Q_then ?_
            refine J_region ?_
            refine L_pur rfl (p_move rfl) ?_
            refine L_pur rfl (p_add64 rfl rfl (by omega)) ?_
            refine L_pur rfl (p_assign rfl) ?_
            refine L_nil ?_
            refine Q_then ?_
            exact J_again2 (i + 1) (g.set k true) (by omega) (⟨by omega, by simpa using hg⟩) (by repeat (first | exact Sub.nil | exact Sub.refl | refine Sub.cons (by repeat (first | exact Pick.here | apply Pick.there)) ?_ | refine Sub.drop ?_)) (by repeat (first | exact Keep.nil | refine Keep.cons rfl ?_))
        ·
          refine J_exit ?_
          refine Q_then_exit ?_
          refine Q_then_exit ?_
          refine Q_blk_this ?_
          refine Q_then ?_
          refine J_seq ?_
          refine J_seq ?_
          refine J_region ?_
          refine L_pur rfl (p_assign rfl) ?_
          refine L_nil ?_
          refine Q_then ?_
          refine J_block ?_
          refine J_loop (α := Nat) (fun i => i ≤ n) (fun i => [epA b8 [] ((live g i).map rk), row 4 1 (.slice (some ⟨bg, og, none⟩) n cg) (g.map encB), old W]) (fun i => [(13, .int .i64 (i : Int)), (0, .int .i64 (n : Int)), (1, .slice a (ds.map fun z => [Value.int .i64 z]).length cap), (2, .bool false), (7, .bool true), (8, .pointer (some ⟨b8, 0, none⟩)), (9, .slice (some ⟨bg, og, none⟩) n cg)]) (fun i => n - i) 0 (by omega) (by repeat (first | exact Sub.nil | exact Sub.refl | refine Sub.cons (by repeat (first | exact Pick.here | apply Pick.there)) ?_ | refine Sub.drop ?_)) (by repeat (first | exact Keep.nil | refine Keep.cons rfl ?_)) ?_
          intro i hi
          refine J_seq ?_
          refine J_seq ?_
          refine J_region ?_
          refine L_pur rfl (p_move rfl) ?_
          refine L_pur rfl (p_move rfl) ?_
          refine L_pur rfl (p_lss rfl rfl) ?_
          refine L_nil ?_
          refine Q_then ?_
          refine C_dec rfl (fun h73 => ?_) (fun h73 => ?_)
          ·
            have hlt : i < n := by omega
            obtain ⟨bk, hbk⟩ : ∃ bk, g[i]? = some bk := ⟨_, List.getElem?_eq_getElem (by omega)⟩
            refine J_skip ?_
            refine Q_then ?_
            refine J_seq ?_
            refine J_block ?_
            refine J_seq ?_
            refine J_seq ?_
            refine J_region ?_
            refine L_pur rfl (p_move rfl) ?_
            refine L_pur rfl (p_move rfl) ?_
            refine L_pur rfl (p_indexAddr rfl rfl Try.underlying22 ty4 (by omega) (by omega)) ?_
            refine L_val rfl (v_loadE1 rfl ty4 (by repeat (first | with_reducible exact Has.here | with_reducible assumption | with_reducible apply Has.there)) (by simp only [Int.toNat_natCast, List.getElem?_map, hbk]; rfl)) ?_
            refine L_nil ?_
            refine Q_then ?_
            refine C_split rfl (fun h79 => ?_) (fun h79 => ?_)
            ·
              rw [h79] at hbk
              refine J_pick (A := epA b8 [] ((live g i).map rk)) (by repeat (first | with_reducible exact Pick.here | with_reducible assumption | with_reducible apply Pick.there)) ?_
              refine J_epTo (by rw [live_skip hbk]) ?_
              refine J_exit ?_
              refine Q_then_exit ?_
              refine Q_blk_this ?_
              refine Q_then ?_
              refine J_region ?_
              refine L_pur rfl (p_move rfl) ?_
              refine L_pur rfl (p_add64 rfl rfl (by omega)) ?_
              refine L_pur rfl (p_assign rfl) ?_
              refine L_nil ?_
              refine Q_then ?_
              exact J_again (i + 1) (by omega) (by omega) (by repeat (first | exact Sub.nil | exact Sub.refl | refine Sub.cons (by repeat (first | exact Pick.here | apply Pick.there)) ?_ | refine Sub.drop ?_)) (by repeat (first | exact Keep.nil | refine Keep.cons rfl ?_))
            ·
              rw [h79] at hbk
              refine J_skip ?_
              refine Q_then ?_
              refine J_seq ?_
              refine J_region ?_
              refine L_pur rfl (p_move rfl) ?_
              refine L_nil ?_
              refine Q_then ?_
              refine J_bool (t := 80) (c := false) rfl (rfl) ?_
              refine C_false rfl ?_
              refine J_seq ?_
              refine J_region ?_
              refine L_pur rfl (p_move rfl) ?_
              refine L_pur rfl (bld36 (.cons rfl (.cons rfl .nil)) (by repeat constructor)) ?_
              refine L_pur rfl (bld56 (.cons rfl .nil) (by repeat constructor)) ?_
              refine L_op (x_call Try.func30 nm30 bd30 (.cons rfl (.cons rfl .nil)) rfl (takeR (g := g) (i := i) (by repeat (first | with_reducible exact Pick.here | with_reducible assumption | with_reducible apply Pick.there)) hbk (by omega)) fun _ => ?_)
              refine L_pur rfl (p_move rfl) ?_
              refine L_pur rfl (p_extract rfl rfl) ?_
              refine L_pur rfl (p_extract rfl rfl) ?_
              refine L_op (x_alloc ty52 rfl fun b16 => ?_)
              refine L_op (x_store rfl rfl ty52 rfl (by first | rfl | (simp [*]; done)) (by first | rfl | (simp [*]; done)) (by repeat (first | with_reducible exact Rep1.here | with_reducible apply Rep1.there)) (by first | exact Put.full rfl | ((repeat constructor); done) | exact Put.full (by first | rfl | simp [*])) ?_)
              refine L_pur rfl (p_assign rfl) ?_
              refine L_nil ?_
              refine Q_then ?_
              refine J_seq ?_
              refine J_region ?_
              refine L_pur rfl (p_move rfl) ?_
              refine L_pur rfl (p_not rfl) ?_
              refine L_pur rfl (p_move rfl) ?_
              refine J_bool (t := 112) (c := false) rfl (rfl) ?_
              refine L_op (G_on rfl rfl rfl ?_)
              refine J_pur (p_fieldAddr rfl fa52_0) rfl rfl rfl ?_
              refine L_op (G_on rfl rfl rfl ?_)
              refine J_val (v_loadA rfl ty36 (by repeat (first | with_reducible exact Has.here | with_reducible assumption | with_reducible apply Has.there)) (by first | exact Cut.full rfl | ((repeat constructor); done) | exact Cut.full (by first | rfl | simp [*]))) rfl rfl rfl ?_
              refine L_op (G_on rfl rfl rfl ?_)
              refine J_pur (p_move rfl) rfl rfl rfl ?_
              refine L_op (G_on rfl rfl rfl ?_)
              refine J_pur (bld36 (.cons rfl (.cons rfl .nil)) (by repeat constructor)) rfl rfl rfl ?_
              refine L_op (G_on rfl rfl rfl ?_)
              refine J_pur (p_nev rfl rfl (fun w => eg36 _ _ _ _ _ w) (fun w => nev36 _ _ _ _ w)) rfl rfl rfl ?_
              refine L_pur rfl (p_pick_f rfl rfl) ?_
              refine L_pur rfl (p_move rfl) ?_
              refine J_bool (t := 119) (c := false) rfl (by simp [rk]) ?_
              refine L_op (G_on rfl rfl rfl ?_)
              refine J_pur (p_fieldAddr rfl fa52_1) rfl rfl rfl ?_
              refine L_op (G_on rfl rfl rfl ?_)
              refine J_val (v_load rfl ty3 (by repeat (first | with_reducible exact Has.here | with_reducible assumption | with_reducible apply Has.there)) (by exact rfl)) rfl rfl rfl ?_
              refine L_op (G_on rfl rfl rfl ?_)
              refine J_pur (p_move rfl) rfl rfl rfl ?_
              refine L_op (G_on rfl rfl rfl ?_)
              refine J_pur (p_neq rfl rfl) rfl rfl rfl ?_
              refine L_pur rfl (p_pick_f rfl rfl) ?_
              refine L_nil ?_
              refine Q_then ?_
              refine J_bool (t := 124) (c := false) rfl (by simp [rk]) ?_
              refine C_false rfl ?_
              refine J_skip ?_
              refine Q_blk_normal ?_
              refine Q_then ?_
              refine J_region ?_
              refine L_pur rfl (p_move rfl) ?_
              refine L_pur rfl (p_add64 rfl rfl (by omega)) ?_
              refine L_pur rfl (p_assign rfl) ?_
              refine L_nil ?_
              refine Q_then ?_
              exact J_again (i + 1) (by omega) (by omega) (by repeat (first | exact Sub.nil | exact Sub.refl | refine Sub.cons (by repeat (first | exact Pick.here | apply Pick.there)) ?_ | refine Sub.drop ?_)) (by repeat (first | exact Keep.nil | refine Keep.cons rfl ?_))
          ·
            have hin : n = i := by omega
            subst hin
            refine J_pick (A := epA b8 [] ((live g n).map rk)) (by repeat (first | with_reducible exact Pick.here | with_reducible assumption | with_reducible apply Pick.there)) ?_
            refine J_epTo (B := epA b8 [] ([])) (by rw [live_end (by omega)]; rfl) ?_
            refine J_exit ?_
            refine Q_then_exit ?_
            refine Q_then_exit ?_
            refine Q_blk_this ?_
            refine Q_then ?_
            refine J_seq ?_
            refine J_region ?_
            refine L_pur rfl (p_move rfl) ?_
            refine L_pur rfl (p_move rfl) ?_
            refine J_bool (t := 126) (c := true) rfl (rfl) ?_
            refine L_op (G_on rfl rfl rfl ?_)
            refine x_call Try.func32 nm32 bd32 (.cons rfl .nil) rfl (senders (by repeat (first | with_reducible exact Pick.here | with_reducible assumption | with_reducible apply Pick.there)) (by simp) (by simp)) fun v127 => ?_
            refine J_row .here fun hw127 a127 c127 hv127 hl127 hm127 hz127 => ?_
            subst hv127
            refine L_op (G_on rfl rfl rfl ?_)
            refine J_pur (p_len rfl Try.underlying47) rfl rfl rfl ?_
            refine L_op (G_on rfl rfl rfl ?_)
            refine J_pur (p_eql rfl rfl) rfl rfl rfl ?_
            refine L_pur rfl (p_pick_t rfl rfl) ?_
            refine L_pur rfl (p_move rfl) ?_
            refine J_bool (t := 131) (c := true) rfl (by simp) ?_
            refine L_op (G_on rfl rfl rfl ?_)
            refine x_call Try.func33 nm33 bd33 (.cons rfl .nil) rfl (receivers (by repeat (first | with_reducible exact Pick.here | with_reducible assumption | with_reducible apply Pick.there)) (by simp) (by simp)) fun v132 => ?_
            refine J_row .here fun hw132 a132 c132 hv132 hl132 hm132 hz132 => ?_
            subst hv132
            refine L_op (G_on rfl rfl rfl ?_)
            refine J_pur (p_len rfl Try.underlying48) rfl rfl rfl ?_
            refine L_op (G_on rfl rfl rfl ?_)
            refine J_pur (p_eql rfl rfl) rfl rfl rfl ?_
            refine J_bool (t := 134) (c := true) rfl (by simp) ?_
            refine L_pur rfl (p_pick_t rfl rfl) ?_
            refine L_pur rfl (p_assign rfl) ?_
            refine L_nil ?_
            refine Q_then ?_
            refine J_ret ?_
            exact J_return (()) Try.results13 (.tmp rfl .nil) rfl (by repeat (first | exact Sub.nil | exact Sub.refl | refine Sub.cons (by repeat (first | exact Pick.here | apply Pick.there)) ?_ | refine Sub.drop ?_))
  ·
    refine Con.body (vs := [.int .i64 z0, v, .bool true]) (n := 136) Try.func13 rfl rfl [(0, .int .i64 z0), (1, v), (2, .bool true)] (env_ok 3 rfl) ?_
    refine J_readsB (fun w H => hr.old .here H) fun hw a cap hv h1 h2 h3 => ?_
    subst hv
    have hm : cap ≤ 9223372036854775807 := h2
    have hml : (ds.map fun z => [Value.int .i64 z]).length = ds.length := List.length_map _
    obtain ⟨n, hn⟩ : ∃ n, n = num z0 16 + 1 := ⟨_, rfl⟩
    have hn2 : num z0 16 < 16 := num_lt' (b := 16) (by omega)
    have hn1 : 1 ≤ n := by omega
    have hn3 : n ≤ 16 := by omega
    refine J_seq ?_
    refine J_region ?_
    refine L_pur rfl (p_assign rfl) ?_
    refine L_nil ?_
    refine Q_then ?_
    refine J_seq ?_
    refine J_region ?_
    refine L_op (x_call Try.func29 nm29 bd29 .nil rfl (first) fun _ => ?_)
    refine L_pur rfl (p_assign rfl) ?_
    refine L_nil ?_
    refine Q_then ?_
    refine J_seq ?_
    refine J_seq ?_
    refine J_region ?_
    refine L_pur rfl (p_move rfl) ?_
    refine L_pur rfl (p_not rfl) ?_
    refine L_nil ?_
    refine Q_then ?_
    refine J_bool (t := 20) (c := false) rfl (rfl) ?_
    refine C_false rfl ?_
    refine J_skip ?_
    refine Q_then ?_
    refine J_seq ?_
    refine J_seq ?_
    refine J_region ?_
    refine L_pur rfl (p_move rfl) ?_
    refine L_pur rfl (p_len rfl Try.underlying23) ?_
    refine L_pur rfl (p_gtr rfl rfl) ?_
    refine L_nil ?_
    refine Q_then ?_
    refine C_dec rfl (fun h23 => ?_) (fun h23 => ?_)
    ·
      refine J_seq ?_
      refine J_region ?_
      refine L_pur rfl (p_move rfl) ?_
      refine L_pur rfl (p_assign rfl) ?_
      refine L_nil ?_
      refine Q_then ?_
      refine J_ret ?_
      refine Q_then_ret ?_
      exact J_return (()) Try.results13 (.tmp rfl .nil) rfl (by repeat (first | exact Sub.nil | exact Sub.refl | refine Sub.cons (by repeat (first | exact Pick.here | apply Pick.there)) ?_ | refine Sub.drop ?_))
    ·
      refine J_skip ?_
      refine Q_then ?_
      refine J_seq ?_
      refine J_region ?_
      refine L_pur rfl (p_move rfl) ?_
      refine L_op (x_call Try.func23 nm23 bd23 (.cons rfl (.cons rfl .nil)) rfl (number (by omega) (by omega)) fun _ => ?_)
      refine L_pur rfl (p_add64 rfl rfl (by omega)) ?_
      refine J_slot (t := 27) (v := .int .i64 (n : Int)) rfl (by rw [hn]; simp) ?_
      refine L_pur rfl (p_assign rfl) ?_
      refine L_nil ?_
      refine Q_then ?_
      refine J_seq ?_
      refine J_region ?_
      refine L_op (x_alloc ty50 rfl fun b8 => ?_)
      refine J_ep ?_
      refine L_nil ?_
      refine Q_then ?_
      refine J_seq ?_
      refine J_region ?_
      refine L_pur rfl (p_move rfl) ?_
      refine L_op (x_make rfl rfl Try.underlying22 ty4 rfl rfl (by omega) (by omega) rfl rfl fun v29 => ?_)
      refine J_rowEq (ys := (List.replicate n false).map encB) (by simp [encB]) ?_
      refine J_row .here fun hw29 a29 c29 hv29 hl29 hm29 hz29 => ?_
      subst hv29
      obtain ⟨bg, og, rfl⟩ := hz29 (by simp; omega)
      refine J_rowTo (v' := .slice (some ⟨bg, og, none⟩) n c29) (ys := (List.replicate n false).map encB) rfl (by simp) ?_
      refine J_slot (t := 29) (v := .slice (some ⟨bg, og, none⟩) n c29) rfl (by simp) ?_
      obtain ⟨cg, hcg⟩ : ∃ cg, cg = c29 := ⟨_, rfl⟩
      subst hcg
      refine L_pur rfl (p_assign rfl) ?_
      refine L_nil ?_
      refine Q_then ?_
      refine J_seq ?_
      refine J_seq ?_
      refine J_region ?_
      refine L_pur rfl (p_assign rfl) ?_
      refine L_nil ?_
      refine Q_then ?_
      refine J_block ?_
      refine J_loop (α := Nat) (fun i => i ≤ n) (fun i => [epA b8 ((List.range i).map mk) [], row 4 1 (.slice (some ⟨bg, og, none⟩) n cg) ((List.replicate n false).map encB), old W]) (fun i => [(10, .int .i64 (i : Int)), (0, .int .i64 (n : Int)), (1, .slice a (ds.map fun z => [Value.int .i64 z]).length cap), (2, .bool true), (7, .bool true), (8, .pointer (some ⟨b8, 0, none⟩)), (9, .slice (some ⟨bg, og, none⟩) n cg)]) (fun i => n - i) 0 (by omega) (by repeat (first | exact Sub.nil | exact Sub.refl | refine Sub.cons (by repeat (first | exact Pick.here | apply Pick.there)) ?_ | refine Sub.drop ?_)) (by repeat (first | exact Keep.nil | refine Keep.cons rfl ?_)) ?_
      intro i hi
      refine J_seq ?_
      refine J_seq ?_
      refine J_region ?_
      refine L_pur rfl (p_move rfl) ?_
      refine L_pur rfl (p_move rfl) ?_
      refine L_pur rfl (p_lss rfl rfl) ?_
      refine L_nil ?_
      refine Q_then ?_
      refine C_dec rfl (fun h32 => ?_) (fun h32 => ?_)
      ·
        refine J_skip ?_
        refine Q_then ?_
        refine J_seq ?_
        refine J_block ?_
        refine J_seq ?_
        refine J_region ?_
        refine L_pur rfl (p_move rfl) ?_
        refine L_nil ?_
        refine Q_then ?_
        refine J_bool (t := 35) (c := true) rfl (rfl) ?_
        refine C_true rfl ?_
        refine J_region ?_
        refine L_pur rfl (p_move rfl) ?_
        refine L_pur rfl (bld36 (.cons rfl (.cons rfl .nil)) (by repeat constructor)) ?_
        refine L_pur rfl (p_move rfl) ?_
        refine L_pur rfl (p_conv rfl Try.underlying3 Try.underlying37) ?_
        refine J_slot (t := 39) (v := .int .u32 (i : Int)) rfl (by rw [wrap32u_of ⟨by omega, by omega⟩]) ?_
        refine L_pur rfl (p_move rfl) ?_
        refine L_pur rfl (bld56 (.cons rfl (.cons rfl (.cons rfl .nil))) (by repeat constructor)) ?_
        refine L_op (x_call Try.func30 nm30 bd30 (.cons rfl (.cons rfl .nil)) rfl (putS (i := i) (by repeat (first | with_reducible exact Pick.here | with_reducible assumption | with_reducible apply Pick.there)) (by omega)) fun _ => ?_)
        refine L_nil ?_
        refine Q_blk_normal ?_
        refine Q_then ?_
        refine J_region ?_
        refine L_pur rfl (p_move rfl) ?_
        refine L_pur rfl (p_add64 rfl rfl (by omega)) ?_
        refine L_pur rfl (p_assign rfl) ?_
        refine L_nil ?_
        refine Q_then ?_
        exact J_again (i + 1) (by omega) (by omega) (by repeat (first | exact Sub.nil | exact Sub.refl | refine Sub.cons (by repeat (first | exact Pick.here | apply Pick.there)) ?_ | refine Sub.drop ?_)) (by repeat (first | exact Keep.nil | refine Keep.cons rfl ?_))
      ·
        have hin : n = i := by omega
        subst hin
        refine J_pick (A := epA b8 ((List.range n).map mk) []) (by repeat (first | with_reducible exact Pick.here | with_reducible assumption | with_reducible apply Pick.there)) ?_
        refine J_epTo (B := epA b8 ((live (List.replicate n false) 0).map mk) []) (by rw [live_all]) ?_
        refine J_exit ?_
        refine Q_then_exit ?_
        refine Q_then_exit ?_
        refine Q_blk_this ?_
        refine Q_then ?_
        refine J_seq ?_
        refine J_seq ?_
        refine J_region ?_
        refine L_pur rfl (p_assign rfl) ?_
        refine L_nil ?_
        refine Q_then ?_
        refine J_block ?_
        refine J_loop2 (fun i g => i ≤ ds.length ∧ g.length = n) (fun i g => [epA b8 ((live g 0).map mk) [], row 4 1 (.slice (some ⟨bg, og, none⟩) n cg) (g.map encB), old W]) (fun i g => [(11, .int .i64 (i : Int)), (0, .int .i64 (n : Int)), (1, .slice a (ds.map fun z => [Value.int .i64 z]).length cap), (2, .bool true), (7, .bool true), (8, .pointer (some ⟨b8, 0, none⟩)), (9, .slice (some ⟨bg, og, none⟩) n cg)]) (fun i g => ds.length - i) 0 (List.replicate n false) ⟨by omega, by simp⟩ (by repeat (first | exact Sub.nil | exact Sub.refl | refine Sub.cons (by repeat (first | exact Pick.here | apply Pick.there)) ?_ | refine Sub.drop ?_)) (by repeat (first | exact Keep.nil | refine Keep.cons rfl ?_)) ?_
        intro i g ⟨hi, hg⟩
        refine J_seq ?_
        refine J_seq ?_
        refine J_region ?_
        refine L_pur rfl (p_move rfl) ?_
        refine L_pur rfl (p_move rfl) ?_
        refine L_pur rfl (p_len rfl Try.underlying23) ?_
        refine L_pur rfl (p_lss rfl rfl) ?_
        refine L_nil ?_
        refine Q_then ?_
        refine C_dec rfl (fun h51 => ?_) (fun h51 => ?_)
        ·
          have hlt : i < ds.length := by omega
          obtain ⟨b, o, rfl⟩ := h3 (by intro h; rw [h] at hml; simp at hml; omega)
          obtain ⟨z, hzz⟩ : ∃ z, ds[i]? = some z := ⟨_, List.getElem?_eq_getElem hlt⟩
          refine J_skip ?_
          refine Q_then ?_
          refine J_seq ?_
          refine J_block ?_
          refine J_seq ?_
          refine J_region ?_
          refine L_pur rfl (p_move rfl) ?_
          refine L_pur rfl (p_move rfl) ?_
          refine L_pur rfl (p_indexAddr rfl rfl Try.underlying23 ty3 (by omega) (by omega)) ?_
          refine L_val rfl (v_loadR1 rfl ty3 (fun w H => hr.old (by repeat (first | with_reducible exact Has.here | with_reducible assumption | with_reducible apply Has.there)) H) (by simp only [Int.toNat_natCast, List.getElem?_map, hzz]; rfl)) ?_
          refine L_pur rfl (p_move rfl) ?_
          refine L_op (x_call Try.func23 nm23 bd23 (.cons rfl (.cons rfl .nil)) rfl (number (b := (n : Int)) (by omega) (by omega)) fun _ => ?_)
          obtain ⟨k, hk⟩ : ∃ k, k = num z n := ⟨_, rfl⟩
          have hkn : k < n := by rw [hk]; exact num_lt' (by omega)
          refine J_slot (t := 59) (v := .int .i64 (k : Int)) rfl (by rw [hk]) ?_
          obtain ⟨bk, hbk⟩ : ∃ bk, g[k]? = some bk := ⟨_, List.getElem?_eq_getElem (by omega)⟩
          refine L_pur rfl (p_assign rfl) ?_
          refine L_nil ?_
          refine Q_then ?_
          refine J_seq ?_
          refine J_seq ?_
          refine J_draw mixed ?_
          refine A_take (i := 0) rfl rfl rfl rfl (by kernel_rfl) (by kernel_rfl) (by kernel_rfl) (fun _ _ _ _ h => h) (p_move rfl) ?_
          refine A_take (i := 1) rfl rfl rfl rfl (by kernel_rfl) (by kernel_rfl) (by kernel_rfl) (fun _ _ _ _ h => h) (bld36 (.cons rfl (.cons rfl .nil)) (by repeat constructor)) ?_
          refine A_take (i := 3) rfl rfl rfl rfl (by kernel_rfl) (by kernel_rfl) (by kernel_rfl) (fun _ _ _ _ h => h) (p_move rfl) ?_
          refine A_take (i := 4) rfl rfl rfl rfl (by kernel_rfl) (by kernel_rfl) (by kernel_rfl) (fun _ _ _ _ h => h) (p_move rfl) ?_
          refine A_take (i := 5) rfl rfl rfl rfl (by kernel_rfl) (by kernel_rfl) (by kernel_rfl) (fun _ _ _ _ h => h) (p_indexAddr rfl rfl Try.underlying22 ty4 (by omega) (by omega)) ?_
          refine A_ready (rs := [2, 6]) (by kernel_rfl) (by simp) ?_
          refine (A_cons rfl ?_ (A_cons rfl ?_ A_nil))
          ·
            refine x_call Try.func58 nm58 bd58 (.cons rfl (.cons rfl .nil)) rfl (dropS (g := g) (k := k) (by repeat (first | with_reducible exact Pick.here | with_reducible assumption | with_reducible apply Pick.there)) (by omega) (by omega)) fun _ => ?_
            refine A_one (i := 6) (by kernel_rfl) rfl ?_
            refine J_val (v_loadE1 rfl ty4 (by repeat (first | with_reducible exact Has.here | with_reducible assumption | with_reducible apply Has.there)) (by simp only [Int.toNat_natCast, List.getElem?_map, hbk]; rfl)) rfl rfl rfl ?_
            refine A_take (i := 7) rfl rfl rfl rfl (by kernel_rfl) (by kernel_rfl) (by kernel_rfl) (fun _ _ _ _ h => h) (p_eqb Try.underlying4 rfl rfl) ?_
            refine A_done (by kernel_rfl) ?_
            refine Q_then ?_
            refine J_bool (t := 67) (c := false) rfl (by simp [List.getD, hbk]) ?_
            refine C_false rfl ?_
            refine J_skip ?_
            refine Q_then ?_
            refine J_region ?_
            refine L_pur rfl (p_move rfl) ?_
            refine L_pur rfl (p_move rfl) ?_
            refine L_pur rfl (p_indexAddr rfl rfl Try.underlying22 ty4 (by omega) (by omega)) ?_
            refine L_op (x_storeE (len := n) (vs := [.bool true]) rfl rfl ty4 rfl rfl rfl (by repeat (first | with_reducible exact Pick.here | with_reducible assumption | with_reducible apply Pick.there)) (by first | omega | (simp <;> omega)) ?_)
            refine J_rowEq (ys := (g.set k true).map encB) (by simp [List.map_set, encB]) ?_
            refine L_nil ?_
            refine Q_blk_normal ?_
            refine Q_then ?_
            refine J_region ?_
            refine L_pur rfl (p_move rfl) ?_
            refine L_pur rfl (p_add64 rfl rfl (by omega)) ?_
            refine L_pur rfl (p_assign rfl) ?_
            refine L_nil ?_
            refine Q_then ?_
            exact J_again2 (i + 1) (g.set k true) (by omega) (⟨by omega, by simpa using hg⟩) (by repeat (first | exact Sub.nil | exact Sub.refl | refine Sub.cons (by repeat (first | exact Pick.here | apply Pick.there)) ?_ | refine Sub.drop ?_)) (by repeat (first | exact Keep.nil | refine Keep.cons rfl ?_))
          ·
            refine J_val (v_loadE1 rfl ty4 (by repeat (first | with_reducible exact Has.here | with_reducible assumption | with_reducible apply Has.there)) (by simp only [Int.toNat_natCast, List.getElem?_map, hbk]; rfl)) rfl rfl rfl ?_
            refine A_one (i := 2) (by kernel_rfl) rfl ?_
            refine x_call Try.func58 nm58 bd58 (.cons rfl (.cons rfl .nil)) rfl (dropS (g := g) (k := k) (by repeat (first | with_reducible exact Pick.here | with_reducible assumption | with_reducible apply Pick.there)) (by omega) (by omega)) fun _ => ?_
            refine A_take (i := 7) rfl rfl rfl rfl (by kernel_rfl) (by kernel_rfl) (by kernel_rfl) (fun _ _ _ _ h => h) (p_eqb Try.underlying4 rfl rfl) ?_
            refine A_done (by kernel_rfl) ?_
            refine Q_then ?_
            refine J_bool (t := 67) (c := false) rfl (by simp [List.getD, hbk]) ?_
            refine C_false rfl ?_
            refine J_skip ?_
            refine Q_then ?_
            refine J_region ?_
            refine L_pur rfl (p_move rfl) ?_
            refine L_pur rfl (p_move rfl) ?_
            refine L_pur rfl (p_indexAddr rfl rfl Try.underlying22 ty4 (by omega) (by omega)) ?_
            refine L_op (x_storeE (len := n) (vs := [.bool true]) rfl rfl ty4 rfl rfl rfl (by repeat (first | with_reducible exact Pick.here | with_reducible assumption | with_reducible apply Pick.there)) (by first | omega | (simp <;> omega)) ?_)
            refine J_rowEq (ys := (g.set k true).map encB) (by simp [List.map_set, encB]) ?_
            refine L_nil ?_
            refine Q_blk_normal ?_
            refine Q_then ?_
            refine J_region ?_
            refine L_pur rfl (p_move rfl) ?_
            refine L_pur rfl (p_add64 rfl rfl (by omega)) ?_
            refine L_pur rfl (p_assign rfl) ?_
            refine L_nil ?_
            refine Q_then ?_
            exact J_again2 (i + 1) (g.set k true) (by omega) (⟨by omega, by simpa using hg⟩) (by repeat (first | exact Sub.nil | exact Sub.refl | refine Sub.cons (by repeat (first | exact Pick.here | apply Pick.there)) ?_ | refine Sub.drop ?_)) (by repeat (first | exact Keep.nil | refine Keep.cons rfl ?_))
        ·
          refine J_exit ?_
          refine Q_then_exit ?_
          refine Q_then_exit ?_
          refine Q_blk_this ?_
          refine Q_then ?_
          refine J_seq ?_
          refine J_seq ?_
          refine J_region ?_
          refine L_pur rfl (p_assign rfl) ?_
          refine L_nil ?_
          refine Q_then ?_
          refine J_block ?_
          refine J_loop (α := Nat) (fun i => i ≤ n) (fun i => [epA b8 ((live g i).map mk) [], row 4 1 (.slice (some ⟨bg, og, none⟩) n cg) (g.map encB), old W]) (fun i => [(13, .int .i64 (i : Int)), (0, .int .i64 (n : Int)), (1, .slice a (ds.map fun z => [Value.int .i64 z]).length cap), (2, .bool true), (7, .bool true), (8, .pointer (some ⟨b8, 0, none⟩)), (9, .slice (some ⟨bg, og, none⟩) n cg)]) (fun i => n - i) 0 (by omega) (by repeat (first | exact Sub.nil | exact Sub.refl | refine Sub.cons (by repeat (first | exact Pick.here | apply Pick.there)) ?_ | refine Sub.drop ?_)) (by repeat (first | exact Keep.nil | refine Keep.cons rfl ?_)) ?_
          intro i hi
          refine J_seq ?_
          refine J_seq ?_
          refine J_region ?_
          refine L_pur rfl (p_move rfl) ?_
          refine L_pur rfl (p_move rfl) ?_
          refine L_pur rfl (p_lss rfl rfl) ?_
          refine L_nil ?_
          refine Q_then ?_
          refine C_dec rfl (fun h73 => ?_) (fun h73 => ?_)
          ·
            have hlt : i < n := by omega
            obtain ⟨bk, hbk⟩ : ∃ bk, g[i]? = some bk := ⟨_, List.getElem?_eq_getElem (by omega)⟩
            refine J_skip ?_
            refine Q_then ?_
            refine J_seq ?_
            refine J_block ?_
            refine J_seq ?_
            refine J_seq ?_
            refine J_region ?_
            refine L_pur rfl (p_move rfl) ?_
            refine L_pur rfl (p_move rfl) ?_
            refine L_pur rfl (p_indexAddr rfl rfl Try.underlying22 ty4 (by omega) (by omega)) ?_
            refine L_val rfl (v_loadE1 rfl ty4 (by repeat (first | with_reducible exact Has.here | with_reducible assumption | with_reducible apply Has.there)) (by simp only [Int.toNat_natCast, List.getElem?_map, hbk]; rfl)) ?_
            refine L_nil ?_
            refine Q_then ?_
            refine C_split rfl (fun h79 => ?_) (fun h79 => ?_)
            ·
              rw [h79] at hbk
              refine J_pick (A := epA b8 ((live g i).map mk) []) (by repeat (first | with_reducible exact Pick.here | with_reducible assumption | with_reducible apply Pick.there)) ?_
              refine J_epTo (by rw [live_skip hbk]) ?_
              refine J_exit ?_
              refine Q_then_exit ?_
              refine Q_blk_this ?_
              refine Q_then ?_
              refine J_region ?_
              refine L_pur rfl (p_move rfl) ?_
              refine L_pur rfl (p_add64 rfl rfl (by omega)) ?_
              refine L_pur rfl (p_assign rfl) ?_
              refine L_nil ?_
              refine Q_then ?_
              exact J_again (i + 1) (by omega) (by omega) (by repeat (first | exact Sub.nil | exact Sub.refl | refine Sub.cons (by repeat (first | exact Pick.here | apply Pick.there)) ?_ | refine Sub.drop ?_)) (by repeat (first | exact Keep.nil | refine Keep.cons rfl ?_))
            ·
              rw [h79] at hbk
              refine J_skip ?_
              refine Q_then ?_
              refine J_seq ?_
              refine J_region ?_
              refine L_pur rfl (p_move rfl) ?_
              refine L_nil ?_
              refine Q_then ?_
              refine J_bool (t := 80) (c := true) rfl (rfl) ?_
              refine C_true rfl ?_
              refine J_seq ?_
              refine J_region ?_
              refine L_pur rfl (p_move rfl) ?_
              refine L_pur rfl (bld36 (.cons rfl (.cons rfl .nil)) (by repeat constructor)) ?_
              refine L_pur rfl (bld52 (.cons rfl .nil) (by repeat constructor)) ?_
              refine L_op (x_call Try.func31 nm31 bd31 (.cons rfl (.cons rfl .nil)) rfl (takeS (g := g) (i := i) (by repeat (first | with_reducible exact Pick.here | with_reducible assumption | with_reducible apply Pick.there)) hbk (by omega)) fun _ => ?_)
              refine L_pur rfl (p_move rfl) ?_
              refine L_pur rfl (p_extract rfl rfl) ?_
              refine L_pur rfl (p_extract rfl rfl) ?_
              refine L_op (x_alloc ty56 rfl fun b14 => ?_)
              refine L_op (x_store rfl rfl ty56 rfl (by first | rfl | (simp [*]; done)) (by first | rfl | (simp [*]; done)) (by repeat (first | with_reducible exact Rep1.here | with_reducible apply Rep1.there)) (by first | exact Put.full rfl | ((repeat constructor); done) | exact Put.full (by first | rfl | simp [*])) ?_)
              refine L_pur rfl (p_assign rfl) ?_
              refine L_nil ?_
              refine Q_then ?_
              refine J_seq ?_
              refine J_region ?_
              refine L_pur rfl (p_move rfl) ?_
              refine L_pur rfl (p_not rfl) ?_
              refine L_pur rfl (p_move rfl) ?_
              refine J_bool (t := 90) (c := false) rfl (rfl) ?_
              refine L_op (G_on rfl rfl rfl ?_)
              refine J_pur (p_fieldAddr rfl fa56_0) rfl rfl rfl ?_
              refine L_op (G_on rfl rfl rfl ?_)
              refine J_val (v_loadA rfl ty36 (by repeat (first | with_reducible exact Has.here | with_reducible assumption | with_reducible apply Has.there)) (by first | exact Cut.full rfl | ((repeat constructor); done) | exact Cut.full (by first | rfl | simp [*]))) rfl rfl rfl ?_
              refine L_op (G_on rfl rfl rfl ?_)
              refine J_pur (p_move rfl) rfl rfl rfl ?_
              refine L_op (G_on rfl rfl rfl ?_)
              refine J_pur (bld36 (.cons rfl (.cons rfl .nil)) (by repeat constructor)) rfl rfl rfl ?_
              refine L_op (G_on rfl rfl rfl ?_)
              refine J_pur (p_nev rfl rfl (fun w => eg36 _ _ _ _ _ w) (fun w => nev36 _ _ _ _ w)) rfl rfl rfl ?_
              refine L_pur rfl (p_pick_f rfl rfl) ?_
              refine L_pur rfl (p_move rfl) ?_
              refine J_bool (t := 97) (c := false) rfl (by simp [mk]) ?_
              refine L_op (G_on rfl rfl rfl ?_)
              refine J_pur (p_fieldAddr rfl fa56_2) rfl rfl rfl ?_
              refine L_op (G_on rfl rfl rfl ?_)
              refine J_val (v_load rfl ty3 (by repeat (first | with_reducible exact Has.here | with_reducible assumption | with_reducible apply Has.there)) (by exact rfl)) rfl rfl rfl ?_
              refine L_op (G_on rfl rfl rfl ?_)
              refine J_pur (p_move rfl) rfl rfl rfl ?_
              refine L_op (G_on rfl rfl rfl ?_)
              refine J_pur (p_neq rfl rfl) rfl rfl rfl ?_
              refine L_pur rfl (p_pick_f rfl rfl) ?_
              refine L_nil ?_
              refine Q_then ?_
              refine J_bool (t := 102) (c := false) rfl (by simp [mk]) ?_
              refine C_false rfl ?_
              refine J_skip ?_
              refine Q_blk_normal ?_
              refine Q_then ?_
              refine J_region ?_
              refine L_pur rfl (p_move rfl) ?_
              refine L_pur rfl (p_add64 rfl rfl (by omega)) ?_
              refine L_pur rfl (p_assign rfl) ?_
              refine L_nil ?_
              refine Q_then ?_
              exact J_again (i + 1) (by omega) (by omega) (by repeat (first | exact Sub.nil | exact Sub.refl | refine Sub.cons (by repeat (first | exact Pick.here | apply Pick.there)) ?_ | refine Sub.drop ?_)) (by repeat (first | exact Keep.nil | refine Keep.cons rfl ?_))
          ·
            have hin : n = i := by omega
            subst hin
            refine J_pick (A := epA b8 ((live g n).map mk) []) (by repeat (first | with_reducible exact Pick.here | with_reducible assumption | with_reducible apply Pick.there)) ?_
            refine J_epTo (B := epA b8 ([]) []) (by rw [live_end (by omega)]; rfl) ?_
            refine J_exit ?_
            refine Q_then_exit ?_
            refine Q_then_exit ?_
            refine Q_blk_this ?_
            refine Q_then ?_
            refine J_seq ?_
            refine J_region ?_
            refine L_pur rfl (p_move rfl) ?_
            refine L_pur rfl (p_move rfl) ?_
            refine J_bool (t := 126) (c := true) rfl (rfl) ?_
            refine L_op (G_on rfl rfl rfl ?_)
            refine x_call Try.func32 nm32 bd32 (.cons rfl .nil) rfl (senders (by repeat (first | with_reducible exact Pick.here | with_reducible assumption | with_reducible apply Pick.there)) (by simp) (by simp)) fun v127 => ?_
            refine J_row .here fun hw127 a127 c127 hv127 hl127 hm127 hz127 => ?_
            subst hv127
            refine L_op (G_on rfl rfl rfl ?_)
            refine J_pur (p_len rfl Try.underlying47) rfl rfl rfl ?_
            refine L_op (G_on rfl rfl rfl ?_)
            refine J_pur (p_eql rfl rfl) rfl rfl rfl ?_
            refine L_pur rfl (p_pick_t rfl rfl) ?_
            refine L_pur rfl (p_move rfl) ?_
            refine J_bool (t := 131) (c := true) rfl (by simp) ?_
            refine L_op (G_on rfl rfl rfl ?_)
            refine x_call Try.func33 nm33 bd33 (.cons rfl .nil) rfl (receivers (by repeat (first | with_reducible exact Pick.here | with_reducible assumption | with_reducible apply Pick.there)) (by simp) (by simp)) fun v132 => ?_
            refine J_row .here fun hw132 a132 c132 hv132 hl132 hm132 hz132 => ?_
            subst hv132
            refine L_op (G_on rfl rfl rfl ?_)
            refine J_pur (p_len rfl Try.underlying48) rfl rfl rfl ?_
            refine L_op (G_on rfl rfl rfl ?_)
            refine J_pur (p_eql rfl rfl) rfl rfl rfl ?_
            refine J_bool (t := 134) (c := true) rfl (by simp) ?_
            refine L_pur rfl (p_pick_t rfl rfl) ?_
            refine L_pur rfl (p_assign rfl) ?_
            refine L_nil ?_
            refine Q_then ?_
            refine J_ret ?_
            exact J_return (()) Try.results13 (.tmp rfl .nil) rfl (by repeat (first | exact Sub.nil | exact Sub.refl | refine Sub.cons (by repeat (first | exact Pick.here | apply Pick.there)) ?_ | refine Sub.drop ?_))

end Go.Pse
