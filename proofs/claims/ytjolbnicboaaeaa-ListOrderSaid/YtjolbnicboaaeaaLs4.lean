/-
  The law on the order.
-/
import Derived.Test.YtjolbnicboaaeaaLs3
import Derived.Test.YtjolbnicboaaeaaInv
namespace Go.Pse
open Go.RowKit Go.Proofs

/-! ### plain: identifiers told by numbers; who is left -/
section
variable {f : Nat → ID} (hf : ∀ k, (f k).2 = (k : Int))
include hf
theorem f_in {k : Nat} {l : List Nat} : f k ∈ l.map f ↔ k ∈ l := by
  rw [List.mem_map]
  constructor
  · rintro ⟨j, hj, e⟩
    have : j = k := by have := congrArg Prod.snd e; rw [hf, hf] at this; omega
    exact this ▸ hj
  · exact fun h => ⟨k, h, rfl⟩
theorem push_f {i : Nat} : lpush ((List.range i).map f) (f i) = (List.range (i + 1)).map f := by
  unfold lpush
  rw [if_neg (by rw [f_in hf]; simp), List.range_succ, List.map_append]; rfl
theorem drop_f {l : List Nat} {k : Nat} : ldrop (l.map f) (f k) = (l.filter fun j => !decide (j = k)).map f := by
  unfold ldrop
  rw [List.filter_map]
  congr 1
  apply List.filter_congr
  intro j _
  have : f j = f k ↔ j = k := ⟨fun e => by have := congrArg Prod.snd e; rw [hf, hf] at this; omega, fun e => by rw [e]⟩
  simp [isI_eq, this]
end
def lv (g : List Bool) (i : Nat) : List Nat := (List.range' i (g.length - i)).filter fun k => !(g.getD k false)
theorem lv_cons {g : List Bool} {i : Nat} (h : g[i]? = some false) : lv g i = i :: lv g (i + 1) := by
  have h1 := (List.getElem?_eq_some_iff.1 h).1
  unfold lv
  rw [show g.length - i = (g.length - (i + 1)) + 1 by omega, List.range'_succ, List.filter_cons]
  simp [List.getD, h]
theorem lv_skip {g : List Bool} {i : Nat} (h : g[i]? = some true) : lv g i = lv g (i + 1) := by
  have h1 := (List.getElem?_eq_some_iff.1 h).1
  unfold lv
  rw [show g.length - i = (g.length - (i + 1)) + 1 by omega, List.range'_succ, List.filter_cons]
  simp [List.getD, h]
theorem lv_end {g : List Bool} {i : Nat} (h : g.length ≤ i) : lv g i = [] := by
  unfold lv
  rw [show g.length - i = 0 by omega]; rfl
theorem lv_len (g : List Bool) (i : Nat) : (lv g i).length ≤ g.length := by
  unfold lv
  exact Nat.le_trans (List.length_filter_le _ _) (by simp)
theorem lv_all (n : Nat) : lv (List.replicate n false) 0 = List.range n := by
  unfold lv
  rw [List.filter_eq_self.2]
  · simp [List.range_eq_range']
  · intro k _
    simp only [List.getD, List.getElem?_replicate]
    split <;> rfl
theorem lv_set (g : List Bool) (k : Nat) : lv (g.set k true) 0 = (lv g 0).filter fun j => !decide (j = k) := by
  unfold lv
  rw [List.length_set, List.filter_filter]
  apply List.filter_congr
  intro j hj
  have hj' : j < g.length := by simpa using hj
  simp only [List.getD, List.getElem?_set]
  by_cases h : k = j
  · subst h; simp [hj']
  · have : ¬ j = k := fun e => h e.symm
    simp [h, this]
theorem lv_mem {g : List Bool} {k : Nat} : k ∈ lv g 0 ↔ k < g.length ∧ g.getD k false = false := by
  unfold lv
  simp [List.mem_filter]

def mkL (k : Nat) : ID := (((k % 3 : Nat) : Int), (k : Int))
theorem mkL2 (k : Nat) : (mkL k).2 = (k : Int) := rfl
theorem popAt {E : World} {l m : List As} {b i : Nat} {g : List Bool} (hp : Pick (lsA b 0 ((lv g i).map mkL)) l m) (hi : g[i]? = some false) (hg : g.length ≤ 1000) :
    Con Try.prog 48 #[.pointer (some ⟨b, 0, none⟩)] E l (fun _ : Unit => .tuple #[.agg (encI (mkL i)).toArray, .bool true]) (fun _ => lsA b 0 ((lv g (i + 1)).map mkL) :: m) := by
  have hl := lv_len g i
  have h := lPop (E := E) hp (by simp; omega)
  rw [lv_cons hi] at h
  exact h
theorem dropAt {E : World} {l m : List As} {b k : Nat} {g : List Bool} {c : Bool} (hp : Pick (lsA b 0 ((lv g 0).map mkL)) l m) (hc : g[k]? = some c) (hg : g.length ≤ 1000) :
    Con Try.prog 47 #[.pointer (some ⟨b, 0, none⟩), .agg (encI (mkL k)).toArray] E l (fun _ : Unit => .bool (!c)) (fun _ => lsA b 0 ((lv (g.set k true) 0).map mkL) :: m) := by
  have hl := lv_len g 0
  have h := lDrop (E := E) (i := mkL k) hp (by simp; omega)
  have hk := (List.getElem?_eq_some_iff.1 hc).1
  have e : decide (mkL k ∈ (lv g 0).map mkL) = !c := by
    have h1 := @f_in mkL mkL2 k (lv g 0)
    rw [lv_mem] at h1
    have h2 : g.getD k false = c := by simp [List.getD, hc]
    rw [Bool.eq_iff_iff, decide_eq_true_eq, h1, h2]
    simp [hk]
  rw [e, drop_f mkL2, ← lv_set] at h
  exact h

set_option maxRecDepth 100000 in
set_option maxHeartbeats 4000000 in
theorem listOrder {E W : World} {v : Value} {zs : List Int} (hr : Reads W 1 v (zs.map fun z => [Value.int .i64 z])) (z0 : Int) :
    Con Try.prog 9 #[.int .i64 z0, v] E [old W] (fun _ : Unit => .bool true) (fun _ => [old W]) := by
  refine Con.body (vs := [.int .i64 z0, v]) (n := 93) Try.func9 rfl rfl [(0, .int .i64 z0), (1, v)] (env_ok 2 rfl) ?_
  refine J_readsB (fun w H => hr.old (by repeat (first | with_reducible exact Has.here | with_reducible assumption | with_reducible apply Has.there)) H) fun hw a cap hv h1 h2 h3 => ?_
  subst hv
  have hm : cap ≤ 9223372036854775807 := h2
  have hml : (zs.map fun z => [Value.int .i64 z]).length = zs.length := List.length_map _
  obtain ⟨N, hN⟩ : ∃ N, N = num z0 40 := ⟨_, rfl⟩
  have hn2 : num z0 40 < 40 := num_lt' (b := 40) (by omega)
  refine J_seq ?_
  refine J_region ?_
  refine L_pur rfl (p_assign rfl) ?_
  refine L_nil ?_
  refine Q_then ?_
  refine J_seq ?_
  refine J_region ?_
  refine L_op (x_call Try.func45 nm45 bd45 .nil rfl (first12) fun _ => ?_)
  refine L_pur rfl (p_assign rfl) ?_
  refine L_nil ?_
  refine Q_then ?_
  refine J_seq ?_
  refine J_seq ?_
  refine J_region ?_
  refine L_pur rfl (p_move rfl) ?_
  refine L_pur rfl (p_not rfl) ?_
  refine L_nil ?_
  refine Q_then ?_
  refine J_bool (t := 16) (c := false) rfl (rfl) ?_
  refine C_false rfl ?_
  refine J_skip ?_
  refine Q_then ?_
  refine J_seq ?_
  refine J_seq ?_
  refine J_region ?_
  refine L_pur rfl (p_move rfl) ?_
  refine L_pur rfl (p_len rfl Try.underlying23) ?_
  refine L_pur rfl (p_gtr rfl rfl) ?_
  refine L_nil ?_
  refine Q_then ?_
  refine C_dec rfl (fun h19 => ?_) (fun h19 => ?_)
  ·
    refine J_seq ?_
    refine J_region ?_
    refine L_pur rfl (p_move rfl) ?_
    refine L_pur rfl (p_assign rfl) ?_
    refine L_nil ?_
    refine Q_then ?_
    refine J_ret ?_
    refine Q_then_ret ?_
    exact J_return (()) Try.results9 (.tmp rfl .nil) rfl (by repeat (first | exact Sub.nil | exact Sub.refl | refine Sub.cons (by repeat (first | exact Pick.here | apply Pick.there)) ?_ | refine Sub.drop ?_))
  ·
    refine J_skip ?_
    refine Q_then ?_
    refine J_seq ?_
    refine J_region ?_
    refine L_pur rfl (p_move rfl) ?_
    refine L_op (x_call Try.func23 nm23 bd23 (.cons rfl (.cons rfl .nil)) rfl (number (by omega) (by omega)) fun _ => ?_)
    refine J_slot (t := 22) (v := .int .i64 (N : Int)) rfl (by rw [hN]) ?_
    refine L_pur rfl (p_assign rfl) ?_
    refine L_nil ?_
    refine Q_then ?_
    refine J_seq ?_
    refine J_region ?_
    refine L_op (x_alloc ty83 rfl fun b6 => ?_)
    refine J_lsNew ?_
    refine L_nil ?_
    refine Q_then ?_
    refine J_seq ?_
    refine J_seq ?_
    refine J_region ?_
    refine L_pur rfl (p_assign rfl) ?_
    refine L_nil ?_
    refine Q_then ?_
    refine J_block ?_
    refine J_loop (α := Nat) (fun i => i ≤ N) (fun i => [lsA b6 0 ((List.range i).map mkL), old W]) (fun i => [(7, .int .i64 (i : Int)), (0, .int .i64 (N : Int)), (1, .slice a (zs.map fun z => [Value.int .i64 z]).length cap), (5, .bool true), (6, .pointer (some ⟨b6, 0, none⟩))]) (fun i => N - i) 0 (by omega) (by repeat (first | exact Sub.nil | exact Sub.refl | refine Sub.cons (by repeat (first | exact Pick.here | apply Pick.there)) ?_ | refine Sub.drop ?_)) (by repeat (first | exact Keep.nil | refine Keep.cons rfl ?_)) ?_
    intro i hi
    refine J_seq ?_
    refine J_seq ?_
    refine J_region ?_
    refine L_pur rfl (p_move rfl) ?_
    refine L_pur rfl (p_move rfl) ?_
    refine L_pur rfl (p_lss rfl rfl) ?_
    refine L_nil ?_
    refine Q_then ?_
    refine C_dec rfl (fun h25 => ?_) (fun h25 => ?_)
    ·
      refine J_skip ?_
      refine Q_then ?_
      refine J_seq ?_
      refine J_block ?_
      refine J_seq ?_
      refine J_region ?_
      refine L_pur rfl (p_move rfl) ?_
      refine L_pur rfl (p_rem rfl rfl (by decide)) ?_
      refine J_slot (t := 29) (v := .int .i64 ((i % 3 : Nat) : Int)) rfl (by rfl) ?_
      refine L_pur rfl (p_move rfl) ?_
      refine L_pur rfl (bld36 (.cons rfl (.cons rfl .nil)) (by repeat constructor)) ?_
      refine L_op (x_call Try.func46 nm46 bd46 (.cons rfl (.cons rfl .nil)) rfl (lPush (xs := (List.range i).map mkL) (i := mkL i) (by repeat (first | with_reducible exact Pick.here | with_reducible assumption | with_reducible apply Pick.there)) (by simp; omega)) fun _ => ?_)
      refine J_pick (A := lsA b6 0 _) (by repeat (first | with_reducible exact Pick.here | with_reducible assumption | with_reducible apply Pick.there)) ?_
      refine J_asTo (B := lsA b6 0 ((List.range (i + 1)).map mkL)) (by rw [push_f mkL2]) ?_
      refine L_pur rfl (p_not rfl) ?_
      refine L_nil ?_
      refine Q_then ?_
      refine J_bool (t := 33) (c := false) rfl (by have := @f_in mkL mkL2 i (List.range i); simp [this]) ?_
      refine C_false rfl ?_
      refine J_skip ?_
      refine Q_blk_normal ?_
      refine Q_then ?_
      refine J_region ?_
      refine L_pur rfl (p_move rfl) ?_
      refine L_pur rfl (p_add64 rfl rfl (by omega)) ?_
      refine L_pur rfl (p_assign rfl) ?_
      refine L_nil ?_
      refine Q_then ?_
      exact J_again (i + 1) (by omega) (by omega) (by repeat (first | exact Sub.nil | exact Sub.refl | refine Sub.cons (by repeat (first | exact Pick.here | apply Pick.there)) ?_ | refine Sub.drop ?_)) (by repeat (first | exact Keep.nil | refine Keep.cons rfl ?_))
    ·
      have hin : i = N := by omega
      refine J_pick (A := lsA b6 0 _) (by repeat (first | with_reducible exact Pick.here | with_reducible assumption | with_reducible apply Pick.there)) ?_
      refine J_asTo (B := lsA b6 0 ((lv (List.replicate N false) 0).map mkL)) (by rw [lv_all, hin]) ?_
      refine J_exit ?_
      refine Q_then_exit ?_
      refine Q_then_exit ?_
      refine Q_blk_this ?_
      refine Q_then ?_
      refine J_seq ?_
      refine J_region ?_
      refine L_pur rfl (p_move rfl) ?_
      refine L_op (x_make rfl rfl Try.underlying22 ty4 rfl rfl (by omega) (by omega) rfl rfl fun v35 => ?_)
      refine J_rowEq (ys := (List.replicate N false).map encB) (by simp [encB]) ?_
      refine J_row .here fun hw35 a35 c35 hv35 hl35 hm35 hz35 => ?_
      subst hv35
      refine J_rowTo (v' := .slice a35 N c35) (ys := (List.replicate N false).map encB) rfl (by simp) ?_
      refine J_slot (t := 35) (v := .slice a35 N c35) rfl (by simp) ?_
      refine L_pur rfl (p_assign rfl) ?_
      refine L_nil ?_
      refine Q_then ?_
      refine J_seq ?_
      refine J_seq ?_
      refine J_region ?_
      refine L_pur rfl (p_assign rfl) ?_
      refine L_nil ?_
      refine Q_then ?_
      refine J_block ?_
      refine J_loop2 (fun i g => i ≤ zs.length ∧ g.length = N) (fun i g => [lsA b6 0 ((lv g 0).map mkL), row 4 1 (.slice a35 N c35) (g.map encB), old W]) (fun i g => [(9, .int .i64 (i : Int)), (8, .slice a35 N c35), (0, .int .i64 (N : Int)), (1, .slice a (zs.map fun z => [Value.int .i64 z]).length cap), (5, .bool true), (6, .pointer (some ⟨b6, 0, none⟩))]) (fun i g => zs.length - i) 0 (List.replicate N false) ⟨by omega, by simp⟩ (by repeat (first | exact Sub.nil | exact Sub.refl | refine Sub.cons (by repeat (first | exact Pick.here | apply Pick.there)) ?_ | refine Sub.drop ?_)) (by repeat (first | exact Keep.nil | refine Keep.cons rfl ?_)) ?_
      intro i g ⟨hi, hg⟩
      refine J_seq ?_
      refine J_seq ?_
      refine J_region ?_
      refine L_pur rfl (p_move rfl) ?_
      refine L_pur rfl (p_move rfl) ?_
      refine L_pur rfl (p_len rfl Try.underlying23) ?_
      refine L_pur rfl (p_lss rfl rfl) ?_
      refine L_pur rfl (p_move rfl) ?_
      refine J_gsplit (t := 40) rfl (fun h40 => ?_) (fun h40 => ?_)
      ·
        have hlt : i < zs.length := by simp at h40; omega
        refine L_op (G_on rfl rfl rfl ?_)
        refine J_pur (p_move rfl) rfl rfl rfl ?_
        refine L_op (G_on rfl rfl rfl ?_)
        refine J_pur (p_gtr rfl rfl) rfl rfl rfl ?_
        refine L_pur rfl (p_pick_t rfl rfl) ?_
        refine L_nil ?_
        refine Q_then ?_
        refine C_dec rfl (fun h43 => ?_) (fun h43 => ?_)
        ·
          obtain ⟨bx, ox, rfl⟩ := h3 (by intro h; rw [h] at hml; simp at hml; omega)
          obtain ⟨c, hcc⟩ : ∃ c, zs[i]? = some c := ⟨_, List.getElem?_eq_getElem hlt⟩
          obtain ⟨bg, og, rfl⟩ := hz35 (by simp; omega)
          refine J_skip ?_
          refine Q_then ?_
          refine J_seq ?_
          refine J_block ?_
          refine J_seq ?_
          refine J_region ?_
          refine L_pur rfl (p_move rfl) ?_
          refine L_pur rfl (p_move rfl) ?_
          refine L_pur rfl (p_indexAddr rfl rfl Try.underlying23 ty3 (by omega) (by omega)) ?_
          refine L_val rfl (by first | exact v_loadE1 rfl ty3 (by repeat (first | with_reducible exact Has.here | with_reducible assumption | with_reducible apply Has.there)) (by first | (simp only [Int.toNat_natCast, List.getElem?_map, hcc]; rfl) | (simp only [Int.toNat_natCast, List.getElem?_map, hcd]; rfl) | simp | rfl) | exact v_loadR1 rfl ty3 (fun w H => hr.old (by repeat (first | with_reducible exact Has.here | with_reducible assumption | with_reducible apply Has.there)) H) (by first | (simp only [Int.toNat_natCast, List.getElem?_map, hcc]; rfl) | (simp only [Int.toNat_natCast, List.getElem?_map, hcd]; rfl) | simp | rfl)) ?_
          refine L_pur rfl (p_move rfl) ?_
          refine L_op (x_call Try.func23 nm23 bd23 (.cons rfl (.cons rfl .nil)) rfl (number (b := (N : Int)) (by omega) (by omega)) fun _ => ?_)
          obtain ⟨k, hk⟩ : ∃ k, k = num c N := ⟨_, rfl⟩
          have hkn : k < N := by rw [hk]; exact num_lt' (by omega)
          refine J_slot (t := 51) (v := .int .i64 (k : Int)) rfl (by rw [hk]) ?_
          obtain ⟨d, hcd⟩ : ∃ d, g[k]? = some d := ⟨_, List.getElem?_eq_getElem (by omega)⟩
          refine L_pur rfl (p_assign rfl) ?_
          refine L_nil ?_
          refine Q_then ?_
          refine J_seq ?_
          refine J_seq ?_
          refine J_draw mixed ?_
          refine A_take (i := 0) rfl rfl rfl rfl (by kernel_rfl) (by kernel_rfl) (by kernel_rfl) (fun _ _ _ _ h => h) (p_move rfl) ?_
          refine A_take (i := 1) rfl rfl rfl rfl (by kernel_rfl) (by kernel_rfl) (by kernel_rfl) (fun _ _ _ _ h => h) (p_rem rfl rfl (by decide)) ?_
          refine J_slot (t := 53) (v := .int .i64 ((k % 3 : Nat) : Int)) rfl (by rfl) ?_
          refine A_take (i := 2) rfl rfl rfl rfl (by kernel_rfl) (by kernel_rfl) (by kernel_rfl) (fun _ _ _ _ h => h) (p_move rfl) ?_
          refine A_take (i := 3) rfl rfl rfl rfl (by kernel_rfl) (by kernel_rfl) (by kernel_rfl) (fun _ _ _ _ h => h) (bld36 (.cons rfl (.cons rfl .nil)) (by repeat constructor)) ?_
          refine A_take (i := 5) rfl rfl rfl rfl (by kernel_rfl) (by kernel_rfl) (by kernel_rfl) (fun _ _ _ _ h => h) (p_move rfl) ?_
          refine A_take (i := 6) rfl rfl rfl rfl (by kernel_rfl) (by kernel_rfl) (by kernel_rfl) (fun _ _ _ _ h => h) (p_move rfl) ?_
          refine A_take (i := 7) rfl rfl rfl rfl (by kernel_rfl) (by kernel_rfl) (by kernel_rfl) (fun _ _ _ _ h => h) (p_indexAddr rfl rfl Try.underlying22 ty4 (by omega) (by omega)) ?_
          refine A_ready (rs := [4, 8]) (by kernel_rfl) (by simp) ?_
          refine (A_cons rfl ?_ (A_cons rfl ?_ A_nil))
          ·
            refine x_call Try.func47 nm47 bd47 (.cons rfl (.cons rfl .nil)) rfl (dropAt (g := g) (k := k) (by repeat (first | with_reducible exact Pick.here | with_reducible assumption | with_reducible apply Pick.there)) hcd (by omega)) fun _ => ?_
            refine A_one (i := 8) (by kernel_rfl) rfl ?_
            refine J_val (v_loadE1 rfl ty4 (by repeat (first | with_reducible exact Has.here | with_reducible assumption | with_reducible apply Has.there)) (by first | (simp only [Int.toNat_natCast, List.getElem?_map, hcc]; rfl) | (simp only [Int.toNat_natCast, List.getElem?_map, hcd]; rfl) | simp | rfl)) rfl rfl rfl ?_
            refine A_take (i := 9) rfl rfl rfl rfl (by kernel_rfl) (by kernel_rfl) (by kernel_rfl) (fun _ _ _ _ h => h) (p_eqb Try.underlying4 rfl rfl) ?_
            refine A_done (by kernel_rfl) ?_
            refine Q_then ?_
            refine J_bool (t := 61) (c := false) rfl (by simp) ?_
            refine C_false rfl ?_
            refine J_skip ?_
            refine Q_then ?_
            refine J_region ?_
            refine L_pur rfl (p_move rfl) ?_
            refine L_pur rfl (p_move rfl) ?_
            refine L_pur rfl (p_indexAddr rfl rfl Try.underlying22 ty4 (by omega) (by omega)) ?_
            refine L_op (x_storeE (len := N) (vs := [.bool true]) rfl rfl ty4 rfl rfl rfl (by repeat (first | with_reducible exact Pick.here | with_reducible assumption | with_reducible apply Pick.there)) (by first | omega | (simp <;> omega)) ?_)
            refine J_rowEq (ys := (g.set k true).map encB) (by simp [List.map_set, encB]) ?_
            refine L_nil ?_
            refine Q_blk_normal ?_
            refine Q_then ?_
            refine J_region ?_
            refine L_pur rfl (p_move rfl) ?_
            refine L_pur rfl (p_add64 rfl rfl (by omega)) ?_
            refine L_pur rfl (p_assign rfl) ?_
            refine L_nil ?_
            refine Q_then ?_
            exact J_again2 (i + 1) (g.set k true) (by omega) (⟨by omega, by simpa using hg⟩) (by repeat (first | exact Sub.nil | exact Sub.refl | refine Sub.cons (by repeat (first | exact Pick.here | apply Pick.there)) ?_ | refine Sub.drop ?_)) (by repeat (first | exact Keep.nil | refine Keep.cons rfl ?_))
          ·
            refine J_val (v_loadE1 rfl ty4 (by repeat (first | with_reducible exact Has.here | with_reducible assumption | with_reducible apply Has.there)) (by first | (simp only [Int.toNat_natCast, List.getElem?_map, hcc]; rfl) | (simp only [Int.toNat_natCast, List.getElem?_map, hcd]; rfl) | simp | rfl)) rfl rfl rfl ?_
            refine A_one (i := 4) (by kernel_rfl) rfl ?_
            refine x_call Try.func47 nm47 bd47 (.cons rfl (.cons rfl .nil)) rfl (dropAt (g := g) (k := k) (by repeat (first | with_reducible exact Pick.here | with_reducible assumption | with_reducible apply Pick.there)) hcd (by omega)) fun _ => ?_
            refine A_take (i := 9) rfl rfl rfl rfl (by kernel_rfl) (by kernel_rfl) (by kernel_rfl) (fun _ _ _ _ h => h) (p_eqb Try.underlying4 rfl rfl) ?_
            refine A_done (by kernel_rfl) ?_
            refine Q_then ?_
            refine J_bool (t := 61) (c := false) rfl (by simp) ?_
            refine C_false rfl ?_
            refine J_skip ?_
            refine Q_then ?_
            refine J_region ?_
            refine L_pur rfl (p_move rfl) ?_
            refine L_pur rfl (p_move rfl) ?_
            refine L_pur rfl (p_indexAddr rfl rfl Try.underlying22 ty4 (by omega) (by omega)) ?_
            refine L_op (x_storeE (len := N) (vs := [.bool true]) rfl rfl ty4 rfl rfl rfl (by repeat (first | with_reducible exact Pick.here | with_reducible assumption | with_reducible apply Pick.there)) (by first | omega | (simp <;> omega)) ?_)
            refine J_rowEq (ys := (g.set k true).map encB) (by simp [List.map_set, encB]) ?_
            refine L_nil ?_
            refine Q_blk_normal ?_
            refine Q_then ?_
            refine J_region ?_
            refine L_pur rfl (p_move rfl) ?_
            refine L_pur rfl (p_add64 rfl rfl (by omega)) ?_
            refine L_pur rfl (p_assign rfl) ?_
            refine L_nil ?_
            refine Q_then ?_
            exact J_again2 (i + 1) (g.set k true) (by omega) (⟨by omega, by simpa using hg⟩) (by repeat (first | exact Sub.nil | exact Sub.refl | refine Sub.cons (by repeat (first | exact Pick.here | apply Pick.there)) ?_ | refine Sub.drop ?_)) (by repeat (first | exact Keep.nil | refine Keep.cons rfl ?_))
        ·
          refine J_exit ?_
          refine Q_then_exit ?_
          refine Q_then_exit ?_
          refine Q_blk_this ?_
          refine Q_then ?_
          refine J_seq ?_
          refine J_seq ?_
          refine J_region ?_
          refine L_pur rfl (p_assign rfl) ?_
          refine L_nil ?_
          refine Q_then ?_
          refine J_block ?_
          refine J_loop (α := Nat) (fun j => j ≤ N) (fun j => [lsA b6 0 ((lv g j).map mkL), row 4 1 (.slice a35 N c35) (g.map encB), old W]) (fun j => [(11, .int .i64 (j : Int)), (8, .slice a35 N c35), (0, .int .i64 (N : Int)), (1, .slice a (zs.map fun z => [Value.int .i64 z]).length cap), (5, .bool true), (6, .pointer (some ⟨b6, 0, none⟩))]) (fun j => N - j) 0 (by omega) (by repeat (first | exact Sub.nil | exact Sub.refl | refine Sub.cons (by repeat (first | exact Pick.here | apply Pick.there)) ?_ | refine Sub.drop ?_)) (by repeat (first | exact Keep.nil | refine Keep.cons rfl ?_)) ?_
          intro i hi2
          refine J_seq ?_
          refine J_seq ?_
          refine J_region ?_
          refine L_pur rfl (p_move rfl) ?_
          refine L_pur rfl (p_move rfl) ?_
          refine L_pur rfl (p_lss rfl rfl) ?_
          refine L_nil ?_
          refine Q_then ?_
          refine C_dec rfl (fun h67 => ?_) (fun h67 => ?_)
          ·
            have hlt : i < N := by omega
            obtain ⟨bg, og, rfl⟩ := hz35 (by simp; omega)
            obtain ⟨d, hcd⟩ : ∃ d, g[i]? = some d := ⟨_, List.getElem?_eq_getElem (by omega)⟩
            refine J_skip ?_
            refine Q_then ?_
            refine J_seq ?_
            refine J_block ?_
            refine J_seq ?_
            refine J_seq ?_
            refine J_region ?_
            refine L_pur rfl (p_move rfl) ?_
            refine L_pur rfl (p_move rfl) ?_
            refine L_pur rfl (p_indexAddr rfl rfl Try.underlying22 ty4 (by omega) (by omega)) ?_
            refine L_val rfl (v_loadE1 rfl ty4 (by repeat (first | with_reducible exact Has.here | with_reducible assumption | with_reducible apply Has.there)) (by first | (simp only [Int.toNat_natCast, List.getElem?_map, hcc]; rfl) | (simp only [Int.toNat_natCast, List.getElem?_map, hcd]; rfl) | simp | rfl)) ?_
            refine L_nil ?_
            refine Q_then ?_
            refine C_split rfl (fun h73 => ?_) (fun h73 => ?_)
            ·
              rw [h73] at hcd
              refine J_pick (A := lsA b6 0 _) (by repeat (first | with_reducible exact Pick.here | with_reducible assumption | with_reducible apply Pick.there)) ?_
              refine J_asTo (B := lsA b6 0 ((lv g (i + 1)).map mkL)) (by rw [lv_skip hcd]) ?_
              refine J_exit ?_
              refine Q_then_exit ?_
              refine Q_blk_this ?_
              refine Q_then ?_
              refine J_region ?_
              refine L_pur rfl (p_move rfl) ?_
              refine L_pur rfl (p_add64 rfl rfl (by omega)) ?_
              refine L_pur rfl (p_assign rfl) ?_
              refine L_nil ?_
              refine Q_then ?_
              exact J_again (i + 1) (by omega) (by omega) (by repeat (first | exact Sub.nil | exact Sub.refl | refine Sub.cons (by repeat (first | exact Pick.here | apply Pick.there)) ?_ | refine Sub.drop ?_)) (by repeat (first | exact Keep.nil | refine Keep.cons rfl ?_))
            ·
              rw [h73] at hcd
              refine J_skip ?_
              refine Q_then ?_
              refine J_seq ?_
              refine J_region ?_
              refine L_op (x_call Try.func48 nm48 bd48 (.cons rfl .nil) rfl (popAt (g := g) (i := i) (by repeat (first | with_reducible exact Pick.here | with_reducible assumption | with_reducible apply Pick.there)) hcd (by omega)) fun _ => ?_)
              refine L_pur rfl (p_move rfl) ?_
              refine L_pur rfl (p_extract rfl rfl) ?_
              refine L_pur rfl (p_extract rfl rfl) ?_
              refine L_op (x_alloc ty36 rfl fun b12 => ?_)
              refine L_op (x_store rfl rfl ty36 rfl (by first | rfl | (simp [*]; done)) (by first | rfl | (simp [*]; done)) (by repeat (first | with_reducible exact Rep1.here | with_reducible apply Rep1.there)) (by first | exact Put.full rfl | ((repeat constructor); done) | exact Put.full (by first | rfl | simp [*])) ?_)
              refine L_pur rfl (p_assign rfl) ?_
              refine L_nil ?_
              refine Q_then ?_
              refine J_seq ?_
              refine J_region ?_
              refine L_pur rfl (p_move rfl) ?_
              refine L_pur rfl (p_not rfl) ?_
              refine L_pur rfl (p_move rfl) ?_
              refine J_bool (t := 80) (c := false) rfl (rfl) ?_
              refine L_op (G_on rfl rfl rfl ?_)
              refine J_val (v_loadA rfl ty36 (by repeat (first | with_reducible exact Has.here | with_reducible assumption | with_reducible apply Has.there)) (by first | exact Cut.full rfl | ((repeat constructor); done) | exact Cut.full (by first | rfl | simp [*]))) rfl rfl rfl ?_
              refine L_op (G_on rfl rfl rfl ?_)
              refine J_pur (p_move rfl) rfl rfl rfl ?_
              refine L_op (G_on rfl rfl rfl ?_)
              refine J_pur (p_rem rfl rfl (by decide)) rfl rfl rfl ?_
              refine J_slot (t := 83) (v := .int .i64 ((i % 3 : Nat) : Int)) rfl (by rfl) ?_
              refine L_op (G_on rfl rfl rfl ?_)
              refine J_pur (p_move rfl) rfl rfl rfl ?_
              refine L_op (G_on rfl rfl rfl ?_)
              refine J_pur (bld36 (.cons rfl (.cons rfl .nil)) (by repeat constructor)) rfl rfl rfl ?_
              refine L_op (G_on rfl rfl rfl ?_)
              refine J_pur (p_nev rfl rfl (fun w => eg36 _ _ _ _ _ w) (fun w => nev36 _ _ _ _ w)) rfl rfl rfl ?_
              refine L_pur rfl (p_pick_f rfl rfl) ?_
              refine L_nil ?_
              refine Q_then ?_
              refine J_bool (t := 87) (c := false) rfl (by simp [mkL]) ?_
              refine C_false rfl ?_
              refine J_skip ?_
              refine Q_blk_normal ?_
              refine Q_then ?_
              refine J_region ?_
              refine L_pur rfl (p_move rfl) ?_
              refine L_pur rfl (p_add64 rfl rfl (by omega)) ?_
              refine L_pur rfl (p_assign rfl) ?_
              refine L_nil ?_
              refine Q_then ?_
              exact J_again (i + 1) (by omega) (by omega) (by repeat (first | exact Sub.nil | exact Sub.refl | refine Sub.cons (by repeat (first | exact Pick.here | apply Pick.there)) ?_ | refine Sub.drop ?_)) (by repeat (first | exact Keep.nil | refine Keep.cons rfl ?_))
          ·
            have hin : i = N := by omega
            refine J_pick (A := lsA b6 0 _) (by repeat (first | with_reducible exact Pick.here | with_reducible assumption | with_reducible apply Pick.there)) ?_
            refine J_asTo (B := lsA b6 0 []) (by rw [lv_end (by omega)]; rfl) ?_
            refine J_exit ?_
            refine Q_then_exit ?_
            refine Q_then_exit ?_
            refine Q_blk_this ?_
            refine Q_then ?_
            refine J_seq ?_
            refine J_region ?_
            refine L_pur rfl (p_move rfl) ?_
            refine L_pur rfl (p_move rfl) ?_
            refine J_bool (t := 89) (c := true) rfl (rfl) ?_
            refine L_op (G_on rfl rfl rfl ?_)
            refine x_call Try.func49 nm49 bd49 (.cons rfl .nil) rfl (lLen (xs := []) (by repeat (first | with_reducible exact Pick.here | with_reducible assumption | with_reducible apply Pick.there)) (by simp)) fun _ => ?_
            refine L_op (G_on rfl rfl rfl ?_)
            refine J_pur (p_eql rfl rfl) rfl rfl rfl ?_
            refine L_pur rfl (p_pick_t rfl rfl) ?_
            refine J_bool (t := 92) (c := true) rfl (by simp) ?_
            refine L_pur rfl (p_assign rfl) ?_
            refine L_nil ?_
            refine Q_then ?_
            refine J_ret ?_
            exact J_return (()) Try.results9 (.tmp rfl .nil) rfl (by repeat (first | exact Sub.nil | exact Sub.refl | refine Sub.cons (by repeat (first | exact Pick.here | apply Pick.there)) ?_ | refine Sub.drop ?_))
      ·
        refine L_op (G_off rfl rfl rfl rfl rfl rfl ?_)
        refine L_op (G_off rfl rfl rfl rfl rfl rfl ?_)
        refine L_pur rfl (p_pick_f rfl rfl) ?_
        refine L_nil ?_
        refine Q_then ?_
        refine C_false rfl ?_
        refine J_exit ?_
        refine Q_then_exit ?_
        refine Q_then_exit ?_
        refine Q_blk_this ?_
        refine Q_then ?_
        refine J_seq ?_
        refine J_seq ?_
        refine J_region ?_
        refine L_pur rfl (p_assign rfl) ?_
        refine L_nil ?_
        refine Q_then ?_
        refine J_block ?_
        refine J_loop (α := Nat) (fun j => j ≤ N) (fun j => [lsA b6 0 ((lv g j).map mkL), row 4 1 (.slice a35 N c35) (g.map encB), old W]) (fun j => [(11, .int .i64 (j : Int)), (8, .slice a35 N c35), (0, .int .i64 (N : Int)), (1, .slice a (zs.map fun z => [Value.int .i64 z]).length cap), (5, .bool true), (6, .pointer (some ⟨b6, 0, none⟩))]) (fun j => N - j) 0 (by omega) (by repeat (first | exact Sub.nil | exact Sub.refl | refine Sub.cons (by repeat (first | exact Pick.here | apply Pick.there)) ?_ | refine Sub.drop ?_)) (by repeat (first | exact Keep.nil | refine Keep.cons rfl ?_)) ?_
        intro i hi2
        refine J_seq ?_
        refine J_seq ?_
        refine J_region ?_
        refine L_pur rfl (p_move rfl) ?_
        refine L_pur rfl (p_move rfl) ?_
        refine L_pur rfl (p_lss rfl rfl) ?_
        refine L_nil ?_
        refine Q_then ?_
        refine C_dec rfl (fun h67 => ?_) (fun h67 => ?_)
        ·
          have hlt : i < N := by omega
          obtain ⟨bg, og, rfl⟩ := hz35 (by simp; omega)
          obtain ⟨d, hcd⟩ : ∃ d, g[i]? = some d := ⟨_, List.getElem?_eq_getElem (by omega)⟩
          refine J_skip ?_
          refine Q_then ?_
          refine J_seq ?_
          refine J_block ?_
          refine J_seq ?_
          refine J_seq ?_
          refine J_region ?_
          refine L_pur rfl (p_move rfl) ?_
          refine L_pur rfl (p_move rfl) ?_
          refine L_pur rfl (p_indexAddr rfl rfl Try.underlying22 ty4 (by omega) (by omega)) ?_
          refine L_val rfl (v_loadE1 rfl ty4 (by repeat (first | with_reducible exact Has.here | with_reducible assumption | with_reducible apply Has.there)) (by first | (simp only [Int.toNat_natCast, List.getElem?_map, hcc]; rfl) | (simp only [Int.toNat_natCast, List.getElem?_map, hcd]; rfl) | simp | rfl)) ?_
          refine L_nil ?_
          refine Q_then ?_
          refine C_split rfl (fun h73 => ?_) (fun h73 => ?_)
          ·
            rw [h73] at hcd
            refine J_pick (A := lsA b6 0 _) (by repeat (first | with_reducible exact Pick.here | with_reducible assumption | with_reducible apply Pick.there)) ?_
            refine J_asTo (B := lsA b6 0 ((lv g (i + 1)).map mkL)) (by rw [lv_skip hcd]) ?_
            refine J_exit ?_
            refine Q_then_exit ?_
            refine Q_blk_this ?_
            refine Q_then ?_
            refine J_region ?_
            refine L_pur rfl (p_move rfl) ?_
            refine L_pur rfl (p_add64 rfl rfl (by omega)) ?_
            refine L_pur rfl (p_assign rfl) ?_
            refine L_nil ?_
            refine Q_then ?_
            exact J_again (i + 1) (by omega) (by omega) (by repeat (first | exact Sub.nil | exact Sub.refl | refine Sub.cons (by repeat (first | exact Pick.here | apply Pick.there)) ?_ | refine Sub.drop ?_)) (by repeat (first | exact Keep.nil | refine Keep.cons rfl ?_))
          ·
            rw [h73] at hcd
            refine J_skip ?_
            refine Q_then ?_
            refine J_seq ?_
            refine J_region ?_
            refine L_op (x_call Try.func48 nm48 bd48 (.cons rfl .nil) rfl (popAt (g := g) (i := i) (by repeat (first | with_reducible exact Pick.here | with_reducible assumption | with_reducible apply Pick.there)) hcd (by omega)) fun _ => ?_)
            refine L_pur rfl (p_move rfl) ?_
            refine L_pur rfl (p_extract rfl rfl) ?_
            refine L_pur rfl (p_extract rfl rfl) ?_
            refine L_op (x_alloc ty36 rfl fun b12 => ?_)
            refine L_op (x_store rfl rfl ty36 rfl (by first | rfl | (simp [*]; done)) (by first | rfl | (simp [*]; done)) (by repeat (first | with_reducible exact Rep1.here | with_reducible apply Rep1.there)) (by first | exact Put.full rfl | ((repeat constructor); done) | exact Put.full (by first | rfl | simp [*])) ?_)
            refine L_pur rfl (p_assign rfl) ?_
            refine L_nil ?_
            refine Q_then ?_
            refine J_seq ?_
            refine J_region ?_
            refine L_pur rfl (p_move rfl) ?_
            refine L_pur rfl (p_not rfl) ?_
            refine L_pur rfl (p_move rfl) ?_
            refine J_bool (t := 80) (c := false) rfl (rfl) ?_
            refine L_op (G_on rfl rfl rfl ?_)
            refine J_val (v_loadA rfl ty36 (by repeat (first | with_reducible exact Has.here | with_reducible assumption | with_reducible apply Has.there)) (by first | exact Cut.full rfl | ((repeat constructor); done) | exact Cut.full (by first | rfl | simp [*]))) rfl rfl rfl ?_
            refine L_op (G_on rfl rfl rfl ?_)
            refine J_pur (p_move rfl) rfl rfl rfl ?_
            refine L_op (G_on rfl rfl rfl ?_)
            refine J_pur (p_rem rfl rfl (by decide)) rfl rfl rfl ?_
            refine J_slot (t := 83) (v := .int .i64 ((i % 3 : Nat) : Int)) rfl (by rfl) ?_
            refine L_op (G_on rfl rfl rfl ?_)
            refine J_pur (p_move rfl) rfl rfl rfl ?_
            refine L_op (G_on rfl rfl rfl ?_)
            refine J_pur (bld36 (.cons rfl (.cons rfl .nil)) (by repeat constructor)) rfl rfl rfl ?_
            refine L_op (G_on rfl rfl rfl ?_)
            refine J_pur (p_nev rfl rfl (fun w => eg36 _ _ _ _ _ w) (fun w => nev36 _ _ _ _ w)) rfl rfl rfl ?_
            refine L_pur rfl (p_pick_f rfl rfl) ?_
            refine L_nil ?_
            refine Q_then ?_
            refine J_bool (t := 87) (c := false) rfl (by simp [mkL]) ?_
            refine C_false rfl ?_
            refine J_skip ?_
            refine Q_blk_normal ?_
            refine Q_then ?_
            refine J_region ?_
            refine L_pur rfl (p_move rfl) ?_
            refine L_pur rfl (p_add64 rfl rfl (by omega)) ?_
            refine L_pur rfl (p_assign rfl) ?_
            refine L_nil ?_
            refine Q_then ?_
            exact J_again (i + 1) (by omega) (by omega) (by repeat (first | exact Sub.nil | exact Sub.refl | refine Sub.cons (by repeat (first | exact Pick.here | apply Pick.there)) ?_ | refine Sub.drop ?_)) (by repeat (first | exact Keep.nil | refine Keep.cons rfl ?_))
        ·
          have hin : i = N := by omega
          refine J_pick (A := lsA b6 0 _) (by repeat (first | with_reducible exact Pick.here | with_reducible assumption | with_reducible apply Pick.there)) ?_
          refine J_asTo (B := lsA b6 0 []) (by rw [lv_end (by omega)]; rfl) ?_
          refine J_exit ?_
          refine Q_then_exit ?_
          refine Q_then_exit ?_
          refine Q_blk_this ?_
          refine Q_then ?_
          refine J_seq ?_
          refine J_region ?_
          refine L_pur rfl (p_move rfl) ?_
          refine L_pur rfl (p_move rfl) ?_
          refine J_bool (t := 89) (c := true) rfl (rfl) ?_
          refine L_op (G_on rfl rfl rfl ?_)
          refine x_call Try.func49 nm49 bd49 (.cons rfl .nil) rfl (lLen (xs := []) (by repeat (first | with_reducible exact Pick.here | with_reducible assumption | with_reducible apply Pick.there)) (by simp)) fun _ => ?_
          refine L_op (G_on rfl rfl rfl ?_)
          refine J_pur (p_eql rfl rfl) rfl rfl rfl ?_
          refine L_pur rfl (p_pick_t rfl rfl) ?_
          refine J_bool (t := 92) (c := true) rfl (by simp) ?_
          refine L_pur rfl (p_assign rfl) ?_
          refine L_nil ?_
          refine Q_then ?_
          refine J_ret ?_
          exact J_return (()) Try.results9 (.tmp rfl .nil) rfl (by repeat (first | exact Sub.nil | exact Sub.refl | refine Sub.cons (by repeat (first | exact Pick.here | apply Pick.there)) ?_ | refine Sub.drop ?_))

end Go.Pse
