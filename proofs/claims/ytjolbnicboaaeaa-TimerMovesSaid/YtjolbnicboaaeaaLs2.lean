/-
  The document's list: contracts of its methods.
-/
import Derived.Test.YtjolbnicboaaeaaLs1
import Derived.Test.YtjolbnicboaaeaaInv
namespace Go.Pse
open Go.RowKit Go.Proofs

def rlP (b o : Nat) (xs : List ID) (v : Value) : Prop := xs.Nodup
def rlL (b o : Nat) (xs : List ID) (v : Value) : List As := [fld b o [v], row 36 2 v (xs.map encI)]
def rlA (b o : Nat) (xs : List ID) : As := As.ex fun g : (Value) => As.all (As.pure (rlP b o xs g) :: rlL b o xs g)
theorem J_rlO {E : World} {l : List As} {n : Nat} {F : Env} {K : Act → World → Prop} {b o : Nat} {xs : List ID} (k : ∀ v, rlP b o xs v → Jk E (fld b o [v] :: row 36 2 v (xs.map encI) :: l) n F K) : Jk E (rlA b o xs :: l) n F K := J_unfold (f := fun g : (Value) => As.all (As.pure (rlP b o xs g) :: rlL b o xs g)) (fun _ => rfl) (fun g h => k g h)
theorem J_rlS {E : World} {l m : List As} {n : Nat} {F : Env} {K : Act → World → Prop} {b o : Nat} {xs : List ID} (v : Value) (hs : Picks [fld b o [v], row 36 2 v (xs.map encI)] l m) (h : rlP b o xs v) (k : Jk E (rlA b o xs :: m) n F K) : Jk E l n F K := J_fold (f := fun g : (Value) => As.all (As.pure (rlP b o xs g) :: rlL b o xs g)) (v) rfl hs h k

theorem idx_mem {xs : List ID} {i : ID} : decide (0 ≤ idx (isI i) xs) = decide (i ∈ xs) := by
  rw [decide_eq_decide]
  rcases idx_cases (isI i) xs with ⟨h1, h2⟩ | ⟨j, h1, h2, h3, c, h4, h5⟩
  · rw [h1]
    constructor
    · intro h; omega
    · intro h; have := h2 i h; rw [isI_eq] at this; simp at this
  · rw [h1]
    constructor
    · intro _; rw [isI_iff] at h5; subst h5; exact List.mem_of_getElem? h4
    · intro _; omega
theorem erase_drop {xs : List ID} {i : ID} {k : Nat} (hn : xs.Nodup) (h : idx (isI i) xs = k) : xs.take k ++ xs.drop (k + 1) = ldrop xs i := by
  rcases idx_cases (isI i) xs with ⟨h1, _⟩ | ⟨j, h1, h2, h3, c, h4, h5⟩
  · rw [h1] at h; omega
  · have hjk : j = k := by omega
    subst hjk
    rw [isI_iff] at h5
    subst h5
    have hlt := (List.getElem?_eq_some_iff.1 h4).1
    have e : xs = xs.take j ++ c :: xs.drop (j + 1) := by
      rw [← (List.getElem?_eq_some_iff.1 h4).2, ← List.drop_eq_getElem_cons hlt, List.take_append_drop]
    have hn' := hn
    rw [e, List.nodup_append] at hn'
    obtain ⟨g1, g2, g3⟩ := hn'
    have g4 := List.nodup_cons.1 g2
    conv => rhs; rw [e]
    unfold ldrop
    rw [List.filter_append, List.filter_cons, if_neg (by simp [isI_eq])]
    congr 1
    · refine (List.filter_eq_self.2 fun x hx => ?_).symm
      have : ¬ x = c := g3 x hx c (by simp)
      simp [isI_eq, this]
    · refine (List.filter_eq_self.2 fun x hx => ?_).symm
      have : ¬ x = c := fun e => g4.1 (e ▸ hx)
      simp [isI_eq, this]

set_option maxRecDepth 100000 in
set_option maxHeartbeats 4000000 in
theorem rlAt {E : World} {l m : List As}{b o : Nat} {xs : List ID} (hp : Pick (rlA b o xs) l m) (hb : xs.length ≤ 100000) (i : ID) :
    Con Try.prog 96 #[.pointer (some ⟨b, o, none⟩), .agg (encI i).toArray] E l (fun _ : Unit => .int .i64 (idx (isI i) xs)) (fun _ => rlA b o xs :: m) := by
  refine Con.body (vs := [.pointer (some ⟨b, o, none⟩), .agg (encI i).toArray]) (n := 25) Try.func96 rfl rfl [(0, .pointer (some ⟨b, o, none⟩)), (1, .agg (encI i).toArray)] (env_ok 2 rfl) ?_
  refine J_pick hp ?_
  refine J_rlO fun v hw => ?_
  refine J_row (.there .here) fun hwf a cap hv h1 h2 h3 => ?_
  subst hv
  have hm : cap ≤ 9223372036854775807 := h2
  have hml : (xs.map encI).length = xs.length := List.length_map _
  refine J_seq ?_
  refine J_region ?_
  refine L_op (x_box rfl rfl rfl fun b3 => ?_)
  refine L_pur rfl (p_assign rfl) ?_
  refine L_nil ?_
  refine Q_then ?_
  refine J_seq ?_
  refine J_seq ?_
  refine J_region ?_
  refine L_pur rfl (p_assign rfl) ?_
  refine L_nil ?_
  refine Q_then ?_
  refine J_block ?_
  refine J_loop (α := Nat) (fun k => k ≤ xs.length ∧ ∀ c ∈ xs.take k, isI i c = false) (fun _ => blk b3 36 (encI i) :: fld b o [.slice a (xs.map encI).length cap] :: row 36 2 (.slice a (xs.map encI).length cap) (xs.map encI) :: m) (fun k => [(5, .int .i64 (k : Int)), (0, .pointer (some ⟨b, o, none⟩)), (3, .pointer (some ⟨b3, 0, none⟩))]) (fun k => xs.length - k) 0 ⟨by omega, by simp⟩ SU KE ?_
  intro k ⟨hk, hq⟩
  refine J_seq ?_
  refine J_seq ?_
  refine J_region ?_
  refine L_pur rfl (p_move rfl) ?_
  refine L_pur rfl (p_move rfl) ?_
  refine L_pur rfl (p_nilCheck rfl) ?_
  refine L_pur rfl (p_fieldAddr rfl fa91_0) ?_
  refine L_val rfl (v_loadL rfl ty80 HS rfl (by exact rfl)) ?_
  refine L_pur rfl (p_len rfl Try.underlying80) ?_
  refine L_pur rfl (p_lss rfl rfl) ?_
  refine L_nil ?_
  refine Q_then ?_
  refine C_dec rfl (fun h12 => ?_) (fun h12 => ?_)
  ·
    have hlt : k < xs.length := by omega
    obtain ⟨bx, ox, rfl⟩ := h3 (by intro h; rw [h] at hml; simp at hml; omega)
    obtain ⟨c, hcc⟩ : ∃ c, xs[k]? = some c := ⟨_, List.getElem?_eq_getElem hlt⟩
    refine J_skip ?_
    refine Q_then ?_
    refine J_seq ?_
    refine J_block ?_
    refine J_seq ?_
    refine J_drawS mixed (by kernel_rfl) ?_
    refine S_val rfl (Pur.vl (p_move rfl)) ?_
    refine S_val rfl (Pur.vl (p_nilCheck rfl)) ?_
    refine S_val rfl (Pur.vl (p_fieldAddr rfl fa91_0)) ?_
    refine S_val rfl (v_loadL rfl ty80 HS rfl (by exact rfl)) ?_
    refine S_val rfl (Pur.vl (p_move rfl)) ?_
    refine S_val rfl (Pur.vl (p_indexAddr rfl rfl Try.underlying80 ty36 (by omega) (by omega))) ?_
    refine S_val rfl (v_loadE rfl ty36 HS (by first | (simp only [Int.toNat_natCast, List.getElem?_map, hcc]; rfl) | (simp only [Int.toNat_natCast, List.getElem?_map, hcd]; rfl) | simp | rfl)) ?_
    refine S_val rfl (v_loadA rfl ty36 HS CT) ?_
    refine S_val rfl (Pur.vl (p_eqv rfl rfl (fun w => eg36 _ _ _ _ _ w) (fun w => eqv36 _ _ _ _ w))) ?_
    refine S_nil ?_
    refine Q_then ?_
    refine C_split rfl (fun h23 => ?_) (fun h23 => ?_)
    ·
      have hidx := idx_here hq hcc h23
      refine J_seq ?_
      refine J_region ?_
      refine L_pur rfl (p_move rfl) ?_
      refine L_pur rfl (p_assign rfl) ?_
      refine L_nil ?_
      refine Q_then ?_
      refine J_ret ?_
      refine Q_blk_ret ?_
      refine Q_then_ret ?_
      refine Q_then_ret ?_
      refine Q_blk_ret ?_
      refine Q_then_ret ?_
      refine J_rlS (b := b) (o := o) (xs := xs) _ PX (hw) ?_
      refine J_return (()) Try.results96 (.tmp rfl .nil) ?_ ?_
      · simp [one, hidx]
      · exact SU
    ·
      refine J_skip ?_
      refine Q_blk_normal ?_
      refine Q_then ?_
      refine J_region ?_
      refine L_pur rfl (p_move rfl) ?_
      refine L_pur rfl (p_add64 rfl rfl (by omega)) ?_
      refine L_pur rfl (p_assign rfl) ?_
      refine L_nil ?_
      refine Q_then ?_
      exact J_again (k + 1) (by omega) (⟨by omega, take_false_succ hq hcc h23⟩) SU KE
  ·
    have hkx : k = xs.length := by omega
    rw [hkx, List.take_length] at hq
    have hidx := idx_none hq
    refine J_exit ?_
    refine Q_then_exit ?_
    refine Q_then_exit ?_
    refine Q_blk_this ?_
    refine Q_then ?_
    refine J_seq ?_
    refine J_region ?_
    refine L_pur rfl (p_assign rfl) ?_
    refine L_nil ?_
    refine Q_then ?_
    refine J_ret ?_
    refine J_rlS (b := b) (o := o) (xs := xs) _ PX (hw) ?_
    refine J_return (()) Try.results96 (.tmp rfl .nil) ?_ ?_
    · simp [one, hidx]
    · exact SU

set_option maxRecDepth 100000 in
set_option maxHeartbeats 4000000 in
theorem rlHas {E : World} {l m : List As}{b o : Nat} {xs : List ID} (hp : Pick (rlA b o xs) l m) (hb : xs.length ≤ 100000) (i : ID) :
    Con Try.prog 54 #[.pointer (some ⟨b, o, none⟩), .agg (encI i).toArray] E l (fun _ : Unit => .bool (decide (i ∈ xs))) (fun _ => rlA b o xs :: m) := by
  refine Con.body (vs := [.pointer (some ⟨b, o, none⟩), .agg (encI i).toArray]) (n := 9) Try.func54 rfl rfl [(0, .pointer (some ⟨b, o, none⟩)), (1, .agg (encI i).toArray)] (env_ok 2 rfl) ?_
  refine J_pick hp ?_
  refine J_seq ?_
  refine J_region ?_
  refine L_op (x_box rfl rfl rfl fun b3 => ?_)
  refine L_pur rfl (p_assign rfl) ?_
  refine L_nil ?_
  refine Q_then ?_
  refine J_seq ?_
  refine J_region ?_
  refine L_pur rfl (p_move rfl) ?_
  refine L_val rfl (v_loadA rfl ty36 HS CT) ?_
  refine L_op (x_call Try.func96 nm96 bd96 (.cons rfl (.cons rfl .nil)) rfl (rlAt PC (by omega) i) fun _ => ?_)
  refine L_pur rfl (p_geq rfl rfl) ?_
  refine L_pur rfl (p_assign rfl) ?_
  refine L_nil ?_
  refine Q_then ?_
  refine J_ret ?_
  refine J_return (()) Try.results54 (.tmp rfl .nil) ?_ ?_
  · simp [one, ← idx_mem]
  · exact SU

set_option maxRecDepth 100000 in
set_option maxHeartbeats 4000000 in
theorem ids {E : World} {l : List As} {v : Value} {xs : List (List Value)} (hr : ∀ w, Sep E w l → Reads w 2 v xs) (hb : xs.length ≤ 1000000) :
  Con Try.prog 97 #[v] E l (fun v' : Value => v') (fun v' => row 36 2 v' xs :: l) := by
 refine Con.body (vs := [v]) (n := 22) Try.func97 rfl rfl [(0, v)] (env_ok 1 rfl) ?_
 refine J_readsB hr fun hw a cap hv h1 h2 h3 => ?_
 subst hv
 have hm : cap ≤ 9223372036854775807 := h2
 refine J_seq ?_
 refine J_region ?_
 refine L_pur rfl (p_assign rfl) ?_
 refine L_nil ?_
 refine Q_then ?_
 refine J_seq ?_
 refine J_region ?_
 refine L_pur rfl (p_move rfl) ?_
 refine L_pur rfl (p_len rfl Try.underlying80) ?_
 refine L_op (x_make (len := 0) rfl rfl Try.underlying80 ty36 rfl rfl (by omega) (by omega) rfl rfl fun v7 => ?_)
 refine J_rowEq (ys := ([] : List (List Value))) (rfl) ?_
 refine J_row .here fun hw7 a7 c7 hv7 hl7 hm7 hz7 => ?_
 subst hv7
 refine L_pur rfl (p_assign rfl) ?_
 refine L_nil ?_
 refine Q_then ?_
 refine J_seq ?_
 refine J_seq ?_
 refine J_region ?_
 refine L_pur rfl (p_assign rfl) ?_
 refine L_nil ?_
 refine Q_then ?_
 refine J_block ?_
 refine J_loop2 (fun k v => k ≤ xs.length) (fun k v => row 36 2 v (xs.take k) :: l) (fun k v => [(4, .int .i64 (k : Int)), (3, v), (0, .slice a xs.length cap)]) (fun k v => xs.length - k) 0 _ (by omega) SU KE ?_
 intro k v hk
 refine J_seq ?_
 refine J_seq ?_
 refine J_region ?_
 refine L_pur rfl (p_move rfl) ?_
 refine L_pur rfl (p_move rfl) ?_
 refine L_pur rfl (p_len rfl Try.underlying80) ?_
 refine L_pur rfl (p_lss rfl rfl) ?_
 refine L_nil ?_
 refine Q_then ?_
 refine C_dec rfl (fun h11 => ?_) (fun h11 => ?_)
 ·
  have hlt : k < xs.length := by omega
  obtain ⟨bx, ox, rfl⟩ := h3 (by intro h; rw [h] at hlt; simp at hlt)
  obtain ⟨c, hcc⟩ : ∃ c, xs[k]? = some c := ⟨_, List.getElem?_eq_getElem hlt⟩
  obtain ⟨hcl, hc1⟩ := hw c (List.mem_of_getElem? hcc)
  refine J_skip ?_
  refine Q_then ?_
  refine J_seq ?_
  refine J_block ?_
  refine J_region ?_
  refine L_pur rfl (p_move rfl) ?_
  refine L_pur rfl (p_move rfl) ?_
  refine L_pur rfl (p_move rfl) ?_
  refine L_pur rfl (p_indexAddr rfl rfl Try.underlying80 ty36 (by omega) (by omega)) ?_
  refine L_val rfl (v_loadR rfl ty36 (fun w H => hr w (Sub.sep SU H)) (by simpa using hcc)) ?_
  refine L_op (x_lit (vals := [_]) Try.underlying80 ty36 rfl (.cons rfl .nil) (.agg .nil) (Wf.cons hcl hc1 Wf.nil) rfl (by decide) rfl rfl fun v19 => ?_)
  refine J_row .here fun hw19 a19 c19 hv19 hl19 hm19 hz19 => ?_
  subst hv19
  refine L_op (x_app rfl rfl Try.underlying80 ty36 rfl rfl PC (fun w H => sep_reads HS H) (by first | omega | (simp <;> omega)) (by first | omega | (simp <;> omega)) rfl fun v20 => ?_)
  refine J_rowEq (ys := xs.take (k + 1)) (by rw [List.take_add_one, hcc]; rfl) ?_
  refine J_row .here fun hw20 a20 c20 hv20 hl20 hm20 hz20 => ?_
  subst hv20
  refine L_pur rfl (p_assign rfl) ?_
  refine L_nil ?_
  refine Q_blk_normal ?_
  refine Q_then ?_
  refine J_region ?_
  refine L_pur rfl (p_move rfl) ?_
  refine L_pur rfl (p_add64 rfl rfl (by omega)) ?_
  refine L_pur rfl (p_assign rfl) ?_
  refine L_nil ?_
  refine Q_then ?_
  exact J_again2 (k + 1) _ (by omega) (by omega) SU KE
 ·
  have hkx : k = xs.length := by omega
  subst hkx
  refine J_pick (A := row 36 2 v (xs.take xs.length)) PC ?_
  refine J_rowEq (ys := xs) (by simp) ?_
  refine J_exit ?_
  refine Q_then_exit ?_
  refine Q_then_exit ?_
  refine Q_blk_this ?_
  refine Q_then ?_
  refine J_seq ?_
  refine J_region ?_
  refine L_pur rfl (p_move rfl) ?_
  refine L_pur rfl (p_assign rfl) ?_
  refine L_nil ?_
  refine Q_then ?_
  refine J_ret ?_
  exact J_return (_) Try.results97 (.tmp rfl .nil) rfl SU

set_option maxRecDepth 100000 in
set_option maxHeartbeats 4000000 in
theorem sameIDs {E : World} {l : List As} {v u : Value} {xs : List ID} (hr : ∀ w, Sep E w l → Reads w 2 v (xs.map encI)) (hs : ∀ w, Sep E w l → Reads w 2 u (xs.map encI)) (hb : xs.length ≤ 1000000) :
  Con Try.prog 55 #[v, u] E l (fun _ : Unit => .bool true) (fun _ => l) := by
 refine Con.body (vs := [v, u]) (n := 29) Try.func55 rfl rfl [(0, v), (1, u)] (env_ok 2 rfl) ?_
 refine J_readsB hr fun hw a cap hv h1 h2 h3 => ?_
 subst hv
 refine J_readsB hs fun hw' a' cap' hv h1' h2' h3' => ?_
 subst hv
 have hm : cap ≤ 9223372036854775807 := h2
 have hm' : cap' ≤ 9223372036854775807 := h2'
 have hml : (xs.map encI).length = xs.length := List.length_map _
 refine J_seq ?_
 refine J_region ?_
 refine L_pur rfl (p_assign rfl) ?_
 refine L_nil ?_
 refine Q_then ?_
 refine J_seq ?_
 refine J_seq ?_
 refine J_region ?_
 refine L_pur rfl (p_move rfl) ?_
 refine L_pur rfl (p_len rfl Try.underlying80) ?_
 refine L_pur rfl (p_move rfl) ?_
 refine L_pur rfl (p_len rfl Try.underlying80) ?_
 refine L_pur rfl (p_neq rfl rfl) ?_
 refine L_nil ?_
 refine Q_then ?_
 refine J_bool (t := 11) (c := false) rfl (by simp) ?_
 refine C_false rfl ?_
 refine J_skip ?_
 refine Q_then ?_
 refine J_seq ?_
 refine J_seq ?_
 refine J_region ?_
 refine L_pur rfl (p_assign rfl) ?_
 refine L_nil ?_
 refine Q_then ?_
 refine J_block ?_
 refine J_loop (α := Nat) (fun k => k ≤ xs.length) (fun _ => l) (fun k => [(5, .int .i64 (k : Int)), (0, .slice a (xs.map encI).length cap), (1, .slice a' (xs.map encI).length cap')]) (fun k => xs.length - k) 0 (by omega) SU KE ?_
 intro k hk
 refine J_seq ?_
 refine J_seq ?_
 refine J_region ?_
 refine L_pur rfl (p_move rfl) ?_
 refine L_pur rfl (p_move rfl) ?_
 refine L_pur rfl (p_len rfl Try.underlying80) ?_
 refine L_pur rfl (p_lss rfl rfl) ?_
 refine L_nil ?_
 refine Q_then ?_
 refine C_dec rfl (fun h15 => ?_) (fun h15 => ?_)
 ·
  have hlt : k < xs.length := by omega
  obtain ⟨bx, ox, rfl⟩ := h3 (by intro h; rw [h] at hml; simp at hml; omega)
  obtain ⟨by', oy, rfl⟩ := h3' (by intro h; rw [h] at hml; simp at hml; omega)
  obtain ⟨c, hcc⟩ : ∃ c, xs[k]? = some c := ⟨_, List.getElem?_eq_getElem hlt⟩
  refine J_skip ?_
  refine Q_then ?_
  refine J_seq ?_
  refine J_block ?_
  refine J_seq ?_
  refine J_drawS mixed (by kernel_rfl) ?_
  refine S_val rfl (Pur.vl (p_move rfl)) ?_
  refine S_val rfl (Pur.vl (p_move rfl)) ?_
  refine S_val rfl (Pur.vl (p_indexAddr rfl rfl Try.underlying80 ty36 (by omega) (by omega))) ?_
  refine S_val rfl (v_loadR rfl ty36 (fun w H => hr w (Sub.sep SU H)) (by simp only [Int.toNat_natCast, List.getElem?_map, hcc]; rfl)) ?_
  refine S_val rfl (Pur.vl (p_move rfl)) ?_
  refine S_val rfl (Pur.vl (p_move rfl)) ?_
  refine S_val rfl (Pur.vl (p_indexAddr rfl rfl Try.underlying80 ty36 (by omega) (by omega))) ?_
  refine S_val rfl (v_loadR rfl ty36 (fun w H => hs w (Sub.sep SU H)) (by simp only [Int.toNat_natCast, List.getElem?_map, hcc]; rfl)) ?_
  refine S_val rfl (Pur.vl (p_eqv rfl rfl (fun w => eg36 _ _ _ _ _ w) (fun w => eqv36 _ _ _ _ w))) ?_
  refine S_val rfl (Pur.vl (p_assign rfl)) ?_
  refine S_nil ?_
  refine Q_then ?_
  refine J_seq ?_
  refine J_region ?_
  refine L_pur rfl (p_move rfl) ?_
  refine L_pur rfl (p_not rfl) ?_
  refine L_nil ?_
  refine Q_then ?_
  refine J_bool (t := 28) (c := false) rfl (by simp) ?_
  refine C_false rfl ?_
  refine J_skip ?_
  refine Q_blk_normal ?_
  refine Q_then ?_
  refine J_region ?_
  refine L_pur rfl (p_move rfl) ?_
  refine L_pur rfl (p_add64 rfl rfl (by omega)) ?_
  refine L_pur rfl (p_assign rfl) ?_
  refine L_nil ?_
  refine Q_then ?_
  exact J_again (k + 1) (by omega) (by omega) SU KE
 ·
  refine J_exit ?_
  refine Q_then_exit ?_
  refine Q_then_exit ?_
  refine Q_blk_this ?_
  refine Q_then ?_
  refine J_seq ?_
  refine J_region ?_
  refine L_pur rfl (p_assign rfl) ?_
  refine L_nil ?_
  refine Q_then ?_
  refine J_ret ?_
  exact J_return (()) Try.results55 (.tmp rfl .nil) rfl SU

set_option maxRecDepth 100000 in
set_option maxHeartbeats 4000000 in
theorem rlPush {E : World} {l m : List As}{b o : Nat} {xs : List ID} (hp : Pick (rlA b o xs) l m) (hb : xs.length ≤ 100000) (i : ID) :
    Con Try.prog 52 #[.pointer (some ⟨b, o, none⟩), .agg (encI i).toArray] E l (fun _ : Unit => .bool (!decide (i ∈ xs))) (fun _ => rlA b o (lpush xs i) :: m) := by
  refine Con.body (vs := [.pointer (some ⟨b, o, none⟩), .agg (encI i).toArray]) (n := 19) Try.func52 rfl rfl [(0, .pointer (some ⟨b, o, none⟩)), (1, .agg (encI i).toArray)] (env_ok 2 rfl) ?_
  refine J_pick hp ?_
  refine J_seq ?_
  refine J_region ?_
  refine L_op (x_box rfl rfl rfl fun b3 => ?_)
  refine L_pur rfl (p_assign rfl) ?_
  refine L_nil ?_
  refine Q_then ?_
  refine J_seq ?_
  refine J_seq ?_
  refine J_region ?_
  refine L_pur rfl (p_move rfl) ?_
  refine L_val rfl (v_loadA rfl ty36 HS CT) ?_
  refine L_op (x_call Try.func54 nm54 bd54 (.cons rfl (.cons rfl .nil)) rfl (rlHas PC (by omega) i) fun _ => ?_)
  refine L_nil ?_
  refine Q_then ?_
  refine C_dec rfl (fun h7 => ?_) (fun h7 => ?_)
  ·
    have hlp : lpush xs i = xs := if_pos h7
    refine J_seq ?_
    refine J_region ?_
    refine L_pur rfl (p_assign rfl) ?_
    refine L_nil ?_
    refine Q_then ?_
    refine J_ret ?_
    refine Q_then_ret ?_
    refine J_asTo (B := rlA b o (lpush xs i)) (by rw [hlp]) ?_
    refine J_return (()) Try.results52 (.tmp rfl .nil) ?_ ?_
    · first | rfl | simp [one, h7]
    · exact SU
  ·
    have hlp : lpush xs i = xs ++ [i] := if_neg h7
    refine J_skip ?_
    refine Q_then ?_
    refine J_seq ?_
    refine J_pick (A := rlA b o xs) PC ?_
    refine J_rlO fun v hw => ?_
    refine J_drawI (some 11) [blk b3 36 (encI i)] mixed ?_
    refine I_take (i := 0) rfl rfl rfl rfl (by kernel_rfl) (fun _ _ _ _ h => h) (fun _ => Pur.vl (p_move rfl)) ?_
    refine I_take (i := 1) rfl rfl rfl rfl (by kernel_rfl) (fun _ _ _ _ h => h) (fun _ => Pur.vl (p_move rfl)) ?_
    refine I_take (i := 2) rfl rfl rfl rfl (by kernel_rfl) (fun _ _ _ _ h => h) (fun _ => Pur.vl (p_nilCheck rfl)) ?_
    refine I_take (i := 3) rfl rfl rfl rfl (by kernel_rfl) (fun _ _ _ _ h => h) (fun _ => Pur.vl (p_fieldAddr rfl fa91_0)) ?_
    refine I_take (i := 6) rfl rfl rfl rfl (by kernel_rfl) (fun _ _ _ _ h => h) (fun _ => v_loadA rfl ty36 HS CT) ?_
    refine I_ready (rs := [4, 7]) SI (by kernel_rfl) (by simp) ?_
    refine (I_cons rfl ?_ (I_cons rfl ?_ I_nil))
    ·
      refine J_val (v_loadL rfl ty80 HS rfl (by exact rfl)) rfl rfl rfl ?_
      refine I_ready (rs := [5, 7]) SI (by kernel_rfl) (by simp) ?_
      refine (I_cons rfl ?_ (I_cons rfl ?_ I_nil))
      ·
        refine x_call Try.func97 nm97 bd97 (.cons rfl .nil) rfl (ids (xs := xs.map encI) (fun w H => sep_reads (xs := xs.map encI) HS H) (by simp; omega)) fun v13 => ?_
        refine J_row .here fun hw13 a13 c13 hv13 hl13 hm13 hz13 => ?_
        subst hv13
        refine I_one (i := 7) SI (by kernel_rfl) rfl ?_
        refine x_lit (vals := [_]) Try.underlying80 ty36 rfl (.cons rfl .nil) (.agg .nil) (Wf.cons rfl rfl Wf.nil) rfl (by decide) rfl rfl fun v15 => ?_
        refine J_row .here fun hw15 a15 c15 hv15 hl15 hm15 hz15 => ?_
        subst hv15
        refine I_one (i := 8) SI (by kernel_rfl) rfl ?_
        refine x_app rfl rfl Try.underlying80 ty36 rfl rfl PC (fun w H => sep_reads HS H) (by first | omega | (simp <;> omega)) (by first | omega | (simp <;> omega)) rfl fun v16 => ?_
        refine J_rowEq (ys := (xs ++ [i]).map encI) (by simp) ?_
        refine J_row .here fun hw16 a16 c16 hv16 hl16 hm16 hz16 => ?_
        subst hv16
        refine I_take (i := 9) rfl rfl rfl rfl (by kernel_rfl) (fun _ _ _ _ h => h) (fun _ => Pur.vl (p_nilCheck rfl)) ?_
        refine I_take (i := 10) rfl rfl rfl rfl (by kernel_rfl) (fun _ _ _ _ h => h) (fun _ => Pur.vl (p_fieldAddr rfl fa91_0)) ?_
        refine I_one (i := 11) SI (by kernel_rfl) rfl ?_
        refine x_storeL rfl rfl ty80 rfl (by first | rfl | (simp [*]; done)) (by first | rfl | (simp [*]; done)) rfl RO rfl PT ?_
        refine I_done SI (by kernel_rfl) ?_
        refine Q_then ?_
        refine J_seq ?_
        refine J_region ?_
        refine L_pur rfl (p_assign rfl) ?_
        refine L_nil ?_
        refine Q_then ?_
        refine J_ret ?_
        refine J_rlS (b := b) (o := o) (xs := xs ++ [i]) _ PX (hlp ▸ lpush_nodup hw i) ?_
        refine J_asTo (B := rlA b o (lpush xs i)) (by rw [hlp]) ?_
        refine J_return (()) Try.results52 (.tmp rfl .nil) ?_ ?_
        · first | rfl | simp [one, h7]
        · exact SU
      ·
        refine x_lit (vals := [_]) Try.underlying80 ty36 rfl (.cons rfl .nil) (.agg .nil) (Wf.cons rfl rfl Wf.nil) rfl (by decide) rfl rfl fun v15 => ?_
        refine J_row .here fun hw15 a15 c15 hv15 hl15 hm15 hz15 => ?_
        subst hv15
        refine I_one (i := 5) SI (by kernel_rfl) rfl ?_
        refine x_call Try.func97 nm97 bd97 (.cons rfl .nil) rfl (ids (xs := xs.map encI) (fun w H => sep_reads (xs := xs.map encI) HS H) (by simp; omega)) fun v13 => ?_
        refine J_row .here fun hw13 a13 c13 hv13 hl13 hm13 hz13 => ?_
        subst hv13
        refine I_one (i := 8) SI (by kernel_rfl) rfl ?_
        refine x_app rfl rfl Try.underlying80 ty36 rfl rfl PC (fun w H => sep_reads HS H) (by first | omega | (simp <;> omega)) (by first | omega | (simp <;> omega)) rfl fun v16 => ?_
        refine J_rowEq (ys := (xs ++ [i]).map encI) (by simp) ?_
        refine J_row .here fun hw16 a16 c16 hv16 hl16 hm16 hz16 => ?_
        subst hv16
        refine I_take (i := 9) rfl rfl rfl rfl (by kernel_rfl) (fun _ _ _ _ h => h) (fun _ => Pur.vl (p_nilCheck rfl)) ?_
        refine I_take (i := 10) rfl rfl rfl rfl (by kernel_rfl) (fun _ _ _ _ h => h) (fun _ => Pur.vl (p_fieldAddr rfl fa91_0)) ?_
        refine I_one (i := 11) SI (by kernel_rfl) rfl ?_
        refine x_storeL rfl rfl ty80 rfl (by first | rfl | (simp [*]; done)) (by first | rfl | (simp [*]; done)) rfl RO rfl PT ?_
        refine I_done SI (by kernel_rfl) ?_
        refine Q_then ?_
        refine J_seq ?_
        refine J_region ?_
        refine L_pur rfl (p_assign rfl) ?_
        refine L_nil ?_
        refine Q_then ?_
        refine J_ret ?_
        refine J_rlS (b := b) (o := o) (xs := xs ++ [i]) _ PX (hlp ▸ lpush_nodup hw i) ?_
        refine J_asTo (B := rlA b o (lpush xs i)) (by rw [hlp]) ?_
        refine J_return (()) Try.results52 (.tmp rfl .nil) ?_ ?_
        · first | rfl | simp [one, h7]
        · exact SU
    ·
      refine x_lit (vals := [_]) Try.underlying80 ty36 rfl (.cons rfl .nil) (.agg .nil) (Wf.cons rfl rfl Wf.nil) rfl (by decide) rfl rfl fun v15 => ?_
      refine J_row .here fun hw15 a15 c15 hv15 hl15 hm15 hz15 => ?_
      subst hv15
      refine I_one (i := 4) SI (by kernel_rfl) rfl ?_
      refine J_val (v_loadL rfl ty80 HS rfl (by exact rfl)) rfl rfl rfl ?_
      refine I_one (i := 5) SI (by kernel_rfl) rfl ?_
      refine x_call Try.func97 nm97 bd97 (.cons rfl .nil) rfl (ids (xs := xs.map encI) (fun w H => sep_reads (xs := xs.map encI) HS H) (by simp; omega)) fun v13 => ?_
      refine J_row .here fun hw13 a13 c13 hv13 hl13 hm13 hz13 => ?_
      subst hv13
      refine I_one (i := 8) SI (by kernel_rfl) rfl ?_
      refine x_app rfl rfl Try.underlying80 ty36 rfl rfl PC (fun w H => sep_reads HS H) (by first | omega | (simp <;> omega)) (by first | omega | (simp <;> omega)) rfl fun v16 => ?_
      refine J_rowEq (ys := (xs ++ [i]).map encI) (by simp) ?_
      refine J_row .here fun hw16 a16 c16 hv16 hl16 hm16 hz16 => ?_
      subst hv16
      refine I_take (i := 9) rfl rfl rfl rfl (by kernel_rfl) (fun _ _ _ _ h => h) (fun _ => Pur.vl (p_nilCheck rfl)) ?_
      refine I_take (i := 10) rfl rfl rfl rfl (by kernel_rfl) (fun _ _ _ _ h => h) (fun _ => Pur.vl (p_fieldAddr rfl fa91_0)) ?_
      refine I_one (i := 11) SI (by kernel_rfl) rfl ?_
      refine x_storeL rfl rfl ty80 rfl (by first | rfl | (simp [*]; done)) (by first | rfl | (simp [*]; done)) rfl RO rfl PT ?_
      refine I_done SI (by kernel_rfl) ?_
      refine Q_then ?_
      refine J_seq ?_
      refine J_region ?_
      refine L_pur rfl (p_assign rfl) ?_
      refine L_nil ?_
      refine Q_then ?_
      refine J_ret ?_
      refine J_rlS (b := b) (o := o) (xs := xs ++ [i]) _ PX (hlp ▸ lpush_nodup hw i) ?_
      refine J_asTo (B := rlA b o (lpush xs i)) (by rw [hlp]) ?_
      refine J_return (()) Try.results52 (.tmp rfl .nil) ?_ ?_
      · first | rfl | simp [one, h7]
      · exact SU

set_option maxRecDepth 100000 in
set_option maxHeartbeats 4000000 in
theorem rlPop {E : World} {l m : List As}{b o : Nat} {xs : List ID} (hp : Pick (rlA b o xs) l m) (hb : xs.length ≤ 100000) :
  Con Try.prog 50 #[.pointer (some ⟨b, o, none⟩)] E l (fun _ : Unit => .tuple #[.agg (encI (xs.headD (0, 0))).toArray, .bool (!xs.isEmpty)]) (fun _ => rlA b o xs.tail :: m) := by
 rcases xs with _ | ⟨x, r⟩
 ·
  refine Con.body (vs := [.pointer (some ⟨b, o, none⟩)]) (n := 27) Try.func50 rfl rfl [(0, .pointer (some ⟨b, o, none⟩))] (env_ok 1 rfl) ?_
  refine J_pick hp ?_
  refine J_rlO fun v hw => ?_
  refine J_row (.there .here) fun hwf a cap hv h1 h2 h3 => ?_
  subst hv
  refine J_seq ?_
  refine J_region ?_
  refine L_op (x_alloc ty36 rfl fun b2 => ?_)
  refine L_pur rfl (p_assign rfl) ?_
  refine L_nil ?_
  refine Q_then ?_
  refine J_seq ?_
  refine J_seq ?_
  refine J_region ?_
  refine L_pur rfl (p_move rfl) ?_
  refine L_pur rfl (p_nilCheck rfl) ?_
  refine L_pur rfl (p_fieldAddr rfl fa91_0) ?_
  refine L_val rfl (v_loadL rfl ty80 HS rfl (by exact rfl)) ?_
  refine L_pur rfl (p_len rfl Try.underlying80) ?_
  refine L_pur rfl (p_eql rfl rfl) ?_
  refine L_nil ?_
  refine Q_then ?_
  refine J_bool (t := 10) (c := true) rfl (by simp) ?_
  refine C_true rfl ?_
  refine J_seq ?_
  refine J_region ?_
  refine L_pur rfl (bld36 .nil (by repeat constructor)) ?_
  refine L_op (x_store rfl rfl ty36 rfl (by first | rfl | (simp [*]; done)) (by first | rfl | (simp [*]; done)) RO PT ?_)
  refine L_pur rfl (p_assign rfl) ?_
  refine L_nil ?_
  refine Q_then ?_
  refine J_ret ?_
  refine Q_then_ret ?_
  refine J_rlS (b := b) (o := o) (xs := []) _ PX (hw) ?_
  exact J_return (()) Try.results50 (.cellA rfl ty36 HS CT (.tmp rfl .nil)) rfl SU
 ·
  refine Con.body (vs := [.pointer (some ⟨b, o, none⟩)]) (n := 27) Try.func50 rfl rfl [(0, .pointer (some ⟨b, o, none⟩))] (env_ok 1 rfl) ?_
  refine J_pick hp ?_
  refine J_rlO fun v hw => ?_
  refine J_row (.there .here) fun hwf a cap hv h1 h2 h3 => ?_
  obtain ⟨bi, oi, rfl⟩ := h3 (by simp)
  subst hv
  have hml : ((x :: r).map encI).length = r.length + 1 := by simp
  refine J_seq ?_
  refine J_region ?_
  refine L_op (x_alloc ty36 rfl fun b2 => ?_)
  refine L_pur rfl (p_assign rfl) ?_
  refine L_nil ?_
  refine Q_then ?_
  refine J_seq ?_
  refine J_seq ?_
  refine J_region ?_
  refine L_pur rfl (p_move rfl) ?_
  refine L_pur rfl (p_nilCheck rfl) ?_
  refine L_pur rfl (p_fieldAddr rfl fa91_0) ?_
  refine L_val rfl (v_loadL rfl ty80 HS rfl (by exact rfl)) ?_
  refine L_pur rfl (p_len rfl Try.underlying80) ?_
  refine L_pur rfl (p_eql rfl rfl) ?_
  refine L_nil ?_
  refine Q_then ?_
  refine J_bool (t := 10) (c := false) rfl (by simp; omega) ?_
  refine C_false rfl ?_
  refine J_skip ?_
  refine Q_then ?_
  refine J_seq ?_
  refine J_region ?_
  refine L_pur rfl (p_move rfl) ?_
  refine L_pur rfl (p_nilCheck rfl) ?_
  refine L_pur rfl (p_fieldAddr rfl fa91_0) ?_
  refine L_val rfl (v_loadL rfl ty80 HS rfl (by exact rfl)) ?_
  refine L_pur rfl (p_indexAddr rfl rfl Try.underlying80 ty36 (by omega) (by simp)) ?_
  refine L_val rfl (v_loadE rfl ty36 HS (by rfl)) ?_
  refine L_op (x_alloc ty36 rfl fun b4 => ?_)
  refine L_op (x_store rfl rfl ty36 rfl (by first | rfl | (simp [*]; done)) (by first | rfl | (simp [*]; done)) RO PT ?_)
  refine L_nil ?_
  refine Q_then ?_
  refine J_seq ?_
  refine J_region ?_
  refine L_pur rfl (p_move rfl) ?_
  refine L_pur rfl (p_move rfl) ?_
  refine L_pur rfl (p_nilCheck rfl) ?_
  refine L_pur rfl (p_fieldAddr rfl fa91_0) ?_
  refine L_val rfl (v_loadL rfl ty80 HS rfl (by exact rfl)) ?_
  refine L_pur rfl (p_slice rfl Try.underlying80 ty36 rfl rfl (by omega) (by omega) (by omega)) ?_
  refine J_pick (A := row 36 2 (.slice (some ⟨bi, oi, none⟩) ((x :: r).map encI).length cap) ((x :: r).map encI)) PC ?_
  refine J_dropS (t := 23) (lo := 1) rfl (by simp) fun a23 => ?_
  refine J_rowEq (ys := r.map encI) (by simp) ?_
  refine L_pur rfl (p_nilCheck rfl) ?_
  refine L_pur rfl (p_fieldAddr rfl fa91_0) ?_
  refine L_op (x_storeL rfl rfl ty80 rfl (by first | rfl | (simp [*]; done)) (by first | rfl | (simp [*]; done)) rfl RO rfl PT ?_)
  refine L_nil ?_
  refine Q_then ?_
  refine J_seq ?_
  refine J_region ?_
  refine L_val rfl (v_loadA rfl ty36 HS CT) ?_
  refine L_op (x_store rfl rfl ty36 rfl (by first | rfl | (simp [*]; done)) (by first | rfl | (simp [*]; done)) RO PT ?_)
  refine L_pur rfl (p_assign rfl) ?_
  refine L_nil ?_
  refine Q_then ?_
  refine J_ret ?_
  refine J_rlS (b := b) (o := o) (xs := r) _ PX ((List.nodup_cons.1 hw).2) ?_
  exact J_return (()) Try.results50 (.cellA rfl ty36 HS CT (.tmp rfl .nil)) rfl SU

set_option maxRecDepth 100000 in
set_option maxHeartbeats 4000000 in
theorem rlDrop {E : World} {l m : List As}{b o : Nat} {xs : List ID} (hp : Pick (rlA b o xs) l m) (hb : xs.length ≤ 100000) (i : ID) :
    Con Try.prog 51 #[.pointer (some ⟨b, o, none⟩), .agg (encI i).toArray] E l (fun _ : Unit => .bool (decide (i ∈ xs))) (fun _ => rlA b o (ldrop xs i) :: m) := by
  refine Con.body (vs := [.pointer (some ⟨b, o, none⟩), .agg (encI i).toArray]) (n := 31) Try.func51 rfl rfl [(0, .pointer (some ⟨b, o, none⟩)), (1, .agg (encI i).toArray)] (env_ok 2 rfl) ?_
  refine J_pick hp ?_
  refine J_seq ?_
  refine J_region ?_
  refine L_op (x_box rfl rfl rfl fun b3 => ?_)
  refine L_pur rfl (p_assign rfl) ?_
  refine L_nil ?_
  refine Q_then ?_
  refine J_seq ?_
  refine J_region ?_
  refine L_pur rfl (p_move rfl) ?_
  refine L_val rfl (v_loadA rfl ty36 HS CT) ?_
  refine L_op (x_call Try.func96 nm96 bd96 (.cons rfl (.cons rfl .nil)) rfl (rlAt PC (by omega) i) fun _ => ?_)
  have him := idx_mem (xs := xs) (i := i)
  refine L_pur rfl (p_assign rfl) ?_
  refine L_nil ?_
  refine Q_then ?_
  refine J_seq ?_
  refine J_seq ?_
  refine J_region ?_
  refine L_pur rfl (p_move rfl) ?_
  refine L_pur rfl (p_lss rfl rfl) ?_
  refine L_nil ?_
  refine Q_then ?_
  refine C_dec rfl (fun h11 => ?_) (fun h11 => ?_)
  ·
    have hi : i ∉ xs := by intro h; simp [h] at him; omega
    refine J_seq ?_
    refine J_region ?_
    refine L_pur rfl (p_assign rfl) ?_
    refine L_nil ?_
    refine Q_then ?_
    refine J_ret ?_
    refine Q_then_ret ?_
    refine J_asTo (B := rlA b o (ldrop xs i)) (by rw [ldrop_no hi]) ?_
    refine J_return (()) Try.results51 (.tmp rfl .nil) ?_ ?_
    · simp [one, hi]
    · exact SU
  ·
    have hi : i ∈ xs := by simp only [decide_eq_decide] at him; exact him.1 (by omega)
    obtain ⟨k, hk⟩ : ∃ k : Nat, idx (isI i) xs = k := ⟨(idx (isI i) xs).toNat, by omega⟩
    have hkl : k < xs.length := by
      rcases idx_cases (isI i) xs with ⟨h1, _⟩ | ⟨j, h1, h2, _⟩ <;> omega
    refine J_slot (t := 5) (v := .int .i64 (k : Int)) rfl (by rw [hk]) ?_
    refine J_pick (A := rlA b o xs) PC ?_
    refine J_rlO fun v hw => ?_
    refine J_row (.there .here) fun hwf a cap hv h1 h2 h3 => ?_
    subst hv
    have hm : cap ≤ 9223372036854775807 := h2
    have hml : (xs.map encI).length = xs.length := List.length_map _
    refine J_skip ?_
    refine Q_then ?_
    refine J_seq ?_
    refine J_region ?_
    refine L_pur rfl (p_move rfl) ?_
    refine L_pur rfl (p_nilCheck rfl) ?_
    refine L_pur rfl (p_fieldAddr rfl fa91_0) ?_
    refine L_val rfl (v_loadL rfl ty80 HS rfl (by exact rfl)) ?_
    refine L_pur rfl (p_move rfl) ?_
    refine L_pur rfl (p_slice rfl Try.underlying80 ty36 rfl rfl (by omega) (by omega) (by omega)) ?_
    refine J_slot (t := 17) (v := .slice a k cap) rfl (by simp [Addr.add]) ?_
    refine L_op (x_call Try.func97 nm97 bd97 (.cons rfl .nil) rfl (ids (xs := (xs.map encI).take k) (fun w H => (sep_reads (xs := xs.map encI) HS H).take (i := k) (by simp; omega)) (by simp; omega)) fun v18 => ?_)
    refine J_row .here fun hw18 a18 c18 hv18 hl18 hm18 hz18 => ?_
    subst hv18
    refine L_pur rfl (p_assign rfl) ?_
    refine L_nil ?_
    refine Q_then ?_
    refine J_seq ?_
    refine J_region ?_
    refine L_pur rfl (p_move rfl) ?_
    refine L_pur rfl (p_move rfl) ?_
    refine L_pur rfl (p_move rfl) ?_
    refine L_pur rfl (p_nilCheck rfl) ?_
    refine L_pur rfl (p_fieldAddr rfl fa91_0) ?_
    refine L_val rfl (v_loadL rfl ty80 HS rfl (by exact rfl)) ?_
    refine L_pur rfl (p_move rfl) ?_
    refine L_pur rfl (p_add64 rfl rfl (by omega)) ?_
    refine L_pur rfl (p_slice rfl Try.underlying80 ty36 rfl rfl (by omega) (by omega) (by omega)) ?_
    refine L_op (x_app rfl rfl Try.underlying80 ty36 rfl rfl PC (fun w H => Reads.drop (a0 := a) (len := (xs.map encI).length) (cap := cap) (lo := k + 1) (sep_reads (xs := xs.map encI) HS H) (by simp; omega)) (by first | omega | (simp <;> omega)) (by first | omega | (simp <;> omega)) rfl fun v28 => ?_)
    refine J_rowEq (ys := (ldrop xs i).map encI) (by rw [← List.map_take, ← List.map_drop, ← List.map_append, erase_drop hw hk]) ?_
    refine J_row .here fun hw28 a28 c28 hv28 hl28 hm28 hz28 => ?_
    subst hv28
    refine L_pur rfl (p_nilCheck rfl) ?_
    refine L_pur rfl (p_fieldAddr rfl fa91_0) ?_
    refine L_op (x_storeL rfl rfl ty80 rfl (by first | rfl | (simp [*]; done)) (by first | rfl | (simp [*]; done)) rfl RO rfl PT ?_)
    refine L_nil ?_
    refine Q_then ?_
    refine J_seq ?_
    refine J_region ?_
    refine L_pur rfl (p_assign rfl) ?_
    refine L_nil ?_
    refine Q_then ?_
    refine J_ret ?_
    refine J_rlS (b := b) (o := o) (xs := ldrop xs i) _ PX (ldrop_nodup hw i) ?_
    refine J_return (()) Try.results51 (.tmp rfl .nil) ?_ ?_
    · simp [one, hi]
    · exact SU

end Go.Pse
