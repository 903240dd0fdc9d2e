/-
  The law on what is found.
-/
import Derived.Test.YtjolbnicboaaeaaJn2
namespace Go.Pse
open Go.RowKit Go.Proofs

theorem idx_snoc {α : Type} {q : α → Bool} (xs : List α) (d : α) : idx q (xs ++ [d]) = if 0 ≤ idx q xs then idx q xs else if q d then (xs.length : Int) else -1 := by
  rcases idx_cases q xs with ⟨h, hn⟩ | ⟨i, h, hlt, hpre, c, hc, hq⟩
  · rw [h, if_neg (by omega)]
    by_cases hd : q d = true
    · rw [if_pos hd]
      exact idx_here (c := d) (by simpa using hn) (by simp) hd
    · rw [if_neg hd]
      refine idx_none fun c hc => ?_
      rcases List.mem_append.1 hc with hc | hc
      · exact hn c hc
      · simp at hc; subst hc; simpa using hd
  · rw [h, if_pos (by omega)]
    refine idx_here (c := c) ?_ (by rw [List.getElem?_append_left hlt]; exact hc) hq
    rw [List.take_append_of_le_length (by omega)]; exact hpre
def dl (n : Nat) (i : Nat) : Deed := ((1, n), 0, 0, 0, i, false)
theorem idx_lt {α : Type} {q : α → Bool} {xs : List α} : -1 ≤ idx q xs ∧ idx q xs < xs.length := by
  rcases idx_cases q xs with ⟨h, _⟩ | ⟨i, h, hlt, _⟩ <;> rw [h] <;> omega

theorem isD_dl (w n i : Nat) : isD (1, (w : Int)) (dl n i) = decide ((n : Int) = (w : Int)) := by simp [isD, dl]

set_option maxRecDepth 100000 in
theorem journalFinds {E W : World} {v : Value} {zs : List Int} (hr : Reads W 1 v (zs.map fun z => [Value.int .i64 z])) (z0 : Int) :
    Con Try.prog 8 #[v, .int .i64 z0] E [old W] (fun _ : Unit => .bool true) (fun _ => [old W]) := by
  refine Con.body (vs := [v, .int .i64 z0]) (n := 87) Try.func8 rfl rfl [(0, v), (1, .int .i64 z0)] (env_ok 2 rfl) ?_
  refine J_readsB (fun w H => hr.old .here H) fun hw a cap hv h1 h2 h3 => ?_
  subst hv
  have hm : cap ≤ 9223372036854775807 := h2
  have hml : (zs.map fun z => [Value.int .i64 z]).length = zs.length := List.length_map _
  obtain ⟨w, hw0⟩ : ∃ w, w = num z0 6 := ⟨_, rfl⟩
  refine J_seq ?_
  refine J_region ?_
  refine L_pur rfl (p_assign rfl) ?_
  refine L_nil ?_
  refine Q_then ?_
  refine J_seq ?_
  refine J_region ?_
  refine L_op (x_call Try.func34 nm34 bd34 .nil rfl (first22) fun _ => ?_)
  refine L_pur rfl (p_assign rfl) ?_
  refine L_nil ?_
  refine Q_then ?_
  refine J_seq ?_
  refine J_seq ?_
  refine J_region ?_
  refine L_pur rfl (p_move rfl) ?_
  refine L_pur rfl (p_not rfl) ?_
  refine L_nil ?_
  refine Q_then ?_
  refine J_bool (t := 16) (c := false) rfl (rfl) ?_
  refine C_false rfl ?_
  refine J_skip ?_
  refine Q_then ?_
  refine J_seq ?_
  refine J_seq ?_
  refine J_region ?_
  refine L_pur rfl (p_move rfl) ?_
  refine L_pur rfl (p_len rfl Try.underlying23) ?_
  refine L_pur rfl (p_gtr rfl rfl) ?_
  refine L_nil ?_
  refine Q_then ?_
  refine C_dec rfl (fun h19 => ?_) (fun h19 => ?_)
  ·
    refine J_seq ?_
    refine J_region ?_
    refine L_pur rfl (p_move rfl) ?_
    refine L_pur rfl (p_assign rfl) ?_
    refine L_nil ?_
    refine Q_then ?_
    refine J_ret ?_
    refine Q_then_ret ?_
    exact J_return (()) Try.results8 (.tmp rfl .nil) rfl (by repeat (first | exact Sub.nil | exact Sub.refl | refine Sub.cons (by repeat (first | exact Pick.here | apply Pick.there)) ?_ | refine Sub.drop ?_))
  ·
    refine J_skip ?_
    refine Q_then ?_
    refine J_seq ?_
    refine J_region ?_
    refine L_op (x_alloc ty64 rfl fun b6 => ?_)
    refine J_j ?_
    refine L_nil ?_
    refine Q_then ?_
    refine J_seq ?_
    refine J_region ?_
    refine L_pur rfl (p_move rfl) ?_
    refine L_op (x_call Try.func23 nm23 bd23 (.cons rfl (.cons rfl .nil)) rfl (number (by omega) (by omega)) fun _ => ?_)
    refine J_slot (t := 22) (v := .int .i64 (w : Int)) rfl (by rw [hw0]) ?_
    refine L_pur rfl (p_assign rfl) ?_
    refine L_nil ?_
    refine Q_then ?_
    refine J_seq ?_
    refine J_region ?_
    refine L_pur rfl (p_assign rfl) ?_
    refine L_nil ?_
    refine Q_then ?_
    refine J_seq ?_
    refine J_seq ?_
    refine J_region ?_
    refine L_pur rfl (p_assign rfl) ?_
    refine L_nil ?_
    refine Q_then ?_
    refine J_block ?_
    refine J_loop2 (fun i xs => i ≤ zs.length ∧ xs.length = i ∧ ∀ c ∈ xs, c.1.1 = 1) (fun i xs => [jA 64 b6 xs, old W]) (fun i xs => [(0, .slice a (zs.map fun z => [Value.int .i64 z]).length cap), (1, .int .i64 (w : Int)), (5, .bool true), (6, .pointer (some ⟨b6, 0, none⟩)), (7, .int .i64 (idx (isD (1, (w : Int))) xs)), (8, .int .i64 (i : Int))]) (fun i xs => zs.length - i) 0 ([] : List Deed) ⟨by omega, rfl, fun _ h => by cases h⟩ (by repeat (first | exact Sub.nil | exact Sub.refl | refine Sub.cons (by repeat (first | exact Pick.here | apply Pick.there)) ?_ | refine Sub.drop ?_)) (by repeat (first | exact Keep.nil | refine Keep.cons rfl ?_)) ?_
    intro i xs ⟨hi, hxl, hx⟩
    refine J_seq ?_
    refine J_seq ?_
    refine J_region ?_
    refine L_pur rfl (p_move rfl) ?_
    refine L_pur rfl (p_move rfl) ?_
    refine L_pur rfl (p_len rfl Try.underlying23) ?_
    refine L_pur rfl (p_lss rfl rfl) ?_
    refine L_nil ?_
    refine Q_then ?_
    refine C_dec rfl (fun h26 => ?_) (fun h26 => ?_)
    ·
      have hlt : i < zs.length := by omega
      obtain ⟨b, o, rfl⟩ := h3 (by intro h; rw [h] at hml; simp at hml; omega)
      obtain ⟨z, hzz⟩ : ∃ z, zs[i]? = some z := ⟨_, List.getElem?_eq_getElem hlt⟩
      refine J_skip ?_
      refine Q_then ?_
      refine J_seq ?_
      refine J_block ?_
      refine J_seq ?_
      refine J_region ?_
      refine L_pur rfl (p_move rfl) ?_
      refine L_pur rfl (p_move rfl) ?_
      refine L_pur rfl (p_indexAddr rfl rfl Try.underlying23 ty3 (by omega) (by omega)) ?_
      refine L_val rfl (v_loadR1 rfl ty3 (fun w H => hr.old (by repeat (first | with_reducible exact Has.here | with_reducible assumption | with_reducible apply Has.there)) H) (by simp only [Int.toNat_natCast, List.getElem?_map, hzz]; rfl)) ?_
      refine L_op (x_call Try.func23 nm23 bd23 (.cons rfl (.cons rfl .nil)) rfl (number (by omega) (by omega)) fun _ => ?_)
      obtain ⟨n, hn⟩ : ∃ n, n = num z 6 := ⟨_, rfl⟩
      refine J_slot (t := 33) (v := .int .i64 (n : Int)) rfl (by rw [hn]) ?_
      have hsn := idx_snoc (q := isD (1, (w : Int))) xs (dl n i)
      rw [isD_dl, hxl] at hsn
      have hil := idx_lt (q := isD (1, (w : Int))) (xs := xs)
      refine L_pur rfl (p_assign rfl) ?_
      refine L_nil ?_
      refine Q_then ?_
      refine J_seq ?_
      refine J_region ?_
      refine L_pur rfl (p_move rfl) ?_
      refine L_pur rfl (bld36 (.cons rfl (.cons rfl .nil)) (by repeat constructor)) ?_
      refine L_pur rfl (p_move rfl) ?_
      refine L_pur rfl (p_conv rfl Try.underlying3 Try.underlying37) ?_
      refine J_slot (t := 37) (v := .int .u32 (i : Int)) rfl (by rw [wrap32u_of ⟨by omega, by omega⟩]) ?_
      refine L_pur rfl (bld68 (.cons rfl (.cons rfl .nil)) (by repeat constructor)) ?_
      refine L_op (x_call Try.func35 nm35 bd35 (.cons rfl (.cons rfl .nil)) rfl (add (d := dl n i) (by repeat (first | with_reducible exact Pick.here | with_reducible assumption | with_reducible apply Pick.there)) (by omega)) fun _ => ?_)
      refine L_nil ?_
      refine Q_then ?_
      refine J_seq ?_
      refine J_region ?_
      refine L_pur rfl (p_move rfl) ?_
      refine L_pur rfl (p_move rfl) ?_
      refine L_pur rfl (p_eql rfl rfl) ?_
      refine L_pur rfl (p_move rfl) ?_
      refine J_gsplit (t := 43) rfl (fun h43 => ?_) (fun h43 => ?_)
      ·
        refine L_op (G_on rfl rfl rfl ?_)
        refine J_pur (p_move rfl) rfl rfl rfl ?_
        refine L_op (G_on rfl rfl rfl ?_)
        refine J_pur (p_lss rfl rfl) rfl rfl rfl ?_
        refine L_pur rfl (p_pick_t rfl rfl) ?_
        refine L_nil ?_
        refine Q_then ?_
        refine C_split rfl (fun h46 => ?_) (fun h46 => ?_)
        ·
          refine J_region ?_
          refine L_pur rfl (p_move rfl) ?_
          refine L_pur rfl (p_assign rfl) ?_
          refine L_nil ?_
          refine Q_blk_normal ?_
          refine Q_then ?_
          refine J_region ?_
          refine L_pur rfl (p_move rfl) ?_
          refine L_pur rfl (p_add64 rfl rfl (by omega)) ?_
          refine L_pur rfl (p_assign rfl) ?_
          refine L_nil ?_
          refine Q_then ?_
          refine J_slot (t := 7) (v := .int .i64 (idx (isD (1, (w : Int))) (xs ++ [dl n i]))) rfl (by rw [hsn]; congr 1; simp at h43 h46 <;> (repeat' split) <;> first | rfl | omega | simp_all | (simp_all; omega)) ?_
          exact J_again2 (i + 1) (xs ++ [dl n i]) (by omega) (⟨by omega, by simp; omega, fun c hc => (List.mem_append.1 hc).elim (hx c) (fun h => by simp at h; subst h; rfl)⟩) (by repeat (first | exact Sub.nil | exact Sub.refl | refine Sub.cons (by repeat (first | exact Pick.here | apply Pick.there)) ?_ | refine Sub.drop ?_)) (by repeat (first | exact Keep.nil | refine Keep.cons rfl ?_))
        ·
          refine J_skip ?_
          refine Q_blk_normal ?_
          refine Q_then ?_
          refine J_region ?_
          refine L_pur rfl (p_move rfl) ?_
          refine L_pur rfl (p_add64 rfl rfl (by omega)) ?_
          refine L_pur rfl (p_assign rfl) ?_
          refine L_nil ?_
          refine Q_then ?_
          refine J_slot (t := 7) (v := .int .i64 (idx (isD (1, (w : Int))) (xs ++ [dl n i]))) rfl (by rw [hsn]; congr 1; simp at h43 h46 <;> (repeat' split) <;> first | rfl | omega | simp_all | (simp_all; omega)) ?_
          exact J_again2 (i + 1) (xs ++ [dl n i]) (by omega) (⟨by omega, by simp; omega, fun c hc => (List.mem_append.1 hc).elim (hx c) (fun h => by simp at h; subst h; rfl)⟩) (by repeat (first | exact Sub.nil | exact Sub.refl | refine Sub.cons (by repeat (first | exact Pick.here | apply Pick.there)) ?_ | refine Sub.drop ?_)) (by repeat (first | exact Keep.nil | refine Keep.cons rfl ?_))
      ·
        refine L_op (G_off rfl rfl rfl rfl rfl rfl ?_)
        refine L_op (G_off rfl rfl rfl rfl rfl rfl ?_)
        refine L_pur rfl (p_pick_f rfl rfl) ?_
        refine L_nil ?_
        refine Q_then ?_
        refine C_split rfl (fun h46 => ?_) (fun h46 => ?_)
        ·
          refine J_region ?_
          refine L_pur rfl (p_move rfl) ?_
          refine L_pur rfl (p_assign rfl) ?_
          refine L_nil ?_
          refine Q_blk_normal ?_
          refine Q_then ?_
          refine J_region ?_
          refine L_pur rfl (p_move rfl) ?_
          refine L_pur rfl (p_add64 rfl rfl (by omega)) ?_
          refine L_pur rfl (p_assign rfl) ?_
          refine L_nil ?_
          refine Q_then ?_
          refine J_slot (t := 7) (v := .int .i64 (idx (isD (1, (w : Int))) (xs ++ [dl n i]))) rfl (by rw [hsn]; congr 1; simp at h43 h46 <;> (repeat' split) <;> first | rfl | omega | simp_all | (simp_all; omega)) ?_
          exact J_again2 (i + 1) (xs ++ [dl n i]) (by omega) (⟨by omega, by simp; omega, fun c hc => (List.mem_append.1 hc).elim (hx c) (fun h => by simp at h; subst h; rfl)⟩) (by repeat (first | exact Sub.nil | exact Sub.refl | refine Sub.cons (by repeat (first | exact Pick.here | apply Pick.there)) ?_ | refine Sub.drop ?_)) (by repeat (first | exact Keep.nil | refine Keep.cons rfl ?_))
        ·
          refine J_skip ?_
          refine Q_blk_normal ?_
          refine Q_then ?_
          refine J_region ?_
          refine L_pur rfl (p_move rfl) ?_
          refine L_pur rfl (p_add64 rfl rfl (by omega)) ?_
          refine L_pur rfl (p_assign rfl) ?_
          refine L_nil ?_
          refine Q_then ?_
          refine J_slot (t := 7) (v := .int .i64 (idx (isD (1, (w : Int))) (xs ++ [dl n i]))) rfl (by rw [hsn]; congr 1; simp at h43 h46 <;> (repeat' split) <;> first | rfl | omega | simp_all | (simp_all; omega)) ?_
          exact J_again2 (i + 1) (xs ++ [dl n i]) (by omega) (⟨by omega, by simp; omega, fun c hc => (List.mem_append.1 hc).elim (hx c) (fun h => by simp at h; subst h; rfl)⟩) (by repeat (first | exact Sub.nil | exact Sub.refl | refine Sub.cons (by repeat (first | exact Pick.here | apply Pick.there)) ?_ | refine Sub.drop ?_)) (by repeat (first | exact Keep.nil | refine Keep.cons rfl ?_))
    ·
      have hno : idx (isD (2, (w : Int))) xs = -1 := idx_none fun c hc => by simp [isD, hx c hc]
      refine J_exit ?_
      refine Q_then_exit ?_
      refine Q_then_exit ?_
      refine Q_blk_this ?_
      refine Q_then ?_
      refine J_seq ?_
      refine J_region ?_
      refine L_pur rfl (p_move rfl) ?_
      refine L_pur rfl (bld36 (.cons rfl (.cons rfl .nil)) (by repeat constructor)) ?_
      refine L_op (x_call Try.func37 nm37 bd37 (.cons rfl (.cons rfl .nil)) rfl (find (i := (1, (w : Int))) (by repeat (first | with_reducible exact Pick.here | with_reducible assumption | with_reducible apply Pick.there)) (by omega)) fun _ => ?_)
      refine L_pur rfl (p_move rfl) ?_
      refine L_pur rfl (p_extract rfl rfl) ?_
      refine L_pur rfl (p_extract rfl rfl) ?_
      refine L_pur rfl (p_assign rfl) ?_
      refine L_pur rfl (p_assign rfl) ?_
      refine L_nil ?_
      refine Q_then ?_
      refine J_seq ?_
      refine J_region ?_
      refine L_pur rfl (p_move rfl) ?_
      refine L_pur rfl (bld36 (.cons rfl (.cons rfl .nil)) (by repeat constructor)) ?_
      refine L_op (x_call Try.func37 nm37 bd37 (.cons rfl (.cons rfl .nil)) rfl (find (i := (2, (w : Int))) (by repeat (first | with_reducible exact Pick.here | with_reducible assumption | with_reducible apply Pick.there)) (by omega)) fun _ => ?_)
      refine L_pur rfl (p_move rfl) ?_
      refine L_pur rfl (p_extract rfl rfl) ?_
      refine L_pur rfl (p_extract rfl rfl) ?_
      refine L_pur rfl (p_assign rfl) ?_
      refine L_pur rfl (p_assign rfl) ?_
      refine L_nil ?_
      refine Q_then ?_
      refine J_seq ?_
      refine J_region ?_
      refine L_pur rfl (p_move rfl) ?_
      refine L_pur rfl (p_move rfl) ?_
      refine J_bool (t := 61) (c := true) rfl (rfl) ?_
      refine L_op (G_on rfl rfl rfl ?_)
      refine J_pur (p_move rfl) rfl rfl rfl ?_
      refine L_op (G_on rfl rfl rfl ?_)
      refine J_pur (p_move rfl) rfl rfl rfl ?_
      refine L_op (G_on rfl rfl rfl ?_)
      refine J_pur (p_geq rfl rfl) rfl rfl rfl ?_
      refine L_op (G_on rfl rfl rfl ?_)
      refine J_pur (p_eqb Try.underlying4 rfl rfl) rfl rfl rfl ?_
      refine L_pur rfl (p_pick_t rfl rfl) ?_
      refine L_pur rfl (p_move rfl) ?_
      refine J_bool (t := 67) (c := true) rfl (by simp) ?_
      refine L_op (G_on rfl rfl rfl ?_)
      refine J_pur (p_move rfl) rfl rfl rfl ?_
      refine L_op (G_on rfl rfl rfl ?_)
      refine J_pur (p_not rfl) rfl rfl rfl ?_
      refine L_op (G_on rfl rfl rfl ?_)
      refine J_pur (p_move rfl) rfl rfl rfl ?_
      refine J_gsplit (t := 70) rfl (fun h70 => ?_) (fun h70 => ?_)
      ·
        refine L_op (G_off rfl rfl rfl rfl rfl rfl ?_)
        refine L_op (G_off rfl rfl rfl rfl rfl rfl ?_)
        refine L_op (G_off rfl rfl rfl rfl rfl rfl ?_)
        refine L_op (G_on rfl rfl rfl ?_)
        refine J_pur (p_pick_t rfl rfl) rfl rfl rfl ?_
        refine L_pur rfl (p_pick_t rfl rfl) ?_
        refine L_pur rfl (p_move rfl) ?_
        refine L_op (G_on rfl rfl rfl ?_)
        refine J_pur (p_move rfl) rfl rfl rfl ?_
        refine L_op (G_on rfl rfl rfl ?_)
        refine J_pur (p_move rfl) rfl rfl rfl ?_
        refine J_gsplit (t := 78) rfl (fun h78 => ?_) (fun h78 => ?_)
        ·
          refine L_op (G_off rfl rfl rfl rfl rfl rfl ?_)
          refine L_op (G_off rfl rfl rfl rfl rfl rfl ?_)
          refine L_op (G_on rfl rfl rfl ?_)
          refine J_pur (p_pick_t rfl rfl) rfl rfl rfl ?_
          refine L_pur rfl (p_pick_t rfl rfl) ?_
          refine L_pur rfl (p_move rfl) ?_
          refine L_op (G_on rfl rfl rfl ?_)
          refine J_pur (p_move rfl) rfl rfl rfl ?_
          refine L_op (G_on rfl rfl rfl ?_)
          refine J_pur (p_not rfl) rfl rfl rfl ?_
          refine L_pur rfl (p_pick_t rfl rfl) ?_
          refine J_bool (t := 86) (c := true) rfl (by simp [hno]) ?_
          refine L_pur rfl (p_assign rfl) ?_
          refine L_nil ?_
          refine Q_then ?_
          refine J_ret ?_
          exact J_return (()) Try.results8 (.tmp rfl .nil) rfl (by repeat (first | exact Sub.nil | exact Sub.refl | refine Sub.cons (by repeat (first | exact Pick.here | apply Pick.there)) ?_ | refine Sub.drop ?_))
        ·
          refine L_op (G_on rfl rfl rfl ?_)
          refine J_pur (p_move rfl) rfl rfl rfl ?_
          refine L_op (G_on rfl rfl rfl ?_)
          refine J_pur (p_eql rfl rfl) rfl rfl rfl ?_
          refine L_op (G_on rfl rfl rfl ?_)
          refine J_pur (p_pick_f rfl rfl) rfl rfl rfl ?_
          refine L_pur rfl (p_pick_t rfl rfl) ?_
          refine L_pur rfl (p_move rfl) ?_
          refine J_bool (t := 83) (c := true) rfl (by first | rfl | (simp at h78; unfold fAt; rw [if_pos (by omega)]; rfl)) ?_
          refine L_op (G_on rfl rfl rfl ?_)
          refine J_pur (p_move rfl) rfl rfl rfl ?_
          refine L_op (G_on rfl rfl rfl ?_)
          refine J_pur (p_not rfl) rfl rfl rfl ?_
          refine L_pur rfl (p_pick_t rfl rfl) ?_
          refine J_bool (t := 86) (c := true) rfl (by simp [hno]) ?_
          refine L_pur rfl (p_assign rfl) ?_
          refine L_nil ?_
          refine Q_then ?_
          refine J_ret ?_
          exact J_return (()) Try.results8 (.tmp rfl .nil) rfl (by repeat (first | exact Sub.nil | exact Sub.refl | refine Sub.cons (by repeat (first | exact Pick.here | apply Pick.there)) ?_ | refine Sub.drop ?_))
      ·
        refine L_op (G_on rfl rfl rfl ?_)
        refine J_pur (p_move rfl) rfl rfl rfl ?_
        refine L_op (G_on rfl rfl rfl ?_)
        refine J_pur (p_move rfl) rfl rfl rfl ?_
        refine L_op (G_on rfl rfl rfl ?_)
        refine J_pur (p_eql rfl rfl) rfl rfl rfl ?_
        refine L_op (G_on rfl rfl rfl ?_)
        refine J_pur (p_pick_f rfl rfl) rfl rfl rfl ?_
        refine L_pur rfl (p_pick_t rfl rfl) ?_
        refine L_pur rfl (p_move rfl) ?_
        refine J_bool (t := 76) (c := true) rfl (by first | rfl | (simp at h70; unfold fAt; rw [if_neg (by omega)]; simp)) ?_
        refine L_op (G_on rfl rfl rfl ?_)
        refine J_pur (p_move rfl) rfl rfl rfl ?_
        refine L_op (G_on rfl rfl rfl ?_)
        refine J_pur (p_move rfl) rfl rfl rfl ?_
        refine J_gsplit (t := 78) rfl (fun h78 => ?_) (fun h78 => ?_)
        ·
          refine L_op (G_off rfl rfl rfl rfl rfl rfl ?_)
          refine L_op (G_off rfl rfl rfl rfl rfl rfl ?_)
          refine L_op (G_on rfl rfl rfl ?_)
          refine J_pur (p_pick_t rfl rfl) rfl rfl rfl ?_
          refine L_pur rfl (p_pick_t rfl rfl) ?_
          refine L_pur rfl (p_move rfl) ?_
          refine L_op (G_on rfl rfl rfl ?_)
          refine J_pur (p_move rfl) rfl rfl rfl ?_
          refine L_op (G_on rfl rfl rfl ?_)
          refine J_pur (p_not rfl) rfl rfl rfl ?_
          refine L_pur rfl (p_pick_t rfl rfl) ?_
          refine J_bool (t := 86) (c := true) rfl (by simp [hno]) ?_
          refine L_pur rfl (p_assign rfl) ?_
          refine L_nil ?_
          refine Q_then ?_
          refine J_ret ?_
          exact J_return (()) Try.results8 (.tmp rfl .nil) rfl (by repeat (first | exact Sub.nil | exact Sub.refl | refine Sub.cons (by repeat (first | exact Pick.here | apply Pick.there)) ?_ | refine Sub.drop ?_))
        ·
          refine L_op (G_on rfl rfl rfl ?_)
          refine J_pur (p_move rfl) rfl rfl rfl ?_
          refine L_op (G_on rfl rfl rfl ?_)
          refine J_pur (p_eql rfl rfl) rfl rfl rfl ?_
          refine L_op (G_on rfl rfl rfl ?_)
          refine J_pur (p_pick_f rfl rfl) rfl rfl rfl ?_
          refine L_pur rfl (p_pick_t rfl rfl) ?_
          refine L_pur rfl (p_move rfl) ?_
          refine J_bool (t := 83) (c := true) rfl (by first | rfl | (simp at h78; unfold fAt; rw [if_pos (by omega)]; rfl)) ?_
          refine L_op (G_on rfl rfl rfl ?_)
          refine J_pur (p_move rfl) rfl rfl rfl ?_
          refine L_op (G_on rfl rfl rfl ?_)
          refine J_pur (p_not rfl) rfl rfl rfl ?_
          refine L_pur rfl (p_pick_t rfl rfl) ?_
          refine J_bool (t := 86) (c := true) rfl (by simp [hno]) ?_
          refine L_pur rfl (p_assign rfl) ?_
          refine L_nil ?_
          refine Q_then ?_
          refine J_ret ?_
          exact J_return (()) Try.results8 (.tmp rfl .nil) rfl (by repeat (first | exact Sub.nil | exact Sub.refl | refine Sub.cons (by repeat (first | exact Pick.here | apply Pick.there)) ?_ | refine Sub.drop ?_))

end Go.Pse
