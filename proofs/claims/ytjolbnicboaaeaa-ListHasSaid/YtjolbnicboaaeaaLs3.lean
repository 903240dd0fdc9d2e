/-
  The law on whatever comes and goes.
-/
import Derived.Test.YtjolbnicboaaeaaLs2
import Derived.Test.YtjolbnicboaaeaaArg
namespace Go.Pse
open Go.RowKit Go.Proofs

theorem J_lsNew {E : World} {l : List As} {n : Nat} {F : Env} {K : Act → World → Prop} {b : Nat} (k : Jk E (lsA b 0 [] :: l) n F K) : Jk E (blk b 83 [.slice none 0 0, .map none] :: l) n F K :=
  J_fld (J_nil (el := 36) (sz := 2) (J_mapNil (ek := kI) (ev := evB) (J_lsS (b := b) (o := 0) (xs := []) _ _ _ (.cons (.there (.there .here)) (.cons (.there .here) (.cons .here .nil))) Who.nil k)))
theorem J_rlNew {E : World} {l : List As} {n : Nat} {F : Env} {K : Act → World → Prop} {b : Nat} (k : Jk E (rlA b 0 [] :: l) n F K) : Jk E (blk b 91 [.slice none 0 0] :: l) n F K :=
  J_fld (J_nil (el := 36) (sz := 2) (J_rlS (b := b) (o := 0) (xs := []) _ (.cons (.there .here) (.cons .here .nil)) List.nodup_nil k))
abbrev DoL := Int × Int × Int
def encDo (d : DoL) : List Value := [.int .i64 d.1, .int .i64 d.2.1, .int .i64 d.2.2]

set_option maxRecDepth 100000 in
set_option maxHeartbeats 4000000 in
theorem first12 {E : World} {l : List As} :
    Con Try.prog 45 #[] E l (fun _ : Unit => .bool true) (fun _ => l) := by
  refine Con.body (vs := []) (n := 23) Try.func45 rfl rfl [] (env_ok 0 rfl) ?_
  refine J_seq ?_
  refine J_region ?_
  refine L_pur rfl (p_assign rfl) ?_
  refine L_nil ?_
  refine Q_then ?_
  refine J_seq ?_
  refine J_region ?_
  refine L_op (x_alloc ty83 rfl fun b1 => ?_)
  refine J_lsNew ?_
  refine L_nil ?_
  refine Q_then ?_
  refine J_seq ?_
  refine J_region ?_
  refine L_op (x_call Try.func48 nm48 bd48 (.cons rfl .nil) rfl (lPop (xs := []) (by repeat (first | with_reducible exact Pick.here | with_reducible assumption | with_reducible apply Pick.there)) (by simp)) fun _ => ?_)
  refine J_asTo (B := lsA b1 0 []) (rfl) ?_
  refine L_pur rfl (p_move rfl) ?_
  refine L_pur rfl (p_extract rfl rfl) ?_
  refine L_pur rfl (p_extract rfl rfl) ?_
  refine L_op (x_alloc ty36 rfl fun b2 => ?_)
  refine L_op (x_store rfl rfl ty36 rfl (by first | rfl | (simp [*]; done)) (by first | rfl | (simp [*]; done)) (by repeat (first | with_reducible exact Rep1.here | with_reducible apply Rep1.there)) (by first | exact Put.full rfl | ((repeat constructor); done) | exact Put.full (by first | rfl | simp [*])) ?_)
  refine L_pur rfl (p_assign rfl) ?_
  refine L_nil ?_
  refine Q_then ?_
  refine J_seq ?_
  refine J_region ?_
  refine L_pur rfl (p_move rfl) ?_
  refine L_pur rfl (p_not rfl) ?_
  refine L_pur rfl (p_move rfl) ?_
  refine J_bool (t := 10) (c := true) rfl (rfl) ?_
  refine L_op (G_on rfl rfl rfl ?_)
  refine J_pur (bld36 (.cons rfl (.cons rfl .nil)) (by repeat constructor)) rfl rfl rfl ?_
  refine L_op (G_on rfl rfl rfl ?_)
  refine x_call Try.func46 nm46 bd46 (.cons rfl (.cons rfl .nil)) rfl (lPush (xs := []) (by repeat (first | with_reducible exact Pick.here | with_reducible assumption | with_reducible apply Pick.there)) (by simp) (1, 2)) fun _ => ?_
  refine J_asTo (B := lsA b1 0 [(1, 2)]) (rfl) ?_
  refine L_pur rfl (p_pick_t rfl rfl) ?_
  refine L_pur rfl (p_move rfl) ?_
  refine J_bool (t := 14) (c := true) rfl (rfl) ?_
  refine L_op (G_on rfl rfl rfl ?_)
  refine J_pur (bld36 (.cons rfl (.cons rfl .nil)) (by repeat constructor)) rfl rfl rfl ?_
  refine L_op (G_on rfl rfl rfl ?_)
  refine x_call Try.func46 nm46 bd46 (.cons rfl (.cons rfl .nil)) rfl (lPush (xs := [(1, 2)]) (by repeat (first | with_reducible exact Pick.here | with_reducible assumption | with_reducible apply Pick.there)) (by simp) (1, 2)) fun _ => ?_
  refine J_asTo (B := lsA b1 0 [(1, 2)]) (by simp [lpush]) ?_
  refine L_op (G_on rfl rfl rfl ?_)
  refine J_pur (p_not rfl) rfl rfl rfl ?_
  refine L_pur rfl (p_pick_t rfl rfl) ?_
  refine L_pur rfl (p_move rfl) ?_
  refine J_bool (t := 19) (c := true) rfl (by simp) ?_
  refine L_op (G_on rfl rfl rfl ?_)
  refine x_call Try.func49 nm49 bd49 (.cons rfl .nil) rfl (lLen (xs := [(1, 2)]) (by repeat (first | with_reducible exact Pick.here | with_reducible assumption | with_reducible apply Pick.there)) (by simp)) fun _ => ?_
  refine L_op (G_on rfl rfl rfl ?_)
  refine J_pur (p_eql rfl rfl) rfl rfl rfl ?_
  refine L_pur rfl (p_pick_t rfl rfl) ?_
  refine J_bool (t := 22) (c := true) rfl (by simp) ?_
  refine L_pur rfl (p_assign rfl) ?_
  refine L_nil ?_
  refine Q_then ?_
  refine J_ret ?_
  exact J_return (()) Try.results45 (.tmp rfl .nil) rfl (by repeat (first | exact Sub.nil | exact Sub.refl | refine Sub.cons (by repeat (first | exact Pick.here | apply Pick.there)) ?_ | refine Sub.drop ?_))

set_option maxRecDepth 100000 in
set_option maxHeartbeats 4000000 in
theorem listPlays {E W : World} {v : Value} {ds : List DoL} (hr : Reads W 3 v (ds.map encDo)) :
    Con Try.prog 10 #[v] E [old W] (fun _ : Unit => .bool true) (fun _ => [old W]) := by
  refine Con.body (vs := [v]) (n := 92) Try.func10 rfl rfl [(0, v)] (env_ok 1 rfl) ?_
  refine J_readsB (fun w H => hr.old (by repeat (first | with_reducible exact Has.here | with_reducible assumption | with_reducible apply Has.there)) H) fun hw a cap hv h1 h2 h3 => ?_
  subst hv
  have hm : cap ≤ 9223372036854775807 := h2
  have hml : (ds.map encDo).length = ds.length := List.length_map _
  refine J_seq ?_
  refine J_region ?_
  refine L_pur rfl (p_assign rfl) ?_
  refine L_nil ?_
  refine Q_then ?_
  refine J_seq ?_
  refine J_region ?_
  refine L_op (x_call Try.func45 nm45 bd45 .nil rfl (first12) fun _ => ?_)
  refine L_pur rfl (p_assign rfl) ?_
  refine L_nil ?_
  refine Q_then ?_
  refine J_seq ?_
  refine J_seq ?_
  refine J_region ?_
  refine L_pur rfl (p_move rfl) ?_
  refine L_pur rfl (p_not rfl) ?_
  refine L_nil ?_
  refine Q_then ?_
  refine J_bool (t := 14) (c := false) rfl (rfl) ?_
  refine C_false rfl ?_
  refine J_skip ?_
  refine Q_then ?_
  refine J_seq ?_
  refine J_seq ?_
  refine J_region ?_
  refine L_pur rfl (p_move rfl) ?_
  refine L_pur rfl (p_len rfl Try.underlying89) ?_
  refine L_pur rfl (p_gtr rfl rfl) ?_
  refine L_nil ?_
  refine Q_then ?_
  refine C_dec rfl (fun h17 => ?_) (fun h17 => ?_)
  ·
    refine J_seq ?_
    refine J_region ?_
    refine L_pur rfl (p_move rfl) ?_
    refine L_pur rfl (p_assign rfl) ?_
    refine L_nil ?_
    refine Q_then ?_
    refine J_ret ?_
    refine Q_then_ret ?_
    exact J_return (()) Try.results10 (.tmp rfl .nil) rfl (by repeat (first | exact Sub.nil | exact Sub.refl | refine Sub.cons (by repeat (first | exact Pick.here | apply Pick.there)) ?_ | refine Sub.drop ?_))
  ·
    refine J_skip ?_
    refine Q_then ?_
    refine J_seq ?_
    refine J_region ?_
    refine L_op (x_alloc ty83 rfl fun b4 => ?_)
    refine J_lsNew ?_
    refine L_nil ?_
    refine Q_then ?_
    refine J_seq ?_
    refine J_region ?_
    refine L_op (x_alloc ty91 rfl fun b5 => ?_)
    refine J_rlNew ?_
    refine L_nil ?_
    refine Q_then ?_
    refine J_seq ?_
    refine J_seq ?_
    refine J_region ?_
    refine L_pur rfl (p_assign rfl) ?_
    refine L_nil ?_
    refine Q_then ?_
    refine J_block ?_
    refine J_loop2 (fun i xs => i ≤ ds.length ∧ xs.length ≤ i) (fun i xs => [lsA b4 0 xs, rlA b5 0 xs, old W]) (fun i xs => [(6, .int .i64 (i : Int)), (0, .slice a (ds.map encDo).length cap), (3, .bool true), (4, .pointer (some ⟨b4, 0, none⟩)), (5, .pointer (some ⟨b5, 0, none⟩))]) (fun i xs => ds.length - i) 0 ([] : List ID) ⟨by omega, by simp⟩ (by repeat (first | exact Sub.nil | exact Sub.refl | refine Sub.cons (by repeat (first | exact Pick.here | apply Pick.there)) ?_ | refine Sub.drop ?_)) (by repeat (first | exact Keep.nil | refine Keep.cons rfl ?_)) ?_
    intro i xs ⟨hi, hxs⟩
    refine J_seq ?_
    refine J_seq ?_
    refine J_region ?_
    refine L_pur rfl (p_move rfl) ?_
    refine L_pur rfl (p_move rfl) ?_
    refine L_pur rfl (p_len rfl Try.underlying89) ?_
    refine L_pur rfl (p_lss rfl rfl) ?_
    refine L_nil ?_
    refine Q_then ?_
    refine C_dec rfl (fun h22 => ?_) (fun h22 => ?_)
    ·
      have hlt : i < ds.length := by omega
      obtain ⟨bx, ox, rfl⟩ := h3 (by intro h; rw [h] at hml; simp at hml; omega)
      obtain ⟨c, hcc⟩ : ∃ c, ds[i]? = some c := ⟨_, List.getElem?_eq_getElem hlt⟩
      obtain ⟨id, hid⟩ : ∃ id : ID, id = (c.2.1, c.2.2) := ⟨_, rfl⟩
      refine J_skip ?_
      refine Q_then ?_
      refine J_seq ?_
      refine J_block ?_
      refine J_seq ?_
      refine J_drawI [old W] mixed ?_
      refine I_take (i := 0) rfl rfl rfl rfl (by kernel_rfl) (by kernel_rfl) (by kernel_rfl) (fun _ _ _ _ h => h) (fun _ => Pur.vl (p_move rfl)) ?_
      refine I_take (i := 1) rfl rfl rfl rfl (by kernel_rfl) (by kernel_rfl) (by kernel_rfl) (fun _ _ _ _ h => h) (fun _ => Pur.vl (p_move rfl)) ?_
      refine I_take (i := 2) rfl rfl rfl rfl (by kernel_rfl) (by kernel_rfl) (by kernel_rfl) (fun _ _ _ _ h => h) (fun _ => Pur.vl (p_indexAddr rfl rfl Try.underlying89 ty93 (by omega) (by omega))) ?_
      refine I_take (i := 3) rfl rfl rfl rfl (by kernel_rfl) (by kernel_rfl) (by kernel_rfl) (fun _ _ _ _ h => h) (fun _ => Pur.vl (p_fieldAddr rfl fa93_1)) ?_
      refine I_take (i := 4) rfl rfl rfl rfl (by kernel_rfl) (by kernel_rfl) (by kernel_rfl) (fun _ _ _ _ h => h) (fun _ => v_loadRF rfl ty3 (fun w H => hr.old (by repeat (first | with_reducible exact Has.here | with_reducible assumption | with_reducible apply Has.there)) H) (by first | (simp only [Int.toNat_natCast, List.getElem?_map, hcc]; rfl) | (simp only [Int.toNat_natCast, List.getElem?_map, hcd]; rfl) | simp | rfl) (by exact rfl)) ?_
      refine I_take (i := 5) rfl rfl rfl rfl (by kernel_rfl) (by kernel_rfl) (by kernel_rfl) (fun _ _ _ _ h => h) (fun _ => Pur.vl (p_move rfl)) ?_
      refine I_take (i := 6) rfl rfl rfl rfl (by kernel_rfl) (by kernel_rfl) (by kernel_rfl) (fun _ _ _ _ h => h) (fun _ => Pur.vl (p_move rfl)) ?_
      refine I_take (i := 7) rfl rfl rfl rfl (by kernel_rfl) (by kernel_rfl) (by kernel_rfl) (fun _ _ _ _ h => h) (fun _ => Pur.vl (p_indexAddr rfl rfl Try.underlying89 ty93 (by omega) (by omega))) ?_
      refine I_take (i := 8) rfl rfl rfl rfl (by kernel_rfl) (by kernel_rfl) (by kernel_rfl) (fun _ _ _ _ h => h) (fun _ => Pur.vl (p_fieldAddr rfl fa93_2)) ?_
      refine I_take (i := 9) rfl rfl rfl rfl (by kernel_rfl) (by kernel_rfl) (by kernel_rfl) (fun _ _ _ _ h => h) (fun _ => v_loadRF rfl ty3 (fun w H => hr.old (by repeat (first | with_reducible exact Has.here | with_reducible assumption | with_reducible apply Has.there)) H) (by first | (simp only [Int.toNat_natCast, List.getElem?_map, hcc]; rfl) | (simp only [Int.toNat_natCast, List.getElem?_map, hcd]; rfl) | simp | rfl) (by exact rfl)) ?_
      refine I_take (i := 10) rfl rfl rfl rfl (by kernel_rfl) (by kernel_rfl) (by kernel_rfl) (fun _ _ _ _ h => h) (fun _ => Pur.vl (bld36 (.cons rfl (.cons rfl .nil)) (by repeat constructor))) ?_
      refine I_one (i := 11) (by repeat (first | exact Sub.nil | exact Sub.refl | refine Sub.cons (by repeat (first | exact Pick.here | apply Pick.there)) ?_ | refine Sub.drop ?_)) (by kernel_rfl) rfl ?_
      refine x_alloc ty36 rfl fun b7 => ?_
      refine I_one (i := 12) (by repeat (first | exact Sub.nil | exact Sub.refl | refine Sub.cons (by repeat (first | exact Pick.here | apply Pick.there)) ?_ | refine Sub.drop ?_)) (by kernel_rfl) rfl ?_
      refine x_store rfl rfl ty36 rfl (by first | rfl | (simp [*]; done)) (by first | rfl | (simp [*]; done)) (by repeat (first | with_reducible exact Rep1.here | with_reducible apply Rep1.there)) (by first | exact Put.full rfl | ((repeat constructor); done) | exact Put.full (by first | rfl | simp [*])) ?_
      refine J_pick (A := blk b7 36 _) (by repeat (first | with_reducible exact Pick.here | with_reducible assumption | with_reducible apply Pick.there)) ?_
      refine J_asTo (B := blk b7 36 (encI id)) (by rw [hid]; rfl) ?_
      refine I_done (by repeat (first | exact Sub.nil | exact Sub.refl | refine Sub.cons (by repeat (first | exact Pick.here | apply Pick.there)) ?_ | refine Sub.drop ?_)) (by kernel_rfl) ?_
      refine Q_then ?_
      refine J_cut (fun z : List ID => As.pure (z.length ≤ i + 1) :: lsA b4 0 z :: rlA b5 0 z :: blk b7 36 (encI id) :: [old W]) (fun z : List ID => [(6, .int .i64 (i : Int)), (0, .slice (some ⟨bx, ox, none⟩) (ds.map encDo).length cap), (3, .bool true), (4, .pointer (some ⟨b4, 0, none⟩)), (5, .pointer (some ⟨b5, 0, none⟩)), (7, .pointer (some ⟨b7, 0, none⟩))]) ?_ ?_
      ·
        refine J_seq ?_
        refine J_region ?_
        refine L_pur rfl (p_move rfl) ?_
        refine L_pur rfl (p_move rfl) ?_
        refine L_pur rfl (p_indexAddr rfl rfl Try.underlying89 ty93 (by omega) (by omega)) ?_
        refine L_pur rfl (p_fieldAddr rfl fa93_0) ?_
        refine L_val rfl (by first | exact v_loadF rfl ty3 (by repeat (first | with_reducible exact Has.here | with_reducible assumption | with_reducible apply Has.there)) (by first | (simp only [Int.toNat_natCast, List.getElem?_map, hcc]; rfl) | (simp only [Int.toNat_natCast, List.getElem?_map, hcd]; rfl) | simp | rfl) (by exact rfl) | exact v_loadRF rfl ty3 (fun w H => hr.old (by repeat (first | with_reducible exact Has.here | with_reducible assumption | with_reducible apply Has.there)) H) (by first | (simp only [Int.toNat_natCast, List.getElem?_map, hcc]; rfl) | (simp only [Int.toNat_natCast, List.getElem?_map, hcd]; rfl) | simp | rfl) (by exact rfl)) ?_
        refine L_op (x_call Try.func23 nm23 bd23 (.cons rfl (.cons rfl .nil)) rfl (number (by omega) (by omega)) fun _ => ?_)
        refine L_nil ?_
        refine Q_then ?_
        refine J_block ?_
        refine J_seq ?_
        refine J_region ?_
        refine L_pur rfl (p_eql rfl rfl) ?_
        refine L_pur rfl (p_assign rfl) ?_
        refine L_nil ?_
        refine Q_then ?_
        refine C_dec rfl (fun h47 => ?_) (fun h47 => ?_)
        ·
          refine J_seq ?_
          refine J_region ?_
          refine L_op (x_call Try.func48 nm48 bd48 (.cons rfl .nil) rfl (lPop (xs := xs) (by repeat (first | with_reducible exact Pick.here | with_reducible assumption | with_reducible apply Pick.there)) (by omega)) fun _ => ?_)
          refine L_pur rfl (p_move rfl) ?_
          refine L_pur rfl (p_extract rfl rfl) ?_
          refine L_pur rfl (p_extract rfl rfl) ?_
          refine L_op (x_alloc ty36 rfl fun b8 => ?_)
          refine L_op (x_store rfl rfl ty36 rfl (by first | rfl | (simp [*]; done)) (by first | rfl | (simp [*]; done)) (by repeat (first | with_reducible exact Rep1.here | with_reducible apply Rep1.there)) (by first | exact Put.full rfl | ((repeat constructor); done) | exact Put.full (by first | rfl | simp [*])) ?_)
          refine L_pur rfl (p_assign rfl) ?_
          refine L_nil ?_
          refine Q_then ?_
          refine J_seq ?_
          refine J_region ?_
          refine L_op (x_call Try.func50 nm50 bd50 (.cons rfl .nil) rfl (rlPop (xs := xs) (by repeat (first | with_reducible exact Pick.here | with_reducible assumption | with_reducible apply Pick.there)) (by omega)) fun _ => ?_)
          refine L_pur rfl (p_move rfl) ?_
          refine L_pur rfl (p_extract rfl rfl) ?_
          refine L_pur rfl (p_extract rfl rfl) ?_
          refine L_op (x_alloc ty36 rfl fun b10 => ?_)
          refine L_op (x_store rfl rfl ty36 rfl (by first | rfl | (simp [*]; done)) (by first | rfl | (simp [*]; done)) (by repeat (first | with_reducible exact Rep1.here | with_reducible apply Rep1.there)) (by first | exact Put.full rfl | ((repeat constructor); done) | exact Put.full (by first | rfl | simp [*])) ?_)
          refine L_pur rfl (p_assign rfl) ?_
          refine L_nil ?_
          refine Q_then ?_
          refine J_seq ?_
          refine J_region ?_
          refine L_val rfl (v_loadA rfl ty36 (by repeat (first | with_reducible exact Has.here | with_reducible assumption | with_reducible apply Has.there)) (by first | exact Cut.full rfl | ((repeat constructor); done) | exact Cut.full (by first | rfl | simp [*]))) ?_
          refine L_val rfl (v_loadA rfl ty36 (by repeat (first | with_reducible exact Has.here | with_reducible assumption | with_reducible apply Has.there)) (by first | exact Cut.full rfl | ((repeat constructor); done) | exact Cut.full (by first | rfl | simp [*]))) ?_
          refine L_pur rfl (p_nev rfl rfl (fun w => eg36 _ _ _ _ _ w) (fun w => nev36 _ _ _ _ w)) ?_
          refine L_pur rfl (p_move rfl) ?_
          refine J_bool (t := 60) (c := false) rfl (by simp) ?_
          refine L_op (G_on rfl rfl rfl ?_)
          refine J_pur (p_move rfl) rfl rfl rfl ?_
          refine L_op (G_on rfl rfl rfl ?_)
          refine J_pur (p_move rfl) rfl rfl rfl ?_
          refine L_op (G_on rfl rfl rfl ?_)
          refine J_pur (p_neb Try.underlying4 rfl rfl) rfl rfl rfl ?_
          refine L_pur rfl (p_pick_f rfl rfl) ?_
          refine L_nil ?_
          refine Q_then ?_
          refine J_bool (t := 64) (c := false) rfl (by simp) ?_
          refine C_false rfl ?_
          refine J_skip ?_
          refine Q_blk_normal ?_
          refine Q_then ?_
          refine J_pure_in (p := xs.tail.length ≤ i + 1) (by simp; omega) ?_
          exact J_at (L := (fun z : List ID => As.pure (z.length ≤ i + 1) :: lsA b4 0 z :: rlA b5 0 z :: blk b7 36 (encI id) :: [old W])) (G := (fun z : List ID => [(6, .int .i64 (i : Int)), (0, .slice (some ⟨bx, ox, none⟩) (ds.map encDo).length cap), (3, .bool true), (4, .pointer (some ⟨b4, 0, none⟩)), (5, .pointer (some ⟨b5, 0, none⟩)), (7, .pointer (some ⟨b7, 0, none⟩))])) xs.tail (by repeat (first | exact Sub.nil | exact Sub.refl | refine Sub.cons (by repeat (first | exact Pick.here | apply Pick.there)) ?_ | refine Sub.drop ?_)) (by repeat (first | exact Keep.nil | refine Keep.cons rfl ?_))
        ·
          refine J_seq ?_
          refine J_region ?_
          refine L_pur rfl (p_eql rfl rfl) ?_
          refine L_pur rfl (p_assign rfl) ?_
          refine L_nil ?_
          refine Q_then ?_
          refine C_dec rfl (fun h65 => ?_) (fun h65 => ?_)
          ·
            refine J_seq ?_
            refine J_drawI [blk b7 36 (encI id)] mixed ?_
            refine I_take (i := 0) rfl rfl rfl rfl (by kernel_rfl) (by kernel_rfl) (by kernel_rfl) (fun _ _ _ _ h => h) (fun _ => v_loadA rfl ty36 (by repeat (first | with_reducible exact Has.here | with_reducible assumption | with_reducible apply Has.there)) (by first | exact Cut.full rfl | ((repeat constructor); done) | exact Cut.full (by first | rfl | simp [*]))) ?_
            refine I_take (i := 2) rfl rfl rfl rfl (by kernel_rfl) (by kernel_rfl) (by kernel_rfl) (fun _ _ _ _ h => h) (fun _ => v_loadA rfl ty36 (by repeat (first | with_reducible exact Has.here | with_reducible assumption | with_reducible apply Has.there)) (by first | exact Cut.full rfl | ((repeat constructor); done) | exact Cut.full (by first | rfl | simp [*]))) ?_
            refine I_one (i := 1) (by repeat (first | exact Sub.nil | exact Sub.refl | refine Sub.cons (by repeat (first | exact Pick.here | apply Pick.there)) ?_ | refine Sub.drop ?_)) (by kernel_rfl) rfl ?_
            refine x_call Try.func47 nm47 bd47 (.cons rfl (.cons rfl .nil)) rfl (lDrop (xs := xs) (i := id) (by repeat (first | with_reducible exact Pick.here | with_reducible assumption | with_reducible apply Pick.there)) (by omega)) fun _ => ?_
            refine I_one (i := 3) (by repeat (first | exact Sub.nil | exact Sub.refl | refine Sub.cons (by repeat (first | exact Pick.here | apply Pick.there)) ?_ | refine Sub.drop ?_)) (by kernel_rfl) rfl ?_
            refine x_call Try.func51 nm51 bd51 (.cons rfl (.cons rfl .nil)) rfl (rlDrop (xs := xs) (i := id) (by repeat (first | with_reducible exact Pick.here | with_reducible assumption | with_reducible apply Pick.there)) (by omega)) fun _ => ?_
            refine I_take (i := 4) rfl rfl rfl rfl (by kernel_rfl) (by kernel_rfl) (by kernel_rfl) (fun _ _ _ _ h => h) (fun _ => Pur.vl (p_neb Try.underlying4 rfl rfl)) ?_
            refine I_done (by repeat (first | exact Sub.nil | exact Sub.refl | refine Sub.cons (by repeat (first | exact Pick.here | apply Pick.there)) ?_ | refine Sub.drop ?_)) (by kernel_rfl) ?_
            refine Q_then ?_
            refine J_bool (t := 71) (c := false) rfl (by simp) ?_
            refine C_false rfl ?_
            refine J_skip ?_
            refine Q_blk_normal ?_
            refine Q_then ?_
            refine J_pure_in (p := (ldrop xs id).length ≤ i + 1) (by have := ldrop_len xs id; omega) ?_
            exact J_at (L := (fun z : List ID => As.pure (z.length ≤ i + 1) :: lsA b4 0 z :: rlA b5 0 z :: blk b7 36 (encI id) :: [old W])) (G := (fun z : List ID => [(6, .int .i64 (i : Int)), (0, .slice (some ⟨bx, ox, none⟩) (ds.map encDo).length cap), (3, .bool true), (4, .pointer (some ⟨b4, 0, none⟩)), (5, .pointer (some ⟨b5, 0, none⟩)), (7, .pointer (some ⟨b7, 0, none⟩))])) (ldrop xs id) (by repeat (first | exact Sub.nil | exact Sub.refl | refine Sub.cons (by repeat (first | exact Pick.here | apply Pick.there)) ?_ | refine Sub.drop ?_)) (by repeat (first | exact Keep.nil | refine Keep.cons rfl ?_))
          ·
            refine J_seq ?_
            refine J_drawI [blk b7 36 (encI id)] mixed ?_
            refine I_take (i := 0) rfl rfl rfl rfl (by kernel_rfl) (by kernel_rfl) (by kernel_rfl) (fun _ _ _ _ h => h) (fun _ => v_loadA rfl ty36 (by repeat (first | with_reducible exact Has.here | with_reducible assumption | with_reducible apply Has.there)) (by first | exact Cut.full rfl | ((repeat constructor); done) | exact Cut.full (by first | rfl | simp [*]))) ?_
            refine I_take (i := 2) rfl rfl rfl rfl (by kernel_rfl) (by kernel_rfl) (by kernel_rfl) (fun _ _ _ _ h => h) (fun _ => v_loadA rfl ty36 (by repeat (first | with_reducible exact Has.here | with_reducible assumption | with_reducible apply Has.there)) (by first | exact Cut.full rfl | ((repeat constructor); done) | exact Cut.full (by first | rfl | simp [*]))) ?_
            refine I_one (i := 1) (by repeat (first | exact Sub.nil | exact Sub.refl | refine Sub.cons (by repeat (first | exact Pick.here | apply Pick.there)) ?_ | refine Sub.drop ?_)) (by kernel_rfl) rfl ?_
            refine x_call Try.func46 nm46 bd46 (.cons rfl (.cons rfl .nil)) rfl (lPush (xs := xs) (i := id) (by repeat (first | with_reducible exact Pick.here | with_reducible assumption | with_reducible apply Pick.there)) (by omega)) fun _ => ?_
            refine I_one (i := 3) (by repeat (first | exact Sub.nil | exact Sub.refl | refine Sub.cons (by repeat (first | exact Pick.here | apply Pick.there)) ?_ | refine Sub.drop ?_)) (by kernel_rfl) rfl ?_
            refine x_call Try.func52 nm52 bd52 (.cons rfl (.cons rfl .nil)) rfl (rlPush (xs := xs) (i := id) (by repeat (first | with_reducible exact Pick.here | with_reducible assumption | with_reducible apply Pick.there)) (by omega)) fun _ => ?_
            refine I_take (i := 4) rfl rfl rfl rfl (by kernel_rfl) (by kernel_rfl) (by kernel_rfl) (fun _ _ _ _ h => h) (fun _ => Pur.vl (p_neb Try.underlying4 rfl rfl)) ?_
            refine I_done (by repeat (first | exact Sub.nil | exact Sub.refl | refine Sub.cons (by repeat (first | exact Pick.here | apply Pick.there)) ?_ | refine Sub.drop ?_)) (by kernel_rfl) ?_
            refine Q_then ?_
            refine J_bool (t := 46) (c := false) rfl (by simp) ?_
            refine C_false rfl ?_
            refine J_skip ?_
            refine Q_blk_normal ?_
            refine Q_then ?_
            refine J_pure_in (p := (lpush xs id).length ≤ i + 1) (by have := lpush_len xs id; omega) ?_
            exact J_at (L := (fun z : List ID => As.pure (z.length ≤ i + 1) :: lsA b4 0 z :: rlA b5 0 z :: blk b7 36 (encI id) :: [old W])) (G := (fun z : List ID => [(6, .int .i64 (i : Int)), (0, .slice (some ⟨bx, ox, none⟩) (ds.map encDo).length cap), (3, .bool true), (4, .pointer (some ⟨b4, 0, none⟩)), (5, .pointer (some ⟨b5, 0, none⟩)), (7, .pointer (some ⟨b7, 0, none⟩))])) (lpush xs id) (by repeat (first | exact Sub.nil | exact Sub.refl | refine Sub.cons (by repeat (first | exact Pick.here | apply Pick.there)) ?_ | refine Sub.drop ?_)) (by repeat (first | exact Keep.nil | refine Keep.cons rfl ?_))
      ·
        intro z
        refine J_pure fun hz => ?_
        refine J_seq ?_
        refine J_drawI [blk b7 36 (encI id)] mixed ?_
        refine I_take (i := 1) rfl rfl rfl rfl (by kernel_rfl) (by kernel_rfl) (by kernel_rfl) (fun _ _ _ _ h => h) (fun _ => Pur.vl (p_fieldAddr rfl fa91_0)) ?_
        refine I_ready (rs := [0, 2]) (by repeat (first | exact Sub.nil | exact Sub.refl | refine Sub.cons (by repeat (first | exact Pick.here | apply Pick.there)) ?_ | refine Sub.drop ?_)) (by kernel_rfl) (by simp) ?_
        refine (I_cons rfl ?_ (I_cons rfl ?_ I_nil))
        ·
          refine x_call Try.func49 nm49 bd49 (.cons rfl .nil) rfl (lLen (xs := z) (by repeat (first | with_reducible exact Pick.here | with_reducible assumption | with_reducible apply Pick.there)) (by omega)) fun _ => ?_
          refine I_one (i := 2) (by repeat (first | exact Sub.nil | exact Sub.refl | refine Sub.cons (by repeat (first | exact Pick.here | apply Pick.there)) ?_ | refine Sub.drop ?_)) (by kernel_rfl) rfl ?_
          refine Jop_out ?_
          refine J_pick (A := rlA b5 0 z) (by repeat (first | with_reducible exact Pick.here | with_reducible assumption | with_reducible apply Pick.there)) ?_
          refine J_rlO fun vx hwx => ?_
          refine J_row (.there .here) fun hwfx ax capx hvx h1x h2x h3x => ?_
          subst hvx
          refine Jop_in ?_
          refine J_val (v_loadL rfl ty80 (by repeat (first | with_reducible exact Has.here | with_reducible assumption | with_reducible apply Has.there)) rfl (by exact rfl)) rfl rfl rfl ?_
          refine J_rlS (b := b5) (o := 0) (xs := z) _ (by repeat (first | exact Picks.nil | apply Picks.cons; (repeat (first | with_reducible exact Pick.here | with_reducible assumption | with_reducible apply Pick.there)))) hwx ?_
          refine I_take (i := 3) rfl rfl rfl rfl (by kernel_rfl) (by kernel_rfl) (by kernel_rfl) (fun _ _ _ _ h => h) (fun _ => Pur.vl (p_len rfl Try.underlying80)) ?_
          refine I_take (i := 4) rfl rfl rfl rfl (by kernel_rfl) (by kernel_rfl) (by kernel_rfl) (fun _ _ _ _ h => h) (fun _ => Pur.vl (p_neq rfl rfl)) ?_
          refine I_take (i := 5) rfl rfl rfl rfl (by kernel_rfl) (by kernel_rfl) (by kernel_rfl) (fun _ _ _ _ h => h) (fun _ => Pur.vl (p_move rfl)) ?_
          refine J_bool (t := 77) (c := false) rfl (by simp) ?_
          refine I_takeOn (i := 6) rfl rfl rfl rfl rfl rfl rfl (by kernel_rfl) (by kernel_rfl) (by kernel_rfl) (fun _ _ _ _ h => h) (fun _ => v_loadA rfl ty36 (by repeat (first | with_reducible exact Has.here | with_reducible assumption | with_reducible apply Has.there)) (by first | exact Cut.full rfl | ((repeat constructor); done) | exact Cut.full (by first | rfl | simp [*]))) ?_
          refine I_takeOn (i := 8) rfl rfl rfl rfl rfl rfl rfl (by kernel_rfl) (by kernel_rfl) (by kernel_rfl) (fun _ _ _ _ h => h) (fun _ => v_loadA rfl ty36 (by repeat (first | with_reducible exact Has.here | with_reducible assumption | with_reducible apply Has.there)) (by first | exact Cut.full rfl | ((repeat constructor); done) | exact Cut.full (by first | rfl | simp [*]))) ?_
          refine I_one (i := 7) (by repeat (first | exact Sub.nil | exact Sub.refl | refine Sub.cons (by repeat (first | exact Pick.here | apply Pick.there)) ?_ | refine Sub.drop ?_)) (by kernel_rfl) rfl ?_
          refine G_on rfl rfl rfl ?_
          refine x_call Try.func53 nm53 bd53 (.cons rfl (.cons rfl .nil)) rfl (lHas (xs := z) (i := id) (by repeat (first | with_reducible exact Pick.here | with_reducible assumption | with_reducible apply Pick.there)) (by omega)) fun _ => ?_
          refine I_one (i := 9) (by repeat (first | exact Sub.nil | exact Sub.refl | refine Sub.cons (by repeat (first | exact Pick.here | apply Pick.there)) ?_ | refine Sub.drop ?_)) (by kernel_rfl) rfl ?_
          refine G_on rfl rfl rfl ?_
          refine x_call Try.func54 nm54 bd54 (.cons rfl (.cons rfl .nil)) rfl (rlHas (xs := z) (i := id) (by repeat (first | with_reducible exact Pick.here | with_reducible assumption | with_reducible apply Pick.there)) (by omega)) fun _ => ?_
          refine I_takeOn (i := 10) rfl rfl rfl rfl rfl rfl rfl (by kernel_rfl) (by kernel_rfl) (by kernel_rfl) (fun _ _ _ _ h => h) (fun _ => Pur.vl (p_neb Try.underlying4 rfl rfl)) ?_
          refine I_take (i := 11) rfl rfl rfl rfl (by kernel_rfl) (by kernel_rfl) (by kernel_rfl) (fun _ _ _ _ h => h) (fun _ => Pur.vl (p_pick_f rfl rfl)) ?_
          refine I_take (i := 12) rfl rfl rfl rfl (by kernel_rfl) (by kernel_rfl) (by kernel_rfl) (fun _ _ _ _ h => h) (fun _ => Pur.vl (p_move rfl)) ?_
          refine J_bool (t := 84) (c := false) rfl (by simp) ?_
          refine I_takeOn (i := 14) rfl rfl rfl rfl rfl rfl rfl (by kernel_rfl) (by kernel_rfl) (by kernel_rfl) (fun _ _ _ _ h => h) (fun _ => Pur.vl (p_fieldAddr rfl fa91_0)) ?_
          refine I_ready (rs := [13, 15]) (by repeat (first | exact Sub.nil | exact Sub.refl | refine Sub.cons (by repeat (first | exact Pick.here | apply Pick.there)) ?_ | refine Sub.drop ?_)) (by kernel_rfl) (by simp) ?_
          refine (I_cons rfl ?_ (I_cons rfl ?_ I_nil))
          ·
            refine G_on rfl rfl rfl ?_
            refine x_call Try.func56 nm56 bd56 (.cons rfl .nil) rfl (lAll (xs := z) (by repeat (first | with_reducible exact Pick.here | with_reducible assumption | with_reducible apply Pick.there)) (by omega)) fun v85 => ?_
            refine J_row .here fun hw85 a85 c85 hv85 hl85 hm85 hz85 => ?_
            subst hv85
            refine I_one (i := 15) (by repeat (first | exact Sub.nil | exact Sub.refl | refine Sub.cons (by repeat (first | exact Pick.here | apply Pick.there)) ?_ | refine Sub.drop ?_)) (by kernel_rfl) rfl ?_
            refine G_on rfl rfl rfl ?_
            refine Jop_out ?_
            refine J_pick (A := rlA b5 0 z) (by repeat (first | with_reducible exact Pick.here | with_reducible assumption | with_reducible apply Pick.there)) ?_
            refine J_rlO fun vx hwx => ?_
            refine J_row (.there .here) fun hwfx ax capx hvx h1x h2x h3x => ?_
            subst hvx
            refine Jop_in ?_
            refine J_val (v_loadL rfl ty80 (by repeat (first | with_reducible exact Has.here | with_reducible assumption | with_reducible apply Has.there)) rfl (by exact rfl)) rfl rfl rfl ?_
            refine I_one (i := 16) (by repeat (first | exact Sub.nil | exact Sub.refl | refine Sub.cons (by repeat (first | exact Pick.here | apply Pick.there)) ?_ | refine Sub.drop ?_)) (by kernel_rfl) rfl ?_
            refine G_on rfl rfl rfl ?_
            refine x_call Try.func55 nm55 bd55 (.cons rfl (.cons rfl .nil)) rfl (sameIDs (xs := z) (fun w H => sep_reads (by repeat (first | with_reducible exact Has.here | with_reducible assumption | with_reducible apply Has.there)) H) (fun w H => sep_reads (by repeat (first | with_reducible exact Has.here | with_reducible assumption | with_reducible apply Has.there)) H) (by omega)) fun _ => ?_
            refine J_rlS (b := b5) (o := 0) (xs := z) _ (by repeat (first | exact Picks.nil | apply Picks.cons; (repeat (first | with_reducible exact Pick.here | with_reducible assumption | with_reducible apply Pick.there)))) hwx ?_
            refine I_takeOn (i := 17) rfl rfl rfl rfl rfl rfl rfl (by kernel_rfl) (by kernel_rfl) (by kernel_rfl) (fun _ _ _ _ h => h) (fun _ => Pur.vl (p_not rfl)) ?_
            refine I_take (i := 18) rfl rfl rfl rfl (by kernel_rfl) (by kernel_rfl) (by kernel_rfl) (fun _ _ _ _ h => h) (fun _ => Pur.vl (p_pick_f rfl rfl)) ?_
            refine I_done (by repeat (first | exact Sub.nil | exact Sub.refl | refine Sub.cons (by repeat (first | exact Pick.here | apply Pick.there)) ?_ | refine Sub.drop ?_)) (by kernel_rfl) ?_
            refine Q_then ?_
            refine J_bool (t := 90) (c := false) rfl (by simp) ?_
            refine C_false rfl ?_
            refine J_skip ?_
            refine Q_blk_normal ?_
            refine Q_then ?_
            refine J_region ?_
            refine L_pur rfl (p_move rfl) ?_
            refine L_pur rfl (p_add64 rfl rfl (by omega)) ?_
            refine L_pur rfl (p_assign rfl) ?_
            refine L_nil ?_
            refine Q_then ?_
            exact J_again2 (i + 1) z (by omega) (⟨by omega, by omega⟩) (by repeat (first | exact Sub.nil | exact Sub.refl | refine Sub.cons (by repeat (first | exact Pick.here | apply Pick.there)) ?_ | refine Sub.drop ?_)) (by repeat (first | exact Keep.nil | refine Keep.cons rfl ?_))
          ·
            refine G_on rfl rfl rfl ?_
            refine Jop_out ?_
            refine J_pick (A := rlA b5 0 z) (by repeat (first | with_reducible exact Pick.here | with_reducible assumption | with_reducible apply Pick.there)) ?_
            refine J_rlO fun vx hwx => ?_
            refine J_row (.there .here) fun hwfx ax capx hvx h1x h2x h3x => ?_
            subst hvx
            refine Jop_in ?_
            refine J_val (v_loadL rfl ty80 (by repeat (first | with_reducible exact Has.here | with_reducible assumption | with_reducible apply Has.there)) rfl (by exact rfl)) rfl rfl rfl ?_
            refine I_one (i := 13) (by repeat (first | exact Sub.nil | exact Sub.refl | refine Sub.cons (by repeat (first | exact Pick.here | apply Pick.there)) ?_ | refine Sub.drop ?_)) (by kernel_rfl) rfl ?_
            refine G_on rfl rfl rfl ?_
            refine x_call Try.func56 nm56 bd56 (.cons rfl .nil) rfl (lAll (xs := z) (by repeat (first | with_reducible exact Pick.here | with_reducible assumption | with_reducible apply Pick.there)) (by omega)) fun v85 => ?_
            refine J_row .here fun hw85 a85 c85 hv85 hl85 hm85 hz85 => ?_
            subst hv85
            refine I_one (i := 16) (by repeat (first | exact Sub.nil | exact Sub.refl | refine Sub.cons (by repeat (first | exact Pick.here | apply Pick.there)) ?_ | refine Sub.drop ?_)) (by kernel_rfl) rfl ?_
            refine G_on rfl rfl rfl ?_
            refine x_call Try.func55 nm55 bd55 (.cons rfl (.cons rfl .nil)) rfl (sameIDs (xs := z) (fun w H => sep_reads (by repeat (first | with_reducible exact Has.here | with_reducible assumption | with_reducible apply Has.there)) H) (fun w H => sep_reads (by repeat (first | with_reducible exact Has.here | with_reducible assumption | with_reducible apply Has.there)) H) (by omega)) fun _ => ?_
            refine J_rlS (b := b5) (o := 0) (xs := z) _ (by repeat (first | exact Picks.nil | apply Picks.cons; (repeat (first | with_reducible exact Pick.here | with_reducible assumption | with_reducible apply Pick.there)))) hwx ?_
            refine I_takeOn (i := 17) rfl rfl rfl rfl rfl rfl rfl (by kernel_rfl) (by kernel_rfl) (by kernel_rfl) (fun _ _ _ _ h => h) (fun _ => Pur.vl (p_not rfl)) ?_
            refine I_take (i := 18) rfl rfl rfl rfl (by kernel_rfl) (by kernel_rfl) (by kernel_rfl) (fun _ _ _ _ h => h) (fun _ => Pur.vl (p_pick_f rfl rfl)) ?_
            refine I_done (by repeat (first | exact Sub.nil | exact Sub.refl | refine Sub.cons (by repeat (first | exact Pick.here | apply Pick.there)) ?_ | refine Sub.drop ?_)) (by kernel_rfl) ?_
            refine Q_then ?_
            refine J_bool (t := 90) (c := false) rfl (by simp) ?_
            refine C_false rfl ?_
            refine J_skip ?_
            refine Q_blk_normal ?_
            refine Q_then ?_
            refine J_region ?_
            refine L_pur rfl (p_move rfl) ?_
            refine L_pur rfl (p_add64 rfl rfl (by omega)) ?_
            refine L_pur rfl (p_assign rfl) ?_
            refine L_nil ?_
            refine Q_then ?_
            exact J_again2 (i + 1) z (by omega) (⟨by omega, by omega⟩) (by repeat (first | exact Sub.nil | exact Sub.refl | refine Sub.cons (by repeat (first | exact Pick.here | apply Pick.there)) ?_ | refine Sub.drop ?_)) (by repeat (first | exact Keep.nil | refine Keep.cons rfl ?_))
        ·
          refine Jop_out ?_
          refine J_pick (A := rlA b5 0 z) (by repeat (first | with_reducible exact Pick.here | with_reducible assumption | with_reducible apply Pick.there)) ?_
          refine J_rlO fun vx hwx => ?_
          refine J_row (.there .here) fun hwfx ax capx hvx h1x h2x h3x => ?_
          subst hvx
          refine Jop_in ?_
          refine J_val (v_loadL rfl ty80 (by repeat (first | with_reducible exact Has.here | with_reducible assumption | with_reducible apply Has.there)) rfl (by exact rfl)) rfl rfl rfl ?_
          refine J_rlS (b := b5) (o := 0) (xs := z) _ (by repeat (first | exact Picks.nil | apply Picks.cons; (repeat (first | with_reducible exact Pick.here | with_reducible assumption | with_reducible apply Pick.there)))) hwx ?_
          refine I_take (i := 3) rfl rfl rfl rfl (by kernel_rfl) (by kernel_rfl) (by kernel_rfl) (fun _ _ _ _ h => h) (fun _ => Pur.vl (p_len rfl Try.underlying80)) ?_
          refine I_one (i := 0) (by repeat (first | exact Sub.nil | exact Sub.refl | refine Sub.cons (by repeat (first | exact Pick.here | apply Pick.there)) ?_ | refine Sub.drop ?_)) (by kernel_rfl) rfl ?_
          refine x_call Try.func49 nm49 bd49 (.cons rfl .nil) rfl (lLen (xs := z) (by repeat (first | with_reducible exact Pick.here | with_reducible assumption | with_reducible apply Pick.there)) (by omega)) fun _ => ?_
          refine I_take (i := 4) rfl rfl rfl rfl (by kernel_rfl) (by kernel_rfl) (by kernel_rfl) (fun _ _ _ _ h => h) (fun _ => Pur.vl (p_neq rfl rfl)) ?_
          refine I_take (i := 5) rfl rfl rfl rfl (by kernel_rfl) (by kernel_rfl) (by kernel_rfl) (fun _ _ _ _ h => h) (fun _ => Pur.vl (p_move rfl)) ?_
          refine J_bool (t := 77) (c := false) rfl (by simp) ?_
          refine I_takeOn (i := 6) rfl rfl rfl rfl rfl rfl rfl (by kernel_rfl) (by kernel_rfl) (by kernel_rfl) (fun _ _ _ _ h => h) (fun _ => v_loadA rfl ty36 (by repeat (first | with_reducible exact Has.here | with_reducible assumption | with_reducible apply Has.there)) (by first | exact Cut.full rfl | ((repeat constructor); done) | exact Cut.full (by first | rfl | simp [*]))) ?_
          refine I_takeOn (i := 8) rfl rfl rfl rfl rfl rfl rfl (by kernel_rfl) (by kernel_rfl) (by kernel_rfl) (fun _ _ _ _ h => h) (fun _ => v_loadA rfl ty36 (by repeat (first | with_reducible exact Has.here | with_reducible assumption | with_reducible apply Has.there)) (by first | exact Cut.full rfl | ((repeat constructor); done) | exact Cut.full (by first | rfl | simp [*]))) ?_
          refine I_one (i := 7) (by repeat (first | exact Sub.nil | exact Sub.refl | refine Sub.cons (by repeat (first | exact Pick.here | apply Pick.there)) ?_ | refine Sub.drop ?_)) (by kernel_rfl) rfl ?_
          refine G_on rfl rfl rfl ?_
          refine x_call Try.func53 nm53 bd53 (.cons rfl (.cons rfl .nil)) rfl (lHas (xs := z) (i := id) (by repeat (first | with_reducible exact Pick.here | with_reducible assumption | with_reducible apply Pick.there)) (by omega)) fun _ => ?_
          refine I_one (i := 9) (by repeat (first | exact Sub.nil | exact Sub.refl | refine Sub.cons (by repeat (first | exact Pick.here | apply Pick.there)) ?_ | refine Sub.drop ?_)) (by kernel_rfl) rfl ?_
          refine G_on rfl rfl rfl ?_
          refine x_call Try.func54 nm54 bd54 (.cons rfl (.cons rfl .nil)) rfl (rlHas (xs := z) (i := id) (by repeat (first | with_reducible exact Pick.here | with_reducible assumption | with_reducible apply Pick.there)) (by omega)) fun _ => ?_
          refine I_takeOn (i := 10) rfl rfl rfl rfl rfl rfl rfl (by kernel_rfl) (by kernel_rfl) (by kernel_rfl) (fun _ _ _ _ h => h) (fun _ => Pur.vl (p_neb Try.underlying4 rfl rfl)) ?_
          refine I_take (i := 11) rfl rfl rfl rfl (by kernel_rfl) (by kernel_rfl) (by kernel_rfl) (fun _ _ _ _ h => h) (fun _ => Pur.vl (p_pick_f rfl rfl)) ?_
          refine I_take (i := 12) rfl rfl rfl rfl (by kernel_rfl) (by kernel_rfl) (by kernel_rfl) (fun _ _ _ _ h => h) (fun _ => Pur.vl (p_move rfl)) ?_
          refine J_bool (t := 84) (c := false) rfl (by simp) ?_
          refine I_takeOn (i := 14) rfl rfl rfl rfl rfl rfl rfl (by kernel_rfl) (by kernel_rfl) (by kernel_rfl) (fun _ _ _ _ h => h) (fun _ => Pur.vl (p_fieldAddr rfl fa91_0)) ?_
          refine I_ready (rs := [13, 15]) (by repeat (first | exact Sub.nil | exact Sub.refl | refine Sub.cons (by repeat (first | exact Pick.here | apply Pick.there)) ?_ | refine Sub.drop ?_)) (by kernel_rfl) (by simp) ?_
          refine (I_cons rfl ?_ (I_cons rfl ?_ I_nil))
          ·
            refine G_on rfl rfl rfl ?_
            refine x_call Try.func56 nm56 bd56 (.cons rfl .nil) rfl (lAll (xs := z) (by repeat (first | with_reducible exact Pick.here | with_reducible assumption | with_reducible apply Pick.there)) (by omega)) fun v85 => ?_
            refine J_row .here fun hw85 a85 c85 hv85 hl85 hm85 hz85 => ?_
            subst hv85
            refine I_one (i := 15) (by repeat (first | exact Sub.nil | exact Sub.refl | refine Sub.cons (by repeat (first | exact Pick.here | apply Pick.there)) ?_ | refine Sub.drop ?_)) (by kernel_rfl) rfl ?_
            refine G_on rfl rfl rfl ?_
            refine Jop_out ?_
            refine J_pick (A := rlA b5 0 z) (by repeat (first | with_reducible exact Pick.here | with_reducible assumption | with_reducible apply Pick.there)) ?_
            refine J_rlO fun vx hwx => ?_
            refine J_row (.there .here) fun hwfx ax capx hvx h1x h2x h3x => ?_
            subst hvx
            refine Jop_in ?_
            refine J_val (v_loadL rfl ty80 (by repeat (first | with_reducible exact Has.here | with_reducible assumption | with_reducible apply Has.there)) rfl (by exact rfl)) rfl rfl rfl ?_
            refine I_one (i := 16) (by repeat (first | exact Sub.nil | exact Sub.refl | refine Sub.cons (by repeat (first | exact Pick.here | apply Pick.there)) ?_ | refine Sub.drop ?_)) (by kernel_rfl) rfl ?_
            refine G_on rfl rfl rfl ?_
            refine x_call Try.func55 nm55 bd55 (.cons rfl (.cons rfl .nil)) rfl (sameIDs (xs := z) (fun w H => sep_reads (by repeat (first | with_reducible exact Has.here | with_reducible assumption | with_reducible apply Has.there)) H) (fun w H => sep_reads (by repeat (first | with_reducible exact Has.here | with_reducible assumption | with_reducible apply Has.there)) H) (by omega)) fun _ => ?_
            refine J_rlS (b := b5) (o := 0) (xs := z) _ (by repeat (first | exact Picks.nil | apply Picks.cons; (repeat (first | with_reducible exact Pick.here | with_reducible assumption | with_reducible apply Pick.there)))) hwx ?_
            refine I_takeOn (i := 17) rfl rfl rfl rfl rfl rfl rfl (by kernel_rfl) (by kernel_rfl) (by kernel_rfl) (fun _ _ _ _ h => h) (fun _ => Pur.vl (p_not rfl)) ?_
            refine I_take (i := 18) rfl rfl rfl rfl (by kernel_rfl) (by kernel_rfl) (by kernel_rfl) (fun _ _ _ _ h => h) (fun _ => Pur.vl (p_pick_f rfl rfl)) ?_
            refine I_done (by repeat (first | exact Sub.nil | exact Sub.refl | refine Sub.cons (by repeat (first | exact Pick.here | apply Pick.there)) ?_ | refine Sub.drop ?_)) (by kernel_rfl) ?_
            refine Q_then ?_
            refine J_bool (t := 90) (c := false) rfl (by simp) ?_
            refine C_false rfl ?_
            refine J_skip ?_
            refine Q_blk_normal ?_
            refine Q_then ?_
            refine J_region ?_
            refine L_pur rfl (p_move rfl) ?_
            refine L_pur rfl (p_add64 rfl rfl (by omega)) ?_
            refine L_pur rfl (p_assign rfl) ?_
            refine L_nil ?_
            refine Q_then ?_
            exact J_again2 (i + 1) z (by omega) (⟨by omega, by omega⟩) (by repeat (first | exact Sub.nil | exact Sub.refl | refine Sub.cons (by repeat (first | exact Pick.here | apply Pick.there)) ?_ | refine Sub.drop ?_)) (by repeat (first | exact Keep.nil | refine Keep.cons rfl ?_))
          ·
            refine G_on rfl rfl rfl ?_
            refine Jop_out ?_
            refine J_pick (A := rlA b5 0 z) (by repeat (first | with_reducible exact Pick.here | with_reducible assumption | with_reducible apply Pick.there)) ?_
            refine J_rlO fun vx hwx => ?_
            refine J_row (.there .here) fun hwfx ax capx hvx h1x h2x h3x => ?_
            subst hvx
            refine Jop_in ?_
            refine J_val (v_loadL rfl ty80 (by repeat (first | with_reducible exact Has.here | with_reducible assumption | with_reducible apply Has.there)) rfl (by exact rfl)) rfl rfl rfl ?_
            refine I_one (i := 13) (by repeat (first | exact Sub.nil | exact Sub.refl | refine Sub.cons (by repeat (first | exact Pick.here | apply Pick.there)) ?_ | refine Sub.drop ?_)) (by kernel_rfl) rfl ?_
            refine G_on rfl rfl rfl ?_
            refine x_call Try.func56 nm56 bd56 (.cons rfl .nil) rfl (lAll (xs := z) (by repeat (first | with_reducible exact Pick.here | with_reducible assumption | with_reducible apply Pick.there)) (by omega)) fun v85 => ?_
            refine J_row .here fun hw85 a85 c85 hv85 hl85 hm85 hz85 => ?_
            subst hv85
            refine I_one (i := 16) (by repeat (first | exact Sub.nil | exact Sub.refl | refine Sub.cons (by repeat (first | exact Pick.here | apply Pick.there)) ?_ | refine Sub.drop ?_)) (by kernel_rfl) rfl ?_
            refine G_on rfl rfl rfl ?_
            refine x_call Try.func55 nm55 bd55 (.cons rfl (.cons rfl .nil)) rfl (sameIDs (xs := z) (fun w H => sep_reads (by repeat (first | with_reducible exact Has.here | with_reducible assumption | with_reducible apply Has.there)) H) (fun w H => sep_reads (by repeat (first | with_reducible exact Has.here | with_reducible assumption | with_reducible apply Has.there)) H) (by omega)) fun _ => ?_
            refine J_rlS (b := b5) (o := 0) (xs := z) _ (by repeat (first | exact Picks.nil | apply Picks.cons; (repeat (first | with_reducible exact Pick.here | with_reducible assumption | with_reducible apply Pick.there)))) hwx ?_
            refine I_takeOn (i := 17) rfl rfl rfl rfl rfl rfl rfl (by kernel_rfl) (by kernel_rfl) (by kernel_rfl) (fun _ _ _ _ h => h) (fun _ => Pur.vl (p_not rfl)) ?_
            refine I_take (i := 18) rfl rfl rfl rfl (by kernel_rfl) (by kernel_rfl) (by kernel_rfl) (fun _ _ _ _ h => h) (fun _ => Pur.vl (p_pick_f rfl rfl)) ?_
            refine I_done (by repeat (first | exact Sub.nil | exact Sub.refl | refine Sub.cons (by repeat (first | exact Pick.here | apply Pick.there)) ?_ | refine Sub.drop ?_)) (by kernel_rfl) ?_
            refine Q_then ?_
            refine J_bool (t := 90) (c := false) rfl (by simp) ?_
            refine C_false rfl ?_
            refine J_skip ?_
            refine Q_blk_normal ?_
            refine Q_then ?_
            refine J_region ?_
            refine L_pur rfl (p_move rfl) ?_
            refine L_pur rfl (p_add64 rfl rfl (by omega)) ?_
            refine L_pur rfl (p_assign rfl) ?_
            refine L_nil ?_
            refine Q_then ?_
            exact J_again2 (i + 1) z (by omega) (⟨by omega, by omega⟩) (by repeat (first | exact Sub.nil | exact Sub.refl | refine Sub.cons (by repeat (first | exact Pick.here | apply Pick.there)) ?_ | refine Sub.drop ?_)) (by repeat (first | exact Keep.nil | refine Keep.cons rfl ?_))
    ·
      refine J_exit ?_
      refine Q_then_exit ?_
      refine Q_then_exit ?_
      refine Q_blk_this ?_
      refine Q_then ?_
      refine J_seq ?_
      refine J_region ?_
      refine L_pur rfl (p_move rfl) ?_
      refine L_pur rfl (p_assign rfl) ?_
      refine L_nil ?_
      refine Q_then ?_
      refine J_ret ?_
      exact J_return (()) Try.results10 (.tmp rfl .nil) rfl (by repeat (first | exact Sub.nil | exact Sub.refl | refine Sub.cons (by repeat (first | exact Pick.here | apply Pick.there)) ?_ | refine Sub.drop ?_))

theorem dec_Do {x : List Value} (h0 : Shape [.int .i64, .int .i64, .int .i64] x) : ∃ d : DoL, x = encDo d ∧ True := by
  obtain ⟨_, _, rfl, ⟨a0, rfl, _⟩, h1⟩ := h0.cons_inv
  obtain ⟨_, _, rfl, ⟨a1, rfl, _⟩, h2⟩ := h1.cons_inv
  obtain ⟨_, _, rfl, ⟨a2, rfl, _⟩, h3⟩ := h2.cons_inv
  rw [h3.nil_inv]; exact ⟨(a0, a1, a2), rfl, trivial⟩

end Go.Pse
