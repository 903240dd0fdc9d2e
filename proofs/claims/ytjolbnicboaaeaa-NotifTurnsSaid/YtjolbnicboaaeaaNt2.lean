/-
  The law on signals and those that wait.
-/
import Derived.Test.YtjolbnicboaaeaaNt1
import Derived.Test.YtjolbnicboaaeaaArg
namespace Go.Pse
open Go.RowKit Go.Proofs

theorem J_ntNew {E : World} {l : List As} {n : Nat} {F : Env} {K : Act → World → Prop} {b : Nat} (k : Jk E (ntA b 0 0 [] :: l) n F K) : Jk E (blk b 116 [.int .u32 0, .slice none 0 0, .map none] :: l) n F K :=
  J_fld (J_split [.int .u32 0] [.slice none 0 0, .map none] rfl (J_nil (el := 36) (sz := 2) (J_mapNil (ek := kI) (ev := evB) (J_lsS (b := b) (o := 0 + 1) (xs := []) (.slice none 0 0) none [] (.cons (.there (.there (.there .here))) (.cons (.there .here) (.cons .here .nil))) Who.nil
    (J_ntS (b := b) (o := 0) (w := 0) (xs := []) (.cons (.there .here) (.cons .here .nil)) trivial k)))))
theorem J_rnNew {E : World} {l : List As} {n : Nat} {F : Env} {K : Act → World → Prop} {b : Nat} (k : Jk E (rnA b 0 0 [] :: l) n F K) : Jk E (blk b 127 [.int .u32 0, .slice none 0 0] :: l) n F K :=
  J_fld (J_split [.int .u32 0] [.slice none 0 0] rfl (J_nil (el := 36) (sz := 2) (J_rlS (b := b) (o := 0 + 1) (xs := []) (.slice none 0 0) (.cons (.there (.there .here)) (.cons .here .nil)) List.nodup_nil
    (J_rnS (b := b) (o := 0) (w := 0) (xs := []) (.cons (.there .here) (.cons .here .nil)) trivial k))))
abbrev DoN := Int × Int × Int
def encNd (d : DoN) : List Value := [.int .i64 d.1, .int .i64 d.2.1, .int .u32 d.2.2]

set_option maxRecDepth 100000 in
set_option maxHeartbeats 4000000 in
theorem first13 {E : World} {l : List As} :
    Con Try.prog 62 #[] E l (fun _ : Unit => .bool true) (fun _ => l) := by
  refine Con.body (vs := []) (n := 35) Try.func62 rfl rfl [] (env_ok 0 rfl) ?_
  refine J_seq ?_
  refine J_region ?_
  refine L_pur rfl (p_assign rfl) ?_
  refine L_nil ?_
  refine Q_then ?_
  refine J_seq ?_
  refine J_region ?_
  refine L_op (x_alloc ty116 rfl fun b1 => ?_)
  refine J_ntNew ?_
  refine L_nil ?_
  refine Q_then ?_
  refine J_seq ?_
  refine J_region ?_
  refine L_pur rfl (bld36 (.cons rfl (.cons rfl .nil)) (by repeat constructor)) ?_
  refine L_op (x_call Try.func63 nm63 bd63 (.cons rfl (.cons rfl .nil)) rfl (nWait (i := (1, 1)) (by repeat (first | with_reducible exact Pick.here | with_reducible assumption | with_reducible apply Pick.there)) (by simp)) fun _ => ?_)
  refine J_pick (A := ntA b1 0 _ _) (by repeat (first | with_reducible exact Pick.here | with_reducible assumption | with_reducible apply Pick.there)) ?_
  refine J_asTo (B := ntA b1 0 0 [(1, 1)]) (by rfl) ?_
  refine L_pur rfl (p_move rfl) ?_
  refine L_pur rfl (p_extract rfl rfl) ?_
  refine L_pur rfl (p_extract rfl rfl) ?_
  refine L_pur rfl (p_assign rfl) ?_
  refine L_pur rfl (p_assign rfl) ?_
  refine L_nil ?_
  refine Q_then ?_
  refine J_seq ?_
  refine J_region ?_
  refine L_op (x_call Try.func65 nm65 bd65 (.cons rfl (.cons rfl .nil)) rfl (nSignal (x := 6) (by repeat (first | with_reducible exact Pick.here | with_reducible assumption | with_reducible apply Pick.there)) (by simp)) fun _ => ?_)
  refine J_pick (A := ntA b1 0 _ _) (by repeat (first | with_reducible exact Pick.here | with_reducible assumption | with_reducible apply Pick.there)) ?_
  refine J_asTo (B := ntA b1 0 0 []) (by rfl) ?_
  refine L_pur rfl (p_move rfl) ?_
  refine L_pur rfl (p_extract rfl rfl) ?_
  refine L_pur rfl (p_extract rfl rfl) ?_
  refine L_pur rfl (p_extract rfl rfl) ?_
  refine L_op (x_alloc ty36 rfl fun b4 => ?_)
  refine L_op (x_store rfl rfl ty36 rfl (by first | rfl | (simp [*]; done)) (by first | rfl | (simp [*]; done)) (by repeat (first | with_reducible exact Rep1.here | with_reducible apply Rep1.there)) (by first | exact Put.full rfl | ((repeat constructor); done) | exact Put.full (by first | rfl | simp [*])) ?_)
  refine L_pur rfl (p_assign rfl) ?_
  refine L_pur rfl (p_assign rfl) ?_
  refine L_nil ?_
  refine Q_then ?_
  refine J_seq ?_
  refine J_region ?_
  refine L_pur rfl (p_move rfl) ?_
  refine L_pur rfl (p_not rfl) ?_
  refine L_pur rfl (p_move rfl) ?_
  refine J_bool (t := 19) (c := true) rfl (rfl) ?_
  refine L_op (G_on rfl rfl rfl ?_)
  refine J_pur (p_move rfl) rfl rfl rfl ?_
  refine L_pur rfl (p_pick_t rfl rfl) ?_
  refine L_pur rfl (p_move rfl) ?_
  refine J_bool (t := 22) (c := true) rfl (by decide +kernel) ?_
  refine L_op (G_on rfl rfl rfl ?_)
  refine J_val (v_loadA rfl ty36 (by repeat (first | with_reducible exact Has.here | with_reducible assumption | with_reducible apply Has.there)) (by first | exact Cut.full rfl | ((repeat constructor); done) | exact Cut.full (by first | rfl | simp [*]))) rfl rfl rfl ?_
  refine L_op (G_on rfl rfl rfl ?_)
  refine J_pur (bld36 (.cons rfl (.cons rfl .nil)) (by repeat constructor)) rfl rfl rfl ?_
  refine L_op (G_on rfl rfl rfl ?_)
  refine J_pur (p_eqv rfl rfl (fun w => eg36 _ _ _ _ _ w) (fun w => eqv36 _ _ _ _ w)) rfl rfl rfl ?_
  refine L_pur rfl (p_pick_t rfl rfl) ?_
  refine L_pur rfl (p_move rfl) ?_
  refine J_bool (t := 27) (c := true) rfl (by decide +kernel) ?_
  refine L_op (G_on rfl rfl rfl ?_)
  refine J_pur (p_move rfl) rfl rfl rfl ?_
  refine L_op (G_on rfl rfl rfl ?_)
  refine J_pur (p_eql rfl rfl) rfl rfl rfl ?_
  refine L_pur rfl (p_pick_t rfl rfl) ?_
  refine L_pur rfl (p_move rfl) ?_
  refine J_bool (t := 31) (c := true) rfl (by decide +kernel) ?_
  refine L_op (G_on rfl rfl rfl ?_)
  refine x_call Try.func66 nm66 bd66 (.cons rfl .nil) rfl (nWord (by repeat (first | with_reducible exact Pick.here | with_reducible assumption | with_reducible apply Pick.there)) (by simp)) fun _ => ?_
  refine L_op (G_on rfl rfl rfl ?_)
  refine J_pur (p_eql rfl rfl) rfl rfl rfl ?_
  refine L_pur rfl (p_pick_t rfl rfl) ?_
  refine J_bool (t := 34) (c := true) rfl (by simp) ?_
  refine L_pur rfl (p_assign rfl) ?_
  refine L_nil ?_
  refine Q_then ?_
  refine J_ret ?_
  exact J_return (()) Try.results62 (.tmp rfl .nil) rfl (by repeat (first | exact Sub.nil | exact Sub.refl | refine Sub.cons (by repeat (first | exact Pick.here | apply Pick.there)) ?_ | refine Sub.drop ?_))

set_option maxRecDepth 100000 in
set_option maxHeartbeats 4000000 in
theorem notifPlays {E W : World} {v : Value} {ds : List DoN} (hr : Reads W 3 v (ds.map encNd)) :
    Con Try.prog 16 #[v] E [old W] (fun _ : Unit => .bool true) (fun _ => [old W]) := by
  refine Con.body (vs := [v]) (n := 119) Try.func16 rfl rfl [(0, v)] (env_ok 1 rfl) ?_
  refine J_readsB (fun w H => hr.old (by repeat (first | with_reducible exact Has.here | with_reducible assumption | with_reducible apply Has.there)) H) fun hw a cap hv h1 h2 h3 => ?_
  subst hv
  have hm : cap ≤ 9223372036854775807 := h2
  have hml : (ds.map encNd).length = ds.length := List.length_map _
  refine J_seq ?_
  refine J_region ?_
  refine L_pur rfl (p_assign rfl) ?_
  refine L_nil ?_
  refine Q_then ?_
  refine J_seq ?_
  refine J_region ?_
  refine L_op (x_call Try.func62 nm62 bd62 .nil rfl (first13) fun _ => ?_)
  refine L_pur rfl (p_assign rfl) ?_
  refine L_nil ?_
  refine Q_then ?_
  refine J_seq ?_
  refine J_seq ?_
  refine J_region ?_
  refine L_pur rfl (p_move rfl) ?_
  refine L_pur rfl (p_not rfl) ?_
  refine L_nil ?_
  refine Q_then ?_
  refine J_bool (t := 20) (c := false) rfl (rfl) ?_
  refine C_false rfl ?_
  refine J_skip ?_
  refine Q_then ?_
  refine J_seq ?_
  refine J_seq ?_
  refine J_region ?_
  refine L_pur rfl (p_move rfl) ?_
  refine L_pur rfl (p_len rfl Try.underlying125) ?_
  refine L_pur rfl (p_gtr rfl rfl) ?_
  refine L_nil ?_
  refine Q_then ?_
  refine C_dec rfl (fun h23 => ?_) (fun h23 => ?_)
  ·
    refine J_seq ?_
    refine J_region ?_
    refine L_pur rfl (p_move rfl) ?_
    refine L_pur rfl (p_assign rfl) ?_
    refine L_nil ?_
    refine Q_then ?_
    refine J_ret ?_
    refine Q_then_ret ?_
    exact J_return (()) Try.results16 (.tmp rfl .nil) rfl (by repeat (first | exact Sub.nil | exact Sub.refl | refine Sub.cons (by repeat (first | exact Pick.here | apply Pick.there)) ?_ | refine Sub.drop ?_))
  ·
    refine J_skip ?_
    refine Q_then ?_
    refine J_seq ?_
    refine J_region ?_
    refine L_op (x_alloc ty116 rfl fun b4 => ?_)
    refine J_ntNew ?_
    refine L_nil ?_
    refine Q_then ?_
    refine J_seq ?_
    refine J_region ?_
    refine L_op (x_alloc ty127 rfl fun b5 => ?_)
    refine J_rnNew ?_
    refine L_nil ?_
    refine Q_then ?_
    refine J_seq ?_
    refine J_seq ?_
    refine J_region ?_
    refine L_pur rfl (p_assign rfl) ?_
    refine L_nil ?_
    refine Q_then ?_
    refine J_block ?_
    refine J_loop3 (fun i w xs => i ≤ ds.length ∧ xs.length ≤ i) (fun i w xs => [ntA b4 0 w xs, rnA b5 0 w xs, old W]) (fun i w xs => [(6, .int .i64 (i : Int)), (0, .slice a (ds.map encNd).length cap), (3, .bool true), (4, .pointer (some ⟨b4, 0, none⟩)), (5, .pointer (some ⟨b5, 0, none⟩))]) (fun i w xs => ds.length - i) 0 (0 : Int) ([] : List ID) ⟨by omega, by simp⟩ (by repeat (first | exact Sub.nil | exact Sub.refl | refine Sub.cons (by repeat (first | exact Pick.here | apply Pick.there)) ?_ | refine Sub.drop ?_)) (by repeat (first | exact Keep.nil | refine Keep.cons rfl ?_)) ?_
    intro i w xs ⟨hi, hxs⟩
    refine J_seq ?_
    refine J_seq ?_
    refine J_region ?_
    refine L_pur rfl (p_move rfl) ?_
    refine L_pur rfl (p_move rfl) ?_
    refine L_pur rfl (p_len rfl Try.underlying125) ?_
    refine L_pur rfl (p_lss rfl rfl) ?_
    refine L_nil ?_
    refine Q_then ?_
    refine C_dec rfl (fun h28 => ?_) (fun h28 => ?_)
    ·
      have hlt : i < ds.length := by omega
      obtain ⟨bx, ox, rfl⟩ := h3 (by intro h; rw [h] at hml; simp at hml; omega)
      obtain ⟨c, hcc⟩ : ∃ c, ds[i]? = some c := ⟨_, List.getElem?_eq_getElem hlt⟩
      obtain ⟨id, hid⟩ : ∃ id : ID, id = (1, (num c.2.1 9 : Int)) := ⟨_, rfl⟩
      refine J_skip ?_
      refine Q_then ?_
      refine J_seq ?_
      refine J_block ?_
      refine J_seq ?_
      refine J_region ?_
      refine L_pur rfl (p_move rfl) ?_
      refine L_pur rfl (p_move rfl) ?_
      refine L_pur rfl (p_indexAddr rfl rfl Try.underlying125 ty129 (by omega) (by omega)) ?_
      refine L_pur rfl (p_fieldAddr rfl fa129_1) ?_
      refine L_val rfl (by first | exact v_loadF rfl ty3 (by repeat (first | with_reducible exact Has.here | with_reducible assumption | with_reducible apply Has.there)) (by first | (simp only [Int.toNat_natCast, List.getElem?_map, hcc]; rfl) | (simp only [Int.toNat_natCast, List.getElem?_map, hcd]; rfl) | simp | rfl) (by exact rfl) | exact v_loadRF rfl ty3 (fun w H => hr.old (by repeat (first | with_reducible exact Has.here | with_reducible assumption | with_reducible apply Has.there)) H) (by first | (simp only [Int.toNat_natCast, List.getElem?_map, hcc]; rfl) | (simp only [Int.toNat_natCast, List.getElem?_map, hcd]; rfl) | simp | rfl) (by exact rfl)) ?_
      refine L_op (x_call Try.func23 nm23 bd23 (.cons rfl (.cons rfl .nil)) rfl (number (by omega) (by omega)) fun _ => ?_)
      refine L_pur rfl (bld36 (.cons rfl (.cons rfl .nil)) (by repeat constructor)) ?_
      refine L_op (x_alloc ty36 rfl fun b7 => ?_)
      refine L_op (x_store rfl rfl ty36 rfl (by first | rfl | (simp [*]; done)) (by first | rfl | (simp [*]; done)) (by repeat (first | with_reducible exact Rep1.here | with_reducible apply Rep1.there)) (by first | exact Put.full rfl | ((repeat constructor); done) | exact Put.full (by first | rfl | simp [*])) ?_)
      refine J_pick (A := blk b7 36 _) (by repeat (first | with_reducible exact Pick.here | with_reducible assumption | with_reducible apply Pick.there)) ?_
      refine J_asTo (B := blk b7 36 (encI id)) (by rw [hid]; rfl) ?_
      refine L_nil ?_
      refine Q_then ?_
      refine J_cut2 (fun (w : Int) (z : List ID) => As.pure (z.length ≤ i + 1) :: ntA b4 0 w z :: rnA b5 0 w z :: blk b7 36 (encI id) :: [old W]) (fun (w : Int) (z : List ID) => [(6, .int .i64 (i : Int)), (0, .slice (some ⟨bx, ox, none⟩) (ds.map encNd).length cap), (3, .bool true), (4, .pointer (some ⟨b4, 0, none⟩)), (5, .pointer (some ⟨b5, 0, none⟩)), (7, .pointer (some ⟨b7, 0, none⟩))]) ?_ ?_
      ·
        refine J_seq ?_
        refine J_region ?_
        refine L_pur rfl (p_move rfl) ?_
        refine L_pur rfl (p_move rfl) ?_
        refine L_pur rfl (p_indexAddr rfl rfl Try.underlying125 ty129 (by omega) (by omega)) ?_
        refine L_pur rfl (p_fieldAddr rfl fa129_0) ?_
        refine L_val rfl (by first | exact v_loadF rfl ty3 (by repeat (first | with_reducible exact Has.here | with_reducible assumption | with_reducible apply Has.there)) (by first | (simp only [Int.toNat_natCast, List.getElem?_map, hcc]; rfl) | (simp only [Int.toNat_natCast, List.getElem?_map, hcd]; rfl) | simp | rfl) (by exact rfl) | exact v_loadRF rfl ty3 (fun w H => hr.old (by repeat (first | with_reducible exact Has.here | with_reducible assumption | with_reducible apply Has.there)) H) (by first | (simp only [Int.toNat_natCast, List.getElem?_map, hcc]; rfl) | (simp only [Int.toNat_natCast, List.getElem?_map, hcd]; rfl) | simp | rfl) (by exact rfl)) ?_
        refine L_op (x_call Try.func23 nm23 bd23 (.cons rfl (.cons rfl .nil)) rfl (number (by omega) (by omega)) fun _ => ?_)
        refine L_nil ?_
        refine Q_then ?_
        refine J_block ?_
        refine J_seq ?_
        refine J_seq ?_
        refine J_region ?_
        refine L_pur rfl (p_eql rfl rfl) ?_
        refine L_pur rfl (p_assign rfl) ?_
        refine L_nil ?_
        refine Q_then ?_
        refine J_gsplit (t := 77) rfl (fun h77 => ?_) (fun h77 => ?_)
        ·
          refine C_true rfl ?_
          refine J_skip ?_
          refine Q_then ?_
          refine C_true rfl ?_
          refine J_seq ?_
          refine J_region ?_
          refine L_val rfl (v_loadA rfl ty36 (by repeat (first | with_reducible exact Has.here | with_reducible assumption | with_reducible apply Has.there)) (by first | exact Cut.full rfl | ((repeat constructor); done) | exact Cut.full (by first | rfl | simp [*]))) ?_
          refine L_op (x_call Try.func63 nm63 bd63 (.cons rfl (.cons rfl .nil)) rfl (nWait (xs := xs) (i := id) (by repeat (first | with_reducible exact Pick.here | with_reducible assumption | with_reducible apply Pick.there)) (by omega)) fun _ => ?_)
          refine L_pur rfl (p_move rfl) ?_
          refine L_pur rfl (p_extract rfl rfl) ?_
          refine L_pur rfl (p_extract rfl rfl) ?_
          refine L_pur rfl (p_assign rfl) ?_
          refine L_pur rfl (p_assign rfl) ?_
          refine L_nil ?_
          refine Q_then ?_
          refine J_seq ?_
          refine J_region ?_
          refine L_val rfl (v_loadA rfl ty36 (by repeat (first | with_reducible exact Has.here | with_reducible assumption | with_reducible apply Has.there)) (by first | exact Cut.full rfl | ((repeat constructor); done) | exact Cut.full (by first | rfl | simp [*]))) ?_
          refine L_op (x_call Try.func67 nm67 bd67 (.cons rfl (.cons rfl .nil)) rfl (rnWait (xs := xs) (i := id) (by repeat (first | with_reducible exact Pick.here | with_reducible assumption | with_reducible apply Pick.there)) (by omega)) fun _ => ?_)
          refine L_pur rfl (p_move rfl) ?_
          refine L_pur rfl (p_extract rfl rfl) ?_
          refine L_pur rfl (p_extract rfl rfl) ?_
          refine L_pur rfl (p_assign rfl) ?_
          refine L_pur rfl (p_assign rfl) ?_
          refine L_nil ?_
          refine Q_then ?_
          refine J_seq ?_
          refine J_region ?_
          refine L_pur rfl (p_move rfl) ?_
          refine L_pur rfl (p_move rfl) ?_
          refine L_pur rfl (p_neq rfl rfl) ?_
          refine L_pur rfl (p_move rfl) ?_
          refine J_bool (t := 93) (c := false) rfl (by simp) ?_
          refine L_op (G_on rfl rfl rfl ?_)
          refine J_pur (p_move rfl) rfl rfl rfl ?_
          refine L_op (G_on rfl rfl rfl ?_)
          refine J_pur (p_move rfl) rfl rfl rfl ?_
          refine L_op (G_on rfl rfl rfl ?_)
          refine J_pur (p_neb Try.underlying4 rfl rfl) rfl rfl rfl ?_
          refine L_pur rfl (p_pick_f rfl rfl) ?_
          refine L_nil ?_
          refine Q_then ?_
          refine J_bool (t := 97) (c := false) rfl (by simp) ?_
          refine C_false rfl ?_
          refine J_skip ?_
          refine Q_blk_normal ?_
          refine Q_then ?_
          refine J_pure_in (p := (waitL w xs id).length ≤ i + 1) (by have := waitL_len w xs id; omega) ?_
          exact J_at2 (L := (fun (w : Int) (z : List ID) => As.pure (z.length ≤ i + 1) :: ntA b4 0 w z :: rnA b5 0 w z :: blk b7 36 (encI id) :: [old W])) (G := (fun (w : Int) (z : List ID) => [(6, .int .i64 (i : Int)), (0, .slice (some ⟨bx, ox, none⟩) (ds.map encNd).length cap), (3, .bool true), (4, .pointer (some ⟨b4, 0, none⟩)), (5, .pointer (some ⟨b5, 0, none⟩)), (7, .pointer (some ⟨b7, 0, none⟩))])) 0 (waitL w xs id) (by repeat (first | exact Sub.nil | exact Sub.refl | refine Sub.cons (by repeat (first | exact Pick.here | apply Pick.there)) ?_ | refine Sub.drop ?_)) (by repeat (first | exact Keep.nil | refine Keep.cons rfl ?_))
        ·
          refine C_false rfl ?_
          refine J_region ?_
          refine L_pur rfl (p_eql rfl rfl) ?_
          refine L_pur rfl (p_assign rfl) ?_
          refine L_nil ?_
          refine Q_then ?_
          refine J_gsplit (t := 77) rfl (fun h77 => ?_) (fun h77 => ?_)
          ·
            refine C_true rfl ?_
            refine J_seq ?_
            refine J_region ?_
            refine L_val rfl (v_loadA rfl ty36 (by repeat (first | with_reducible exact Has.here | with_reducible assumption | with_reducible apply Has.there)) (by first | exact Cut.full rfl | ((repeat constructor); done) | exact Cut.full (by first | rfl | simp [*]))) ?_
            refine L_op (x_call Try.func63 nm63 bd63 (.cons rfl (.cons rfl .nil)) rfl (nWait (xs := xs) (i := id) (by repeat (first | with_reducible exact Pick.here | with_reducible assumption | with_reducible apply Pick.there)) (by omega)) fun _ => ?_)
            refine L_pur rfl (p_move rfl) ?_
            refine L_pur rfl (p_extract rfl rfl) ?_
            refine L_pur rfl (p_extract rfl rfl) ?_
            refine L_pur rfl (p_assign rfl) ?_
            refine L_pur rfl (p_assign rfl) ?_
            refine L_nil ?_
            refine Q_then ?_
            refine J_seq ?_
            refine J_region ?_
            refine L_val rfl (v_loadA rfl ty36 (by repeat (first | with_reducible exact Has.here | with_reducible assumption | with_reducible apply Has.there)) (by first | exact Cut.full rfl | ((repeat constructor); done) | exact Cut.full (by first | rfl | simp [*]))) ?_
            refine L_op (x_call Try.func67 nm67 bd67 (.cons rfl (.cons rfl .nil)) rfl (rnWait (xs := xs) (i := id) (by repeat (first | with_reducible exact Pick.here | with_reducible assumption | with_reducible apply Pick.there)) (by omega)) fun _ => ?_)
            refine L_pur rfl (p_move rfl) ?_
            refine L_pur rfl (p_extract rfl rfl) ?_
            refine L_pur rfl (p_extract rfl rfl) ?_
            refine L_pur rfl (p_assign rfl) ?_
            refine L_pur rfl (p_assign rfl) ?_
            refine L_nil ?_
            refine Q_then ?_
            refine J_seq ?_
            refine J_region ?_
            refine L_pur rfl (p_move rfl) ?_
            refine L_pur rfl (p_move rfl) ?_
            refine L_pur rfl (p_neq rfl rfl) ?_
            refine L_pur rfl (p_move rfl) ?_
            refine J_bool (t := 93) (c := false) rfl (by simp) ?_
            refine L_op (G_on rfl rfl rfl ?_)
            refine J_pur (p_move rfl) rfl rfl rfl ?_
            refine L_op (G_on rfl rfl rfl ?_)
            refine J_pur (p_move rfl) rfl rfl rfl ?_
            refine L_op (G_on rfl rfl rfl ?_)
            refine J_pur (p_neb Try.underlying4 rfl rfl) rfl rfl rfl ?_
            refine L_pur rfl (p_pick_f rfl rfl) ?_
            refine L_nil ?_
            refine Q_then ?_
            refine J_bool (t := 97) (c := false) rfl (by simp) ?_
            refine C_false rfl ?_
            refine J_skip ?_
            refine Q_blk_normal ?_
            refine Q_then ?_
            refine J_pure_in (p := (waitL w xs id).length ≤ i + 1) (by have := waitL_len w xs id; omega) ?_
            exact J_at2 (L := (fun (w : Int) (z : List ID) => As.pure (z.length ≤ i + 1) :: ntA b4 0 w z :: rnA b5 0 w z :: blk b7 36 (encI id) :: [old W])) (G := (fun (w : Int) (z : List ID) => [(6, .int .i64 (i : Int)), (0, .slice (some ⟨bx, ox, none⟩) (ds.map encNd).length cap), (3, .bool true), (4, .pointer (some ⟨b4, 0, none⟩)), (5, .pointer (some ⟨b5, 0, none⟩)), (7, .pointer (some ⟨b7, 0, none⟩))])) 0 (waitL w xs id) (by repeat (first | exact Sub.nil | exact Sub.refl | refine Sub.cons (by repeat (first | exact Pick.here | apply Pick.there)) ?_ | refine Sub.drop ?_)) (by repeat (first | exact Keep.nil | refine Keep.cons rfl ?_))
          ·
            refine C_false rfl ?_
            refine J_seq ?_
            refine J_region ?_
            refine L_pur rfl (p_eql rfl rfl) ?_
            refine L_pur rfl (p_assign rfl) ?_
            refine L_nil ?_
            refine Q_then ?_
            refine C_dec rfl (fun h98 => ?_) (fun h98 => ?_)
            ·
              refine J_seq ?_
              refine J_drawI [blk b7 36 (encI id)] mixed ?_
              refine I_take (i := 0) rfl rfl rfl rfl (by kernel_rfl) (by kernel_rfl) (by kernel_rfl) (fun _ _ _ _ h => h) (fun _ => v_loadA rfl ty36 (by repeat (first | with_reducible exact Has.here | with_reducible assumption | with_reducible apply Has.there)) (by first | exact Cut.full rfl | ((repeat constructor); done) | exact Cut.full (by first | rfl | simp [*]))) ?_
              refine I_take (i := 2) rfl rfl rfl rfl (by kernel_rfl) (by kernel_rfl) (by kernel_rfl) (fun _ _ _ _ h => h) (fun _ => Pur.vl (p_fieldAddr rfl fa127_1)) ?_
              refine I_take (i := 3) rfl rfl rfl rfl (by kernel_rfl) (by kernel_rfl) (by kernel_rfl) (fun _ _ _ _ h => h) (fun _ => v_loadA rfl ty36 (by repeat (first | with_reducible exact Has.here | with_reducible assumption | with_reducible apply Has.there)) (by first | exact Cut.full rfl | ((repeat constructor); done) | exact Cut.full (by first | rfl | simp [*]))) ?_
              refine I_one (i := 1) (by repeat (first | exact Sub.nil | exact Sub.refl | refine Sub.cons (by repeat (first | exact Pick.here | apply Pick.there)) ?_ | refine Sub.drop ?_)) (by kernel_rfl) rfl ?_
              refine x_call Try.func68 nm68 bd68 (.cons rfl (.cons rfl .nil)) rfl (nDrop (xs := xs) (i := id) (by repeat (first | with_reducible exact Pick.here | with_reducible assumption | with_reducible apply Pick.there)) (by omega)) fun _ => ?_
              refine I_one (i := 4) (by repeat (first | exact Sub.nil | exact Sub.refl | refine Sub.cons (by repeat (first | exact Pick.here | apply Pick.there)) ?_ | refine Sub.drop ?_)) (by kernel_rfl) rfl ?_
              refine Jop_out ?_
              refine J_pick (A := rnA b5 0 w xs) (by repeat (first | with_reducible exact Pick.here | with_reducible assumption | with_reducible apply Pick.there)) ?_
              refine J_rnO fun _ _ => ?_
              refine Jop_in ?_
              refine x_call Try.func51 nm51 bd51 (.cons rfl (.cons rfl .nil)) rfl (rlDrop (xs := xs) (i := id) (by repeat (first | with_reducible exact Pick.here | with_reducible assumption | with_reducible apply Pick.there)) (by omega)) fun _ => ?_
              refine J_rnS (b := b5) (o := 0) (w := w) (xs := ldrop xs id) (by repeat (first | exact Picks.nil | apply Picks.cons; (repeat (first | with_reducible exact Pick.here | with_reducible assumption | with_reducible apply Pick.there)))) trivial ?_
              refine I_take (i := 5) rfl rfl rfl rfl (by kernel_rfl) (by kernel_rfl) (by kernel_rfl) (fun _ _ _ _ h => h) (fun _ => Pur.vl (p_neb Try.underlying4 rfl rfl)) ?_
              refine I_done (by repeat (first | exact Sub.nil | exact Sub.refl | refine Sub.cons (by repeat (first | exact Pick.here | apply Pick.there)) ?_ | refine Sub.drop ?_)) (by kernel_rfl) ?_
              refine Q_then ?_
              refine J_bool (t := 105) (c := false) rfl (by simp) ?_
              refine C_false rfl ?_
              refine J_skip ?_
              refine Q_blk_normal ?_
              refine Q_then ?_
              refine J_pure_in (p := (ldrop xs id).length ≤ i + 1) (by have := ldrop_len xs id; omega) ?_
              exact J_at2 (L := (fun (w : Int) (z : List ID) => As.pure (z.length ≤ i + 1) :: ntA b4 0 w z :: rnA b5 0 w z :: blk b7 36 (encI id) :: [old W])) (G := (fun (w : Int) (z : List ID) => [(6, .int .i64 (i : Int)), (0, .slice (some ⟨bx, ox, none⟩) (ds.map encNd).length cap), (3, .bool true), (4, .pointer (some ⟨b4, 0, none⟩)), (5, .pointer (some ⟨b5, 0, none⟩)), (7, .pointer (some ⟨b7, 0, none⟩))])) w (ldrop xs id) (by repeat (first | exact Sub.nil | exact Sub.refl | refine Sub.cons (by repeat (first | exact Pick.here | apply Pick.there)) ?_ | refine Sub.drop ?_)) (by repeat (first | exact Keep.nil | refine Keep.cons rfl ?_))
            ·
              refine J_seq ?_
              refine J_region ?_
              refine L_pur rfl (p_move rfl) ?_
              refine L_pur rfl (p_move rfl) ?_
              refine L_pur rfl (p_indexAddr rfl rfl Try.underlying125 ty129 (by omega) (by omega)) ?_
              refine L_pur rfl (p_fieldAddr rfl fa129_2) ?_
              refine L_val rfl (by first | exact v_loadF rfl ty37 (by repeat (first | with_reducible exact Has.here | with_reducible assumption | with_reducible apply Has.there)) (by first | (simp only [Int.toNat_natCast, List.getElem?_map, hcc]; rfl) | (simp only [Int.toNat_natCast, List.getElem?_map, hcd]; rfl) | simp | rfl) (by exact rfl) | exact v_loadRF rfl ty37 (fun w H => hr.old (by repeat (first | with_reducible exact Has.here | with_reducible assumption | with_reducible apply Has.there)) H) (by first | (simp only [Int.toNat_natCast, List.getElem?_map, hcc]; rfl) | (simp only [Int.toNat_natCast, List.getElem?_map, hcd]; rfl) | simp | rfl) (by exact rfl)) ?_
              refine L_op (x_call Try.func65 nm65 bd65 (.cons rfl (.cons rfl .nil)) rfl (nSignal (xs := xs) (x := c.2.2) (by repeat (first | with_reducible exact Pick.here | with_reducible assumption | with_reducible apply Pick.there)) (by omega)) fun _ => ?_)
              refine L_pur rfl (p_move rfl) ?_
              refine L_pur rfl (p_extract rfl rfl) ?_
              refine L_pur rfl (p_extract rfl rfl) ?_
              refine L_pur rfl (p_extract rfl rfl) ?_
              refine L_op (x_alloc ty36 rfl fun b12 => ?_)
              refine L_op (x_store rfl rfl ty36 rfl (by first | rfl | (simp [*]; done)) (by first | rfl | (simp [*]; done)) (by repeat (first | with_reducible exact Rep1.here | with_reducible apply Rep1.there)) (by first | exact Put.full rfl | ((repeat constructor); done) | exact Put.full (by first | rfl | simp [*])) ?_)
              refine L_pur rfl (p_assign rfl) ?_
              refine L_pur rfl (p_assign rfl) ?_
              refine L_nil ?_
              refine Q_then ?_
              refine J_seq ?_
              refine J_region ?_
              refine L_pur rfl (p_move rfl) ?_
              refine L_pur rfl (p_move rfl) ?_
              refine L_pur rfl (p_indexAddr rfl rfl Try.underlying125 ty129 (by omega) (by omega)) ?_
              refine L_pur rfl (p_fieldAddr rfl fa129_2) ?_
              refine L_val rfl (by first | exact v_loadF rfl ty37 (by repeat (first | with_reducible exact Has.here | with_reducible assumption | with_reducible apply Has.there)) (by first | (simp only [Int.toNat_natCast, List.getElem?_map, hcc]; rfl) | (simp only [Int.toNat_natCast, List.getElem?_map, hcd]; rfl) | simp | rfl) (by exact rfl) | exact v_loadRF rfl ty37 (fun w H => hr.old (by repeat (first | with_reducible exact Has.here | with_reducible assumption | with_reducible apply Has.there)) H) (by first | (simp only [Int.toNat_natCast, List.getElem?_map, hcc]; rfl) | (simp only [Int.toNat_natCast, List.getElem?_map, hcd]; rfl) | simp | rfl) (by exact rfl)) ?_
              refine L_op (x_call Try.func69 nm69 bd69 (.cons rfl (.cons rfl .nil)) rfl (rnSignal (xs := xs) (x := c.2.2) (by repeat (first | with_reducible exact Pick.here | with_reducible assumption | with_reducible apply Pick.there)) (by omega)) fun _ => ?_)
              refine L_pur rfl (p_move rfl) ?_
              refine L_pur rfl (p_extract rfl rfl) ?_
              refine L_pur rfl (p_extract rfl rfl) ?_
              refine L_pur rfl (p_extract rfl rfl) ?_
              refine L_op (x_alloc ty36 rfl fun b15 => ?_)
              refine L_op (x_store rfl rfl ty36 rfl (by first | rfl | (simp [*]; done)) (by first | rfl | (simp [*]; done)) (by repeat (first | with_reducible exact Rep1.here | with_reducible apply Rep1.there)) (by first | exact Put.full rfl | ((repeat constructor); done) | exact Put.full (by first | rfl | simp [*])) ?_)
              refine L_pur rfl (p_assign rfl) ?_
              refine L_pur rfl (p_assign rfl) ?_
              refine L_nil ?_
              refine Q_then ?_
              refine J_seq ?_
              refine J_region ?_
              refine L_val rfl (v_loadA rfl ty36 (by repeat (first | with_reducible exact Has.here | with_reducible assumption | with_reducible apply Has.there)) (by first | exact Cut.full rfl | ((repeat constructor); done) | exact Cut.full (by first | rfl | simp [*]))) ?_
              refine L_val rfl (v_loadA rfl ty36 (by repeat (first | with_reducible exact Has.here | with_reducible assumption | with_reducible apply Has.there)) (by first | exact Cut.full rfl | ((repeat constructor); done) | exact Cut.full (by first | rfl | simp [*]))) ?_
              refine L_pur rfl (p_nev rfl rfl (fun w => eg36 _ _ _ _ _ w) (fun w => nev36 _ _ _ _ w)) ?_
              refine L_pur rfl (p_move rfl) ?_
              refine J_bool (t := 67) (c := false) rfl (by simp) ?_
              refine L_op (G_on rfl rfl rfl ?_)
              refine J_pur (p_move rfl) rfl rfl rfl ?_
              refine L_op (G_on rfl rfl rfl ?_)
              refine J_pur (p_move rfl) rfl rfl rfl ?_
              refine L_op (G_on rfl rfl rfl ?_)
              refine J_pur (p_neq rfl rfl) rfl rfl rfl ?_
              refine L_pur rfl (p_pick_f rfl rfl) ?_
              refine L_pur rfl (p_move rfl) ?_
              refine J_bool (t := 72) (c := false) rfl (by simp) ?_
              refine L_op (G_on rfl rfl rfl ?_)
              refine J_pur (p_move rfl) rfl rfl rfl ?_
              refine L_op (G_on rfl rfl rfl ?_)
              refine J_pur (p_move rfl) rfl rfl rfl ?_
              refine L_op (G_on rfl rfl rfl ?_)
              refine J_pur (p_neb Try.underlying4 rfl rfl) rfl rfl rfl ?_
              refine L_pur rfl (p_pick_f rfl rfl) ?_
              refine L_nil ?_
              refine Q_then ?_
              refine J_bool (t := 76) (c := false) rfl (by simp) ?_
              refine C_false rfl ?_
              refine J_skip ?_
              refine Q_blk_normal ?_
              refine Q_then ?_
              refine J_pure_in (p := (sigL w xs c.2.2).length ≤ i + 1) (by have := sigL_len w xs c.2.2; omega) ?_
              exact J_at2 (L := (fun (w : Int) (z : List ID) => As.pure (z.length ≤ i + 1) :: ntA b4 0 w z :: rnA b5 0 w z :: blk b7 36 (encI id) :: [old W])) (G := (fun (w : Int) (z : List ID) => [(6, .int .i64 (i : Int)), (0, .slice (some ⟨bx, ox, none⟩) (ds.map encNd).length cap), (3, .bool true), (4, .pointer (some ⟨b4, 0, none⟩)), (5, .pointer (some ⟨b5, 0, none⟩)), (7, .pointer (some ⟨b7, 0, none⟩))])) (sigW w xs c.2.2) (sigL w xs c.2.2) (by repeat (first | exact Sub.nil | exact Sub.refl | refine Sub.cons (by repeat (first | exact Pick.here | apply Pick.there)) ?_ | refine Sub.drop ?_)) (by repeat (first | exact Keep.nil | refine Keep.cons rfl ?_))
      ·
        intro w z
        refine J_pure fun hz => ?_
        refine J_seq ?_
        refine J_draw mixed ?_
        refine A_take (i := 1) rfl rfl rfl rfl (by kernel_rfl) (by kernel_rfl) (by kernel_rfl) (fun _ _ _ _ h => h) (p_fieldAddr rfl fa127_0) ?_
        refine A_ready (rs := [0, 2]) (by kernel_rfl) (by simp) ?_
        refine (A_cons rfl ?_ (A_cons rfl ?_ A_nil))
        ·
          refine x_call Try.func66 nm66 bd66 (.cons rfl .nil) rfl (nWord (xs := z) (by repeat (first | with_reducible exact Pick.here | with_reducible assumption | with_reducible apply Pick.there)) (by omega)) fun _ => ?_
          refine A_one (i := 2) (by kernel_rfl) rfl ?_
          refine Jop_out ?_
          refine J_pick (A := rnA b5 0 w z) (by repeat (first | with_reducible exact Pick.here | with_reducible assumption | with_reducible apply Pick.there)) ?_
          refine J_rnO fun _ _ => ?_
          refine Jop_in ?_
          refine J_val (v_loadL rfl ty37 (by repeat (first | with_reducible exact Has.here | with_reducible assumption | with_reducible apply Has.there)) rfl (by exact rfl)) rfl rfl rfl ?_
          refine J_rnS (b := b5) (o := 0) (w := w) (xs := z) (by repeat (first | exact Picks.nil | apply Picks.cons; (repeat (first | with_reducible exact Pick.here | with_reducible assumption | with_reducible apply Pick.there)))) trivial ?_
          refine A_take (i := 3) rfl rfl rfl rfl (by kernel_rfl) (by kernel_rfl) (by kernel_rfl) (fun _ _ _ _ h => h) (p_neq rfl rfl) ?_
          refine A_take (i := 4) rfl rfl rfl rfl (by kernel_rfl) (by kernel_rfl) (by kernel_rfl) (fun _ _ _ _ h => h) (p_move rfl) ?_
          refine J_bool (t := 110) (c := false) rfl (by simp) ?_
          refine A_takeOn (i := 6) rfl rfl rfl rfl rfl rfl rfl (by kernel_rfl) (by kernel_rfl) (by kernel_rfl) (fun _ _ _ _ h => h) (p_fieldAddr rfl fa127_1) ?_
          refine A_takeOn (i := 7) rfl rfl rfl rfl rfl rfl rfl (by kernel_rfl) (by kernel_rfl) (by kernel_rfl) (fun _ _ _ _ h => h) (p_fieldAddr rfl fa91_0) ?_
          refine A_ready (rs := [5, 8]) (by kernel_rfl) (by simp) ?_
          refine (A_cons rfl ?_ (A_cons rfl ?_ A_nil))
          ·
            refine G_on rfl rfl rfl ?_
            refine x_call Try.func64 nm64 bd64 (.cons rfl .nil) rfl (nWaits (xs := z) (by repeat (first | with_reducible exact Pick.here | with_reducible assumption | with_reducible apply Pick.there)) (by omega)) fun v111 => ?_
            refine J_row .here fun hw111 a111 c111 hv111 hl111 hm111 hz111 => ?_
            subst hv111
            refine A_one (i := 8) (by kernel_rfl) rfl ?_
            refine G_on rfl rfl rfl ?_
            refine Jop_out ?_
            refine J_pick (A := rnA b5 0 w z) (by repeat (first | with_reducible exact Pick.here | with_reducible assumption | with_reducible apply Pick.there)) ?_
            refine J_rnO fun _ _ => ?_
            refine J_pick (A := rlA b5 (0 + 1) z) (by repeat (first | with_reducible exact Pick.here | with_reducible assumption | with_reducible apply Pick.there)) ?_
            refine J_rlO fun vx hwx => ?_
            refine J_row (.there .here) fun hwfx ax capx hvx h1x h2x h3x => ?_
            subst hvx
            refine Jop_in ?_
            refine J_val (v_loadL rfl ty80 (by repeat (first | with_reducible exact Has.here | with_reducible assumption | with_reducible apply Has.there)) rfl (by exact rfl)) rfl rfl rfl ?_
            refine A_one (i := 9) (by kernel_rfl) rfl ?_
            refine G_on rfl rfl rfl ?_
            refine x_call Try.func55 nm55 bd55 (.cons rfl (.cons rfl .nil)) rfl (sameIDs (xs := z) (fun w H => sep_reads (by repeat (first | with_reducible exact Has.here | with_reducible assumption | with_reducible apply Has.there)) H) (fun w H => sep_reads (by repeat (first | with_reducible exact Has.here | with_reducible assumption | with_reducible apply Has.there)) H) (by omega)) fun _ => ?_
            refine J_rlS (b := b5) (o := 0 + 1) (xs := z) _ (by repeat (first | exact Picks.nil | apply Picks.cons; (repeat (first | with_reducible exact Pick.here | with_reducible assumption | with_reducible apply Pick.there)))) hwx ?_
            refine J_rnS (b := b5) (o := 0) (w := w) (xs := z) (by repeat (first | exact Picks.nil | apply Picks.cons; (repeat (first | with_reducible exact Pick.here | with_reducible assumption | with_reducible apply Pick.there)))) trivial ?_
            refine A_takeOn (i := 10) rfl rfl rfl rfl rfl rfl rfl (by kernel_rfl) (by kernel_rfl) (by kernel_rfl) (fun _ _ _ _ h => h) (p_not rfl) ?_
            refine A_take (i := 11) rfl rfl rfl rfl (by kernel_rfl) (by kernel_rfl) (by kernel_rfl) (fun _ _ _ _ h => h) (p_pick_f rfl rfl) ?_
            refine A_done (by kernel_rfl) ?_
            refine Q_then ?_
            refine J_bool (t := 117) (c := false) rfl (by simp) ?_
            refine C_false rfl ?_
            refine J_skip ?_
            refine Q_blk_normal ?_
            refine Q_then ?_
            refine J_region ?_
            refine L_pur rfl (p_move rfl) ?_
            refine L_pur rfl (p_add64 rfl rfl (by omega)) ?_
            refine L_pur rfl (p_assign rfl) ?_
            refine L_nil ?_
            refine Q_then ?_
            exact J_again3 (i + 1) w z (by omega) (⟨by omega, by omega⟩) (by repeat (first | exact Sub.nil | exact Sub.refl | refine Sub.cons (by repeat (first | exact Pick.here | apply Pick.there)) ?_ | refine Sub.drop ?_)) (by repeat (first | exact Keep.nil | refine Keep.cons rfl ?_))
          ·
            refine G_on rfl rfl rfl ?_
            refine Jop_out ?_
            refine J_pick (A := rnA b5 0 w z) (by repeat (first | with_reducible exact Pick.here | with_reducible assumption | with_reducible apply Pick.there)) ?_
            refine J_rnO fun _ _ => ?_
            refine J_pick (A := rlA b5 (0 + 1) z) (by repeat (first | with_reducible exact Pick.here | with_reducible assumption | with_reducible apply Pick.there)) ?_
            refine J_rlO fun vx hwx => ?_
            refine J_row (.there .here) fun hwfx ax capx hvx h1x h2x h3x => ?_
            subst hvx
            refine Jop_in ?_
            refine J_val (v_loadL rfl ty80 (by repeat (first | with_reducible exact Has.here | with_reducible assumption | with_reducible apply Has.there)) rfl (by exact rfl)) rfl rfl rfl ?_
            refine A_one (i := 5) (by kernel_rfl) rfl ?_
            refine G_on rfl rfl rfl ?_
            refine x_call Try.func64 nm64 bd64 (.cons rfl .nil) rfl (nWaits (xs := z) (by repeat (first | with_reducible exact Pick.here | with_reducible assumption | with_reducible apply Pick.there)) (by omega)) fun v111 => ?_
            refine J_row .here fun hw111 a111 c111 hv111 hl111 hm111 hz111 => ?_
            subst hv111
            refine A_one (i := 9) (by kernel_rfl) rfl ?_
            refine G_on rfl rfl rfl ?_
            refine x_call Try.func55 nm55 bd55 (.cons rfl (.cons rfl .nil)) rfl (sameIDs (xs := z) (fun w H => sep_reads (by repeat (first | with_reducible exact Has.here | with_reducible assumption | with_reducible apply Has.there)) H) (fun w H => sep_reads (by repeat (first | with_reducible exact Has.here | with_reducible assumption | with_reducible apply Has.there)) H) (by omega)) fun _ => ?_
            refine J_rlS (b := b5) (o := 0 + 1) (xs := z) _ (by repeat (first | exact Picks.nil | apply Picks.cons; (repeat (first | with_reducible exact Pick.here | with_reducible assumption | with_reducible apply Pick.there)))) hwx ?_
            refine J_rnS (b := b5) (o := 0) (w := w) (xs := z) (by repeat (first | exact Picks.nil | apply Picks.cons; (repeat (first | with_reducible exact Pick.here | with_reducible assumption | with_reducible apply Pick.there)))) trivial ?_
            refine A_takeOn (i := 10) rfl rfl rfl rfl rfl rfl rfl (by kernel_rfl) (by kernel_rfl) (by kernel_rfl) (fun _ _ _ _ h => h) (p_not rfl) ?_
            refine A_take (i := 11) rfl rfl rfl rfl (by kernel_rfl) (by kernel_rfl) (by kernel_rfl) (fun _ _ _ _ h => h) (p_pick_f rfl rfl) ?_
            refine A_done (by kernel_rfl) ?_
            refine Q_then ?_
            refine J_bool (t := 117) (c := false) rfl (by simp) ?_
            refine C_false rfl ?_
            refine J_skip ?_
            refine Q_blk_normal ?_
            refine Q_then ?_
            refine J_region ?_
            refine L_pur rfl (p_move rfl) ?_
            refine L_pur rfl (p_add64 rfl rfl (by omega)) ?_
            refine L_pur rfl (p_assign rfl) ?_
            refine L_nil ?_
            refine Q_then ?_
            exact J_again3 (i + 1) w z (by omega) (⟨by omega, by omega⟩) (by repeat (first | exact Sub.nil | exact Sub.refl | refine Sub.cons (by repeat (first | exact Pick.here | apply Pick.there)) ?_ | refine Sub.drop ?_)) (by repeat (first | exact Keep.nil | refine Keep.cons rfl ?_))
        ·
          refine Jop_out ?_
          refine J_pick (A := rnA b5 0 w z) (by repeat (first | with_reducible exact Pick.here | with_reducible assumption | with_reducible apply Pick.there)) ?_
          refine J_rnO fun _ _ => ?_
          refine Jop_in ?_
          refine J_val (v_loadL rfl ty37 (by repeat (first | with_reducible exact Has.here | with_reducible assumption | with_reducible apply Has.there)) rfl (by exact rfl)) rfl rfl rfl ?_
          refine J_rnS (b := b5) (o := 0) (w := w) (xs := z) (by repeat (first | exact Picks.nil | apply Picks.cons; (repeat (first | with_reducible exact Pick.here | with_reducible assumption | with_reducible apply Pick.there)))) trivial ?_
          refine A_one (i := 0) (by kernel_rfl) rfl ?_
          refine x_call Try.func66 nm66 bd66 (.cons rfl .nil) rfl (nWord (xs := z) (by repeat (first | with_reducible exact Pick.here | with_reducible assumption | with_reducible apply Pick.there)) (by omega)) fun _ => ?_
          refine A_take (i := 3) rfl rfl rfl rfl (by kernel_rfl) (by kernel_rfl) (by kernel_rfl) (fun _ _ _ _ h => h) (p_neq rfl rfl) ?_
          refine A_take (i := 4) rfl rfl rfl rfl (by kernel_rfl) (by kernel_rfl) (by kernel_rfl) (fun _ _ _ _ h => h) (p_move rfl) ?_
          refine J_bool (t := 110) (c := false) rfl (by simp) ?_
          refine A_takeOn (i := 6) rfl rfl rfl rfl rfl rfl rfl (by kernel_rfl) (by kernel_rfl) (by kernel_rfl) (fun _ _ _ _ h => h) (p_fieldAddr rfl fa127_1) ?_
          refine A_takeOn (i := 7) rfl rfl rfl rfl rfl rfl rfl (by kernel_rfl) (by kernel_rfl) (by kernel_rfl) (fun _ _ _ _ h => h) (p_fieldAddr rfl fa91_0) ?_
          refine A_ready (rs := [5, 8]) (by kernel_rfl) (by simp) ?_
          refine (A_cons rfl ?_ (A_cons rfl ?_ A_nil))
          ·
            refine G_on rfl rfl rfl ?_
            refine x_call Try.func64 nm64 bd64 (.cons rfl .nil) rfl (nWaits (xs := z) (by repeat (first | with_reducible exact Pick.here | with_reducible assumption | with_reducible apply Pick.there)) (by omega)) fun v111 => ?_
            refine J_row .here fun hw111 a111 c111 hv111 hl111 hm111 hz111 => ?_
            subst hv111
            refine A_one (i := 8) (by kernel_rfl) rfl ?_
            refine G_on rfl rfl rfl ?_
            refine Jop_out ?_
            refine J_pick (A := rnA b5 0 w z) (by repeat (first | with_reducible exact Pick.here | with_reducible assumption | with_reducible apply Pick.there)) ?_
            refine J_rnO fun _ _ => ?_
            refine J_pick (A := rlA b5 (0 + 1) z) (by repeat (first | with_reducible exact Pick.here | with_reducible assumption | with_reducible apply Pick.there)) ?_
            refine J_rlO fun vx hwx => ?_
            refine J_row (.there .here) fun hwfx ax capx hvx h1x h2x h3x => ?_
            subst hvx
            refine Jop_in ?_
            refine J_val (v_loadL rfl ty80 (by repeat (first | with_reducible exact Has.here | with_reducible assumption | with_reducible apply Has.there)) rfl (by exact rfl)) rfl rfl rfl ?_
            refine A_one (i := 9) (by kernel_rfl) rfl ?_
            refine G_on rfl rfl rfl ?_
            refine x_call Try.func55 nm55 bd55 (.cons rfl (.cons rfl .nil)) rfl (sameIDs (xs := z) (fun w H => sep_reads (by repeat (first | with_reducible exact Has.here | with_reducible assumption | with_reducible apply Has.there)) H) (fun w H => sep_reads (by repeat (first | with_reducible exact Has.here | with_reducible assumption | with_reducible apply Has.there)) H) (by omega)) fun _ => ?_
            refine J_rlS (b := b5) (o := 0 + 1) (xs := z) _ (by repeat (first | exact Picks.nil | apply Picks.cons; (repeat (first | with_reducible exact Pick.here | with_reducible assumption | with_reducible apply Pick.there)))) hwx ?_
            refine J_rnS (b := b5) (o := 0) (w := w) (xs := z) (by repeat (first | exact Picks.nil | apply Picks.cons; (repeat (first | with_reducible exact Pick.here | with_reducible assumption | with_reducible apply Pick.there)))) trivial ?_
            refine A_takeOn (i := 10) rfl rfl rfl rfl rfl rfl rfl (by kernel_rfl) (by kernel_rfl) (by kernel_rfl) (fun _ _ _ _ h => h) (p_not rfl) ?_
            refine A_take (i := 11) rfl rfl rfl rfl (by kernel_rfl) (by kernel_rfl) (by kernel_rfl) (fun _ _ _ _ h => h) (p_pick_f rfl rfl) ?_
            refine A_done (by kernel_rfl) ?_
            refine Q_then ?_
            refine J_bool (t := 117) (c := false) rfl (by simp) ?_
            refine C_false rfl ?_
            refine J_skip ?_
            refine Q_blk_normal ?_
            refine Q_then ?_
            refine J_region ?_
            refine L_pur rfl (p_move rfl) ?_
            refine L_pur rfl (p_add64 rfl rfl (by omega)) ?_
            refine L_pur rfl (p_assign rfl) ?_
            refine L_nil ?_
            refine Q_then ?_
            exact J_again3 (i + 1) w z (by omega) (⟨by omega, by omega⟩) (by repeat (first | exact Sub.nil | exact Sub.refl | refine Sub.cons (by repeat (first | exact Pick.here | apply Pick.there)) ?_ | refine Sub.drop ?_)) (by repeat (first | exact Keep.nil | refine Keep.cons rfl ?_))
          ·
            refine G_on rfl rfl rfl ?_
            refine Jop_out ?_
            refine J_pick (A := rnA b5 0 w z) (by repeat (first | with_reducible exact Pick.here | with_reducible assumption | with_reducible apply Pick.there)) ?_
            refine J_rnO fun _ _ => ?_
            refine J_pick (A := rlA b5 (0 + 1) z) (by repeat (first | with_reducible exact Pick.here | with_reducible assumption | with_reducible apply Pick.there)) ?_
            refine J_rlO fun vx hwx => ?_
            refine J_row (.there .here) fun hwfx ax capx hvx h1x h2x h3x => ?_
            subst hvx
            refine Jop_in ?_
            refine J_val (v_loadL rfl ty80 (by repeat (first | with_reducible exact Has.here | with_reducible assumption | with_reducible apply Has.there)) rfl (by exact rfl)) rfl rfl rfl ?_
            refine A_one (i := 5) (by kernel_rfl) rfl ?_
            refine G_on rfl rfl rfl ?_
            refine x_call Try.func64 nm64 bd64 (.cons rfl .nil) rfl (nWaits (xs := z) (by repeat (first | with_reducible exact Pick.here | with_reducible assumption | with_reducible apply Pick.there)) (by omega)) fun v111 => ?_
            refine J_row .here fun hw111 a111 c111 hv111 hl111 hm111 hz111 => ?_
            subst hv111
            refine A_one (i := 9) (by kernel_rfl) rfl ?_
            refine G_on rfl rfl rfl ?_
            refine x_call Try.func55 nm55 bd55 (.cons rfl (.cons rfl .nil)) rfl (sameIDs (xs := z) (fun w H => sep_reads (by repeat (first | with_reducible exact Has.here | with_reducible assumption | with_reducible apply Has.there)) H) (fun w H => sep_reads (by repeat (first | with_reducible exact Has.here | with_reducible assumption | with_reducible apply Has.there)) H) (by omega)) fun _ => ?_
            refine J_rlS (b := b5) (o := 0 + 1) (xs := z) _ (by repeat (first | exact Picks.nil | apply Picks.cons; (repeat (first | with_reducible exact Pick.here | with_reducible assumption | with_reducible apply Pick.there)))) hwx ?_
            refine J_rnS (b := b5) (o := 0) (w := w) (xs := z) (by repeat (first | exact Picks.nil | apply Picks.cons; (repeat (first | with_reducible exact Pick.here | with_reducible assumption | with_reducible apply Pick.there)))) trivial ?_
            refine A_takeOn (i := 10) rfl rfl rfl rfl rfl rfl rfl (by kernel_rfl) (by kernel_rfl) (by kernel_rfl) (fun _ _ _ _ h => h) (p_not rfl) ?_
            refine A_take (i := 11) rfl rfl rfl rfl (by kernel_rfl) (by kernel_rfl) (by kernel_rfl) (fun _ _ _ _ h => h) (p_pick_f rfl rfl) ?_
            refine A_done (by kernel_rfl) ?_
            refine Q_then ?_
            refine J_bool (t := 117) (c := false) rfl (by simp) ?_
            refine C_false rfl ?_
            refine J_skip ?_
            refine Q_blk_normal ?_
            refine Q_then ?_
            refine J_region ?_
            refine L_pur rfl (p_move rfl) ?_
            refine L_pur rfl (p_add64 rfl rfl (by omega)) ?_
            refine L_pur rfl (p_assign rfl) ?_
            refine L_nil ?_
            refine Q_then ?_
            exact J_again3 (i + 1) w z (by omega) (⟨by omega, by omega⟩) (by repeat (first | exact Sub.nil | exact Sub.refl | refine Sub.cons (by repeat (first | exact Pick.here | apply Pick.there)) ?_ | refine Sub.drop ?_)) (by repeat (first | exact Keep.nil | refine Keep.cons rfl ?_))
    ·
      refine J_exit ?_
      refine Q_then_exit ?_
      refine Q_then_exit ?_
      refine Q_blk_this ?_
      refine Q_then ?_
      refine J_seq ?_
      refine J_region ?_
      refine L_pur rfl (p_move rfl) ?_
      refine L_pur rfl (p_assign rfl) ?_
      refine L_nil ?_
      refine Q_then ?_
      refine J_ret ?_
      exact J_return (()) Try.results16 (.tmp rfl .nil) rfl (by repeat (first | exact Sub.nil | exact Sub.refl | refine Sub.cons (by repeat (first | exact Pick.here | apply Pick.there)) ?_ | refine Sub.drop ?_))

theorem dec_Nd {x : List Value} (h0 : Shape [.int .i64, .int .i64, .int .u32] x) : ∃ d : DoN, x = encNd d ∧ True := by
  obtain ⟨_, _, rfl, ⟨a0, rfl, _⟩, h1⟩ := h0.cons_inv
  obtain ⟨_, _, rfl, ⟨a1, rfl, _⟩, h2⟩ := h1.cons_inv
  obtain ⟨_, _, rfl, ⟨a2, rfl, _⟩, h3⟩ := h2.cons_inv
  rw [h3.nil_inv]; exact ⟨(a0, a1, a2), rfl, trivial⟩

end Go.Pse
