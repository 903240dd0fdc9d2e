/-
  The law on deadlines put in, taken out, due.
-/
import Derived.Test.YtjolbnicboaaeaaTm3
import Derived.Test.YtjolbnicboaaeaaNum
import Derived.Test.YtjolbnicboaaeaaArg
namespace Go.Pse
open Go.RowKit Go.Proofs

theorem J_hpNew {E : World} {l : List As} {n : Nat} {F : Env} {K : Act → World → Prop} {b : Nat} (k : Jk E (hpA b 0 [] :: l) n F K) : Jk E (blk b 134 [.slice none 0 0] :: l) n F K :=
  J_fld (J_nil (el := 175) (sz := 3) (J_hpS (b := b) (o := 0) (xs := []) _ (.cons (.there .here) (.cons .here .nil)) List.Pairwise.nil k))
theorem J_hrNew {E : World} {l : List As} {n : Nat} {F : Env} {K : Act → World → Prop} {b : Nat} (k : Jk E (hrA b 0 [] :: l) n F K) : Jk E (blk b 144 [.slice none 0 0] :: l) n F K :=
  J_fld (J_nil (el := 184) (sz := 3) (J_hrS (b := b) (o := 0) (xs := []) _ (.cons (.there .here) (.cons .here .nil)) List.Pairwise.nil k))
abbrev DoT := Int × Int × Int × Int
def encDt (d : DoT) : List Value := [.int .i64 d.1, .int .i64 d.2.1, .int .i64 d.2.2.1, .int .i64 d.2.2.2]

set_option maxRecDepth 100000 in
set_option maxHeartbeats 4000000 in
theorem first21 {E : World} {l : List As} :
  Con Try.prog 70 #[] E l (fun _ : Unit => .bool true) (fun _ => l) := by
 refine Con.body (vs := []) (n := 19) Try.func70 rfl rfl [] (env_ok 0 rfl) ?_
 refine J_seq ?_
 refine J_region ?_
 refine L_pur rfl (p_assign rfl) ?_
 refine L_nil ?_
 refine Q_then ?_
 refine J_seq ?_
 refine J_region ?_
 refine L_op (x_alloc ty134 rfl fun b1 => ?_)
 refine J_hpNew ?_
 refine L_nil ?_
 refine Q_then ?_
 refine J_seq ?_
 refine J_seq ?_
 refine J_region ?_
 refine L_op (x_call Try.func74 nm74 bd74 (.cons rfl (.cons rfl .nil)) rfl (hDue (xs := []) PC (by simp) 9) fun v2 => ?_)
 refine J_row .here fun hw2 a2 c2 hv2 hl2 hm2 hz2 => ?_
 subst hv2
 refine J_pick (A := hpA b1 0 _) PC ?_
 refine J_asTo (B := hpA b1 0 []) (rfl) ?_
 refine L_pur rfl (p_len rfl Try.underlying80) ?_
 refine L_pur rfl (p_neq rfl rfl) ?_
 refine L_nil ?_
 refine Q_then ?_
 refine J_bool (t := 4) (c := false) rfl (by simp [due]) ?_
 refine C_false rfl ?_
 refine J_skip ?_
 refine Q_then ?_
 refine J_seq ?_
 refine J_region ?_
 refine L_pur rfl (bld36 (.cons rfl (.cons rfl .nil)) (by repeat constructor)) ?_
 refine L_op (x_call Try.func71 nm71 bd71 (.cons rfl (.cons rfl (.cons rfl .nil))) rfl (hPush (xs := []) PC (by simp) 5 (1, 1)) fun _ => ?_)
 refine J_pick (A := hpA b1 0 _) PC ?_
 refine J_asTo (B := hpA b1 0 [(5, (1, 1))]) (rfl) ?_
 refine L_nil ?_
 refine Q_then ?_
 refine J_seq ?_
 refine J_region ?_
 refine L_op (x_call Try.func74 nm74 bd74 (.cons rfl (.cons rfl .nil)) rfl (hDue (xs := [(5, (1, 1))]) PC (by simp) 4) fun v7 => ?_)
 refine J_row .here fun hw7 a7 c7 hv7 hl7 hm7 hz7 => ?_
 subst hv7
 refine J_pick (A := hpA b1 0 _) PC ?_
 refine J_asTo (B := hpA b1 0 [(5, (1, 1))]) (by simp [late]) ?_
 refine L_pur rfl (p_len rfl Try.underlying80) ?_
 refine L_pur rfl (p_eql rfl rfl) ?_
 refine L_pur rfl (p_move rfl) ?_
 refine J_bool (t := 10) (c := true) rfl (by simp [due]) ?_
 refine L_op (G_on rfl rfl rfl ?_)
 refine x_call Try.func74 nm74 bd74 (.cons rfl (.cons rfl .nil)) rfl (hDue (xs := [(5, (1, 1))]) PC (by simp) 5) fun v11 => ?_
 refine J_row .here fun hw11 a11 c11 hv11 hl11 hm11 hz11 => ?_
 subst hv11
 refine J_pick (A := hpA b1 0 _) PC ?_
 refine J_asTo (B := hpA b1 0 []) (by simp [late]) ?_
 refine L_op (G_on rfl rfl rfl ?_)
 refine J_pur (p_len rfl Try.underlying80) rfl rfl rfl ?_
 refine L_op (G_on rfl rfl rfl ?_)
 refine J_pur (p_eql rfl rfl) rfl rfl rfl ?_
 refine L_pur rfl (p_pick_t rfl rfl) ?_
 refine L_pur rfl (p_move rfl) ?_
 refine J_bool (t := 15) (c := true) rfl (by simp [due]) ?_
 refine L_op (G_on rfl rfl rfl ?_)
 refine x_call Try.func72 nm72 bd72 (.cons rfl .nil) rfl (hLen (xs := []) PC (by simp)) fun _ => ?_
 refine L_op (G_on rfl rfl rfl ?_)
 refine J_pur (p_eql rfl rfl) rfl rfl rfl ?_
 refine L_pur rfl (p_pick_t rfl rfl) ?_
 refine J_bool (t := 18) (c := true) rfl (by simp) ?_
 refine L_pur rfl (p_assign rfl) ?_
 refine L_nil ?_
 refine Q_then ?_
 refine J_ret ?_
 exact J_return (()) Try.results70 (.tmp rfl .nil) rfl SU

set_option maxRecDepth 100000 in
set_option maxHeartbeats 4000000 in
theorem timerPlays {E W : World} {v : Value} {ds : List DoT} (hr : Reads W 4 v (ds.map encDt)) (high : Int) :
  Con Try.prog 20 #[v, .int .u64 high] E [old W] (fun _ : Unit => .bool true) (fun _ => [old W]) := by
 refine Con.body (vs := [v, .int .u64 high]) (n := 115) Try.func20 rfl rfl [(0, v), (1, .int .u64 high)] (env_ok 2 rfl) ?_
 refine J_readsB (fun w H => hr.old HS H) fun hw a cap hv h1 h2 h3 => ?_
 subst hv
 have hm : cap ≤ 9223372036854775807 := h2
 have hml : (ds.map encDt).length = ds.length := List.length_map _
 refine J_seq ?_
 refine J_region ?_
 refine L_pur rfl (p_assign rfl) ?_
 refine L_nil ?_
 refine Q_then ?_
 refine J_seq ?_
 refine J_region ?_
 refine L_op (x_call Try.func70 nm70 bd70 .nil rfl (first21) fun _ => ?_)
 refine L_pur rfl (p_assign rfl) ?_
 refine L_nil ?_
 refine Q_then ?_
 refine J_seq ?_
 refine J_seq ?_
 refine J_region ?_
 refine L_pur rfl (p_move rfl) ?_
 refine L_pur rfl (p_not rfl) ?_
 refine L_nil ?_
 refine Q_then ?_
 refine J_bool (t := 19) (c := false) rfl (rfl) ?_
 refine C_false rfl ?_
 refine J_skip ?_
 refine Q_then ?_
 refine J_seq ?_
 refine J_seq ?_
 refine J_region ?_
 refine L_pur rfl (p_move rfl) ?_
 refine L_pur rfl (p_len rfl Try.underlying141) ?_
 refine L_pur rfl (p_gtr rfl rfl) ?_
 refine L_nil ?_
 refine Q_then ?_
 refine C_dec rfl (fun h22 => ?_) (fun h22 => ?_)
 ·
  refine J_seq ?_
  refine J_region ?_
  refine L_pur rfl (p_move rfl) ?_
  refine L_pur rfl (p_assign rfl) ?_
  refine L_nil ?_
  refine Q_then ?_
  refine J_ret ?_
  refine Q_then_ret ?_
  exact J_return (()) Try.results20 (.tmp rfl .nil) rfl SU
 ·
  refine J_skip ?_
  refine Q_then ?_
  refine J_seq ?_
  refine J_region ?_
  refine L_op (x_alloc ty134 rfl fun b6 => ?_)
  refine J_hpNew ?_
  refine L_nil ?_
  refine Q_then ?_
  refine J_seq ?_
  refine J_region ?_
  refine L_op (x_alloc ty144 rfl fun b7 => ?_)
  refine J_hrNew ?_
  refine L_nil ?_
  refine Q_then ?_
  refine J_seq ?_
  refine J_seq ?_
  refine J_region ?_
  refine L_pur rfl (p_assign rfl) ?_
  refine L_nil ?_
  refine Q_then ?_
  refine J_block ?_
  refine J_loop2 (fun i xs => i ≤ ds.length ∧ xs.length ≤ i) (fun i xs => [hpA b6 0 xs, hrA b7 0 xs, old W]) (fun i xs => [(8, .int .i64 (i : Int)), (0, .slice a (ds.map encDt).length cap), (1, .int .u64 high), (5, .bool true), (6, .pointer (some ⟨b6, 0, none⟩)), (7, .pointer (some ⟨b7, 0, none⟩))]) (fun i xs => ds.length - i) 0 ([] : List Tm) ⟨by omega, by simp⟩ SU KE ?_
  intro i xs ⟨hi, hxs⟩
  refine J_seq ?_
  refine J_seq ?_
  refine J_region ?_
  refine L_pur rfl (p_move rfl) ?_
  refine L_pur rfl (p_move rfl) ?_
  refine L_pur rfl (p_len rfl Try.underlying141) ?_
  refine L_pur rfl (p_lss rfl rfl) ?_
  refine L_nil ?_
  refine Q_then ?_
  refine C_dec rfl (fun h27 => ?_) (fun h27 => ?_)
  ·
   have hlt : i < ds.length := by omega
   obtain ⟨bx, ox, rfl⟩ := h3 (by intro h; rw [h] at hml; simp at hml; omega)
   obtain ⟨c, hcc⟩ : ∃ c, ds[i]? = some c := ⟨_, List.getElem?_eq_getElem hlt⟩
   obtain ⟨id, hid⟩ : ∃ id : ID, id = ((num c.2.2.1 3 : Int), (num c.2.2.2 12 : Int)) := ⟨_, rfl⟩
   refine J_skip ?_
   refine Q_then ?_
   refine J_seq ?_
   refine J_block ?_
   refine J_seq ?_
   refine J_drawI (some 14) [old W] mixed ?_
   refine I_take (i := 0) rfl rfl rfl rfl (by kernel_rfl) (fun _ _ _ _ h => h) (fun _ => Pur.vl (p_move rfl)) ?_
   refine I_take (i := 1) rfl rfl rfl rfl (by kernel_rfl) (fun _ _ _ _ h => h) (fun _ => Pur.vl (p_move rfl)) ?_
   refine I_take (i := 2) rfl rfl rfl rfl (by kernel_rfl) (fun _ _ _ _ h => h) (fun _ => Pur.vl (p_indexAddr rfl rfl Try.underlying141 ty146 (by omega) (by omega))) ?_
   refine I_take (i := 3) rfl rfl rfl rfl (by kernel_rfl) (fun _ _ _ _ h => h) (fun _ => Pur.vl (p_fieldAddr rfl fa146_2)) ?_
   refine I_take (i := 4) rfl rfl rfl rfl (by kernel_rfl) (fun _ _ _ _ h => h) (fun _ => v_loadRF rfl ty3 (fun w H => hr.old HS H) (by first | (simp only [Int.toNat_natCast, List.getElem?_map, hcc]; rfl) | (simp only [Int.toNat_natCast, List.getElem?_map, hcd]; rfl) | simp | rfl) (by exact rfl)) ?_
   refine I_take (i := 6) rfl rfl rfl rfl (by kernel_rfl) (fun _ _ _ _ h => h) (fun _ => Pur.vl (p_move rfl)) ?_
   refine I_take (i := 7) rfl rfl rfl rfl (by kernel_rfl) (fun _ _ _ _ h => h) (fun _ => Pur.vl (p_move rfl)) ?_
   refine I_take (i := 8) rfl rfl rfl rfl (by kernel_rfl) (fun _ _ _ _ h => h) (fun _ => Pur.vl (p_indexAddr rfl rfl Try.underlying141 ty146 (by omega) (by omega))) ?_
   refine I_take (i := 9) rfl rfl rfl rfl (by kernel_rfl) (fun _ _ _ _ h => h) (fun _ => Pur.vl (p_fieldAddr rfl fa146_3)) ?_
   refine I_take (i := 10) rfl rfl rfl rfl (by kernel_rfl) (fun _ _ _ _ h => h) (fun _ => v_loadRF rfl ty3 (fun w H => hr.old HS H) (by first | (simp only [Int.toNat_natCast, List.getElem?_map, hcc]; rfl) | (simp only [Int.toNat_natCast, List.getElem?_map, hcd]; rfl) | simp | rfl) (by exact rfl)) ?_
   refine I_ready (rs := [5, 13]) SI (by kernel_rfl) (by simp) ?_
   refine (I_cons rfl ?_ (I_cons rfl ?_ I_nil))
   ·
    refine x_call Try.func23 nm23 bd23 (.cons rfl (.cons rfl .nil)) rfl (number (by omega) (by omega)) fun _ => ?_
    refine I_ready (rs := [11, 13]) SI (by kernel_rfl) (by simp) ?_
    refine (I_cons rfl ?_ (I_cons rfl ?_ I_nil))
    ·
     refine x_call Try.func23 nm23 bd23 (.cons rfl (.cons rfl .nil)) rfl (number (by omega) (by omega)) fun _ => ?_
     refine I_take (i := 12) rfl rfl rfl rfl (by kernel_rfl) (fun _ _ _ _ h => h) (fun _ => Pur.vl (bld36 (.cons rfl (.cons rfl .nil)) (by repeat constructor))) ?_
     refine I_one (i := 13) SI (by kernel_rfl) rfl ?_
     refine x_alloc ty36 rfl fun b9 => ?_
     refine I_one (i := 14) SI (by kernel_rfl) rfl ?_
     refine x_store rfl rfl ty36 rfl (by first | rfl | (simp [*]; done)) (by first | rfl | (simp [*]; done)) RO PT ?_
     refine J_pick (A := blk b9 36 _) PC ?_
     refine J_asTo (B := blk b9 36 (encI id)) (by rw [hid]; rfl) ?_
     refine I_done SI (by kernel_rfl) ?_
     refine Q_then ?_
     refine J_seq ?_
     refine J_region ?_
     refine L_pur rfl (p_move rfl) ?_
     refine L_pur rfl (p_move rfl) ?_
     refine L_pur rfl (p_indexAddr rfl rfl Try.underlying141 ty146 (by omega) (by omega)) ?_
     refine L_pur rfl (p_fieldAddr rfl fa146_1) ?_
     refine L_val rfl (by first | exact v_loadF rfl ty3 HS (by first | (simp only [Int.toNat_natCast, List.getElem?_map, hcc]; rfl) | (simp only [Int.toNat_natCast, List.getElem?_map, hcd]; rfl) | simp | rfl) (by exact rfl) | exact v_loadRF rfl ty3 (fun w H => hr.old HS H) (by first | (simp only [Int.toNat_natCast, List.getElem?_map, hcc]; rfl) | (simp only [Int.toNat_natCast, List.getElem?_map, hcd]; rfl) | simp | rfl) (by exact rfl)) ?_
     refine L_op (x_call Try.func23 nm23 bd23 (.cons rfl (.cons rfl .nil)) rfl (number (by omega) (by omega)) fun _ => ?_)
     refine L_pur rfl (p_conv rfl Try.underlying3 Try.underlying136) ?_
     refine L_pur rfl (p_assign rfl) ?_
     refine L_nil ?_
     refine Q_then ?_
     refine J_cut (fun d : Int => hpA b6 0 xs :: hrA b7 0 xs :: blk b9 36 (encI id) :: [old W]) (fun d : Int => [(10, .int .u64 d), (9, .pointer (some ⟨b9, 0, none⟩)), (8, .int .i64 (i : Int)), (0, .slice (some ⟨bx, ox, none⟩) (ds.map encDt).length cap), (1, .int .u64 high), (5, .bool true), (6, .pointer (some ⟨b6, 0, none⟩)), (7, .pointer (some ⟨b7, 0, none⟩))]) ?_ ?_
     ·
      refine J_seq ?_
      refine J_region ?_
      refine L_pur rfl (p_move rfl) ?_
      refine L_pur rfl (p_move rfl) ?_
      refine L_pur rfl (p_indexAddr rfl rfl Try.underlying141 ty146 (by omega) (by omega)) ?_
      refine L_pur rfl (p_fieldAddr rfl fa146_1) ?_
      refine L_val rfl (by first | exact v_loadF rfl ty3 HS (by first | (simp only [Int.toNat_natCast, List.getElem?_map, hcc]; rfl) | (simp only [Int.toNat_natCast, List.getElem?_map, hcd]; rfl) | simp | rfl) (by exact rfl) | exact v_loadRF rfl ty3 (fun w H => hr.old HS H) (by first | (simp only [Int.toNat_natCast, List.getElem?_map, hcc]; rfl) | (simp only [Int.toNat_natCast, List.getElem?_map, hcd]; rfl) | simp | rfl) (by exact rfl)) ?_
      refine L_pur rfl (p_and rfl rfl) ?_
      refine L_pur rfl (p_eql rfl rfl) ?_
      refine L_nil ?_
      refine Q_then ?_
      refine C_dec rfl (fun h56 => ?_) (fun h56 => ?_)
      ·
       refine J_region ?_
       refine L_pur rfl (p_move rfl) ?_
       refine L_pur rfl (p_assign rfl) ?_
       refine L_nil ?_
       refine Q_then ?_
       exact J_at (L := (fun d : Int => hpA b6 0 xs :: hrA b7 0 xs :: blk b9 36 (encI id) :: [old W])) (G := (fun d : Int => [(10, .int .u64 d), (9, .pointer (some ⟨b9, 0, none⟩)), (8, .int .i64 (i : Int)), (0, .slice (some ⟨bx, ox, none⟩) (ds.map encDt).length cap), (1, .int .u64 high), (5, .bool true), (6, .pointer (some ⟨b6, 0, none⟩)), (7, .pointer (some ⟨b7, 0, none⟩))])) _ SU KE
      ·
       refine J_skip ?_
       refine Q_then ?_
       exact J_at (L := (fun d : Int => hpA b6 0 xs :: hrA b7 0 xs :: blk b9 36 (encI id) :: [old W])) (G := (fun d : Int => [(10, .int .u64 d), (9, .pointer (some ⟨b9, 0, none⟩)), (8, .int .i64 (i : Int)), (0, .slice (some ⟨bx, ox, none⟩) (ds.map encDt).length cap), (1, .int .u64 high), (5, .bool true), (6, .pointer (some ⟨b6, 0, none⟩)), (7, .pointer (some ⟨b7, 0, none⟩))])) _ SU KE
     ·
      intro d
      refine J_cut (fun z : List Tm => As.pure (z.length ≤ i + 1) :: hpA b6 0 z :: hrA b7 0 z :: [old W]) (fun z : List Tm => [(8, .int .i64 (i : Int)), (0, .slice (some ⟨bx, ox, none⟩) (ds.map encDt).length cap), (1, .int .u64 high), (5, .bool true), (6, .pointer (some ⟨b6, 0, none⟩)), (7, .pointer (some ⟨b7, 0, none⟩))]) ?_ ?_
      ·
       refine J_seq ?_
       refine J_region ?_
       refine L_pur rfl (p_move rfl) ?_
       refine L_pur rfl (p_move rfl) ?_
       refine L_pur rfl (p_indexAddr rfl rfl Try.underlying141 ty146 (by omega) (by omega)) ?_
       refine L_pur rfl (p_fieldAddr rfl fa146_0) ?_
       refine L_val rfl (by first | exact v_loadF rfl ty3 HS (by first | (simp only [Int.toNat_natCast, List.getElem?_map, hcc]; rfl) | (simp only [Int.toNat_natCast, List.getElem?_map, hcd]; rfl) | simp | rfl) (by exact rfl) | exact v_loadRF rfl ty3 (fun w H => hr.old HS H) (by first | (simp only [Int.toNat_natCast, List.getElem?_map, hcc]; rfl) | (simp only [Int.toNat_natCast, List.getElem?_map, hcd]; rfl) | simp | rfl) (by exact rfl)) ?_
       refine L_op (x_call Try.func23 nm23 bd23 (.cons rfl (.cons rfl .nil)) rfl (number (by omega) (by omega)) fun _ => ?_)
       refine L_nil ?_
       refine Q_then ?_
       refine J_block ?_
       refine J_seq ?_
       refine J_region ?_
       refine L_pur rfl (p_eql rfl rfl) ?_
       refine L_pur rfl (p_assign rfl) ?_
       refine L_nil ?_
       refine Q_then ?_
       refine C_dec rfl (fun h70 => ?_) (fun h70 => ?_)
       ·
        refine J_seq ?_
        refine J_drawI none [blk b9 36 (encI id)] mixed ?_
        refine I_take (i := 0) rfl rfl rfl rfl (by kernel_rfl) (fun _ _ _ _ h => h) (fun _ => v_loadA rfl ty36 HS CT) ?_
        refine I_take (i := 2) rfl rfl rfl rfl (by kernel_rfl) (fun _ _ _ _ h => h) (fun _ => v_loadA rfl ty36 HS CT) ?_
        refine I_one (i := 1) SI (by kernel_rfl) rfl ?_
        refine x_call Try.func73 nm73 bd73 (.cons rfl (.cons rfl .nil)) rfl (hDrop (xs := xs) PC (by omega) id) fun _ => ?_
        refine I_one (i := 3) SI (by kernel_rfl) rfl ?_
        refine x_call Try.func76 nm76 bd76 (.cons rfl (.cons rfl .nil)) rfl (rhDrop (xs := xs) PC (by omega) id) fun _ => ?_
        refine I_take (i := 4) rfl rfl rfl rfl (by kernel_rfl) (fun _ _ _ _ h => h) (fun _ => Pur.vl (p_neb Try.underlying4 rfl rfl)) ?_
        refine I_done SI (by kernel_rfl) ?_
        refine Q_then ?_
        refine J_bool (t := 76) (c := false) rfl (by simp) ?_
        refine C_false rfl ?_
        refine J_skip ?_
        refine Q_blk_normal ?_
        refine Q_then ?_
        refine J_pure_in (p := (hdrop xs id).length ≤ i + 1) (by have := hdrop_len xs id; omega) ?_
        exact J_at (L := (fun z : List Tm => As.pure (z.length ≤ i + 1) :: hpA b6 0 z :: hrA b7 0 z :: [old W])) (G := (fun z : List Tm => [(8, .int .i64 (i : Int)), (0, .slice (some ⟨bx, ox, none⟩) (ds.map encDt).length cap), (1, .int .u64 high), (5, .bool true), (6, .pointer (some ⟨b6, 0, none⟩)), (7, .pointer (some ⟨b7, 0, none⟩))])) (hdrop xs id) SU KE
       ·
        refine J_seq ?_
        refine J_seq ?_
        refine J_region ?_
        refine L_pur rfl (p_eql rfl rfl) ?_
        refine L_pur rfl (p_assign rfl) ?_
        refine L_nil ?_
        refine Q_then ?_
        refine J_gsplit (t := 77) rfl (fun h77 => ?_) (fun h77 => ?_)
        ·
         refine C_true rfl ?_
         refine J_skip ?_
         refine Q_then ?_
         refine C_true rfl ?_
         refine J_seq ?_
         refine J_region ?_
         refine L_pur rfl (p_move rfl) ?_
         refine L_op (x_call Try.func74 nm74 bd74 (.cons rfl (.cons rfl .nil)) rfl (hDue (xs := xs) PC (by omega) d) fun v81 => ?_)
         refine J_row .here fun hw81 a81 c81 hv81 hl81 hm81 hz81 => ?_
         subst hv81
         refine L_pur rfl (p_move rfl) ?_
         refine L_op (x_call Try.func77 nm77 bd77 (.cons rfl (.cons rfl .nil)) rfl (rhDue (xs := xs) PC (by omega) d) fun v83 => ?_)
         refine J_row .here fun hw83 a83 c83 hv83 hl83 hm83 hz83 => ?_
         subst hv83
         have hdl := due_len xs d
         refine L_op (x_call Try.func55 nm55 bd55 (.cons rfl (.cons rfl .nil)) rfl (sameIDs (xs := (due xs d).map Prod.snd) (fun w H => sep_reads HS H) (fun w H => sep_reads HS H) (by simp; omega)) fun _ => ?_)
         refine L_pur rfl (p_not rfl) ?_
         refine L_nil ?_
         refine Q_then ?_
         refine J_bool (t := 85) (c := false) rfl (rfl) ?_
         refine C_false rfl ?_
         refine J_skip ?_
         refine Q_blk_normal ?_
         refine Q_then ?_
         refine J_pure_in (p := (late xs d).length ≤ i + 1) (by have := due_len xs d; omega) ?_
         exact J_at (L := (fun z : List Tm => As.pure (z.length ≤ i + 1) :: hpA b6 0 z :: hrA b7 0 z :: [old W])) (G := (fun z : List Tm => [(8, .int .i64 (i : Int)), (0, .slice (some ⟨bx, ox, none⟩) (ds.map encDt).length cap), (1, .int .u64 high), (5, .bool true), (6, .pointer (some ⟨b6, 0, none⟩)), (7, .pointer (some ⟨b7, 0, none⟩))])) (late xs d) SU KE
        ·
         refine C_false rfl ?_
         refine J_region ?_
         refine L_pur rfl (p_eql rfl rfl) ?_
         refine L_pur rfl (p_assign rfl) ?_
         refine L_nil ?_
         refine Q_then ?_
         refine J_gsplit (t := 77) rfl (fun h77 => ?_) (fun h77 => ?_)
         ·
          refine C_true rfl ?_
          refine J_seq ?_
          refine J_region ?_
          refine L_pur rfl (p_move rfl) ?_
          refine L_op (x_call Try.func74 nm74 bd74 (.cons rfl (.cons rfl .nil)) rfl (hDue (xs := xs) PC (by omega) d) fun v81 => ?_)
          refine J_row .here fun hw81 a81 c81 hv81 hl81 hm81 hz81 => ?_
          subst hv81
          refine L_pur rfl (p_move rfl) ?_
          refine L_op (x_call Try.func77 nm77 bd77 (.cons rfl (.cons rfl .nil)) rfl (rhDue (xs := xs) PC (by omega) d) fun v83 => ?_)
          refine J_row .here fun hw83 a83 c83 hv83 hl83 hm83 hz83 => ?_
          subst hv83
          have hdl := due_len xs d
          refine L_op (x_call Try.func55 nm55 bd55 (.cons rfl (.cons rfl .nil)) rfl (sameIDs (xs := (due xs d).map Prod.snd) (fun w H => sep_reads HS H) (fun w H => sep_reads HS H) (by simp; omega)) fun _ => ?_)
          refine L_pur rfl (p_not rfl) ?_
          refine L_nil ?_
          refine Q_then ?_
          refine J_bool (t := 85) (c := false) rfl (rfl) ?_
          refine C_false rfl ?_
          refine J_skip ?_
          refine Q_blk_normal ?_
          refine Q_then ?_
          refine J_pure_in (p := (late xs d).length ≤ i + 1) (by have := due_len xs d; omega) ?_
          exact J_at (L := (fun z : List Tm => As.pure (z.length ≤ i + 1) :: hpA b6 0 z :: hrA b7 0 z :: [old W])) (G := (fun z : List Tm => [(8, .int .i64 (i : Int)), (0, .slice (some ⟨bx, ox, none⟩) (ds.map encDt).length cap), (1, .int .u64 high), (5, .bool true), (6, .pointer (some ⟨b6, 0, none⟩)), (7, .pointer (some ⟨b7, 0, none⟩))])) (late xs d) SU KE
         ·
          refine C_false rfl ?_
          refine J_seq ?_
          refine J_region ?_
          refine L_pur rfl (p_move rfl) ?_
          refine L_val rfl (v_loadA rfl ty36 HS CT) ?_
          refine L_op (x_call Try.func71 nm71 bd71 (.cons rfl (.cons rfl (.cons rfl .nil))) rfl (hPush (xs := xs) PC (by omega) d id) fun _ => ?_)
          refine L_nil ?_
          refine Q_then ?_
          refine J_region ?_
          refine L_pur rfl (p_move rfl) ?_
          refine L_val rfl (v_loadA rfl ty36 HS CT) ?_
          refine L_op (x_call Try.func78 nm78 bd78 (.cons rfl (.cons rfl (.cons rfl .nil))) rfl (rhPush (xs := xs) PC (by omega) d id) fun _ => ?_)
          refine L_nil ?_
          refine Q_blk_normal ?_
          refine Q_then ?_
          refine J_pure_in (p := (hpush xs (d, id)).length ≤ i + 1) (by have := hpush_len xs (d, id); omega) ?_
          exact J_at (L := (fun z : List Tm => As.pure (z.length ≤ i + 1) :: hpA b6 0 z :: hrA b7 0 z :: [old W])) (G := (fun z : List Tm => [(8, .int .i64 (i : Int)), (0, .slice (some ⟨bx, ox, none⟩) (ds.map encDt).length cap), (1, .int .u64 high), (5, .bool true), (6, .pointer (some ⟨b6, 0, none⟩)), (7, .pointer (some ⟨b7, 0, none⟩))])) (hpush xs (d, id)) SU KE
      ·
       intro z
       refine J_pure fun hz => ?_
       refine J_seq ?_
       refine J_region ?_
       refine L_op (x_call Try.func75 nm75 bd75 (.cons rfl .nil) rfl (hNext (xs := z) PC (by omega)) fun _ => ?_)
       refine L_pur rfl (p_move rfl) ?_
       refine L_pur rfl (p_extract rfl rfl) ?_
       refine L_pur rfl (p_extract rfl rfl) ?_
       refine L_pur rfl (p_extract rfl rfl) ?_
       refine L_op (x_alloc ty36 rfl fun b12 => ?_)
       refine L_pur rfl (p_assign rfl) ?_
       refine L_op (x_store rfl rfl ty36 rfl (by first | rfl | (simp [*]; done)) (by first | rfl | (simp [*]; done)) RO PT ?_)
       refine L_pur rfl (p_assign rfl) ?_
       refine L_nil ?_
       refine Q_then ?_
       refine J_seq ?_
       refine J_region ?_
       refine L_op (x_call Try.func79 nm79 bd79 (.cons rfl .nil) rfl (rhNext (xs := z) PC (by omega)) fun _ => ?_)
       refine L_pur rfl (p_move rfl) ?_
       refine L_pur rfl (p_extract rfl rfl) ?_
       refine L_pur rfl (p_extract rfl rfl) ?_
       refine L_pur rfl (p_extract rfl rfl) ?_
       refine L_op (x_alloc ty36 rfl fun b15 => ?_)
       refine L_pur rfl (p_assign rfl) ?_
       refine L_op (x_store rfl rfl ty36 rfl (by first | rfl | (simp [*]; done)) (by first | rfl | (simp [*]; done)) RO PT ?_)
       refine L_pur rfl (p_assign rfl) ?_
       refine L_nil ?_
       refine Q_then ?_
       refine J_seq ?_
       refine J_region ?_
       refine L_pur rfl (p_move rfl) ?_
       refine L_pur rfl (p_move rfl) ?_
       refine L_pur rfl (p_neq rfl rfl) ?_
       refine L_pur rfl (p_move rfl) ?_
       refine J_bool (t := 99) (c := false) rfl (by simp) ?_
       refine L_op (G_on rfl rfl rfl ?_)
       refine J_val (v_loadA rfl ty36 HS CT) rfl rfl rfl ?_
       refine L_op (G_on rfl rfl rfl ?_)
       refine J_val (v_loadA rfl ty36 HS CT) rfl rfl rfl ?_
       refine L_op (G_on rfl rfl rfl ?_)
       refine J_pur (p_nev rfl rfl (fun w => eg36 _ _ _ _ _ w) (fun w => nev36 _ _ _ _ w)) rfl rfl rfl ?_
       refine L_pur rfl (p_pick_f rfl rfl) ?_
       refine L_pur rfl (p_move rfl) ?_
       refine J_bool (t := 104) (c := false) rfl (by simp) ?_
       refine L_op (G_on rfl rfl rfl ?_)
       refine J_pur (p_move rfl) rfl rfl rfl ?_
       refine L_op (G_on rfl rfl rfl ?_)
       refine J_pur (p_move rfl) rfl rfl rfl ?_
       refine L_op (G_on rfl rfl rfl ?_)
       refine J_pur (p_neb Try.underlying4 rfl rfl) rfl rfl rfl ?_
       refine L_pur rfl (p_pick_f rfl rfl) ?_
       refine L_pur rfl (p_move rfl) ?_
       refine J_bool (t := 109) (c := false) rfl (by simp) ?_
       refine L_op (G_on rfl rfl rfl ?_)
       refine x_call Try.func72 nm72 bd72 (.cons rfl .nil) rfl (hLen (xs := z) PC (by omega)) fun _ => ?_
       refine L_op (G_on rfl rfl rfl ?_)
       refine x_call Try.func80 nm80 bd80 (.cons rfl .nil) rfl (rhLen (xs := z) PC (by omega)) fun _ => ?_
       refine L_op (G_on rfl rfl rfl ?_)
       refine J_pur (p_neq rfl rfl) rfl rfl rfl ?_
       refine L_pur rfl (p_pick_f rfl rfl) ?_
       refine L_nil ?_
       refine Q_then ?_
       refine J_bool (t := 113) (c := false) rfl (by simp) ?_
       refine C_false rfl ?_
       refine J_skip ?_
       refine Q_blk_normal ?_
       refine Q_then ?_
       refine J_region ?_
       refine L_pur rfl (p_move rfl) ?_
       refine L_pur rfl (p_add64 rfl rfl (by omega)) ?_
       refine L_pur rfl (p_assign rfl) ?_
       refine L_nil ?_
       refine Q_then ?_
       exact J_again2 (i + 1) z (by omega) (⟨by omega, by omega⟩) SU KE
    ·
     refine x_alloc ty36 rfl fun b9 => ?_
     refine I_one (i := 11) SI (by kernel_rfl) rfl ?_
     refine x_call Try.func23 nm23 bd23 (.cons rfl (.cons rfl .nil)) rfl (number (by omega) (by omega)) fun _ => ?_
     refine I_take (i := 12) rfl rfl rfl rfl (by kernel_rfl) (fun _ _ _ _ h => h) (fun _ => Pur.vl (bld36 (.cons rfl (.cons rfl .nil)) (by repeat constructor))) ?_
     refine I_one (i := 14) SI (by kernel_rfl) rfl ?_
     refine x_store rfl rfl ty36 rfl (by first | rfl | (simp [*]; done)) (by first | rfl | (simp [*]; done)) RO PT ?_
     refine J_pick (A := blk b9 36 _) PC ?_
     refine J_asTo (B := blk b9 36 (encI id)) (by rw [hid]; rfl) ?_
     refine I_done SI (by kernel_rfl) ?_
     refine Q_then ?_
     refine J_seq ?_
     refine J_region ?_
     refine L_pur rfl (p_move rfl) ?_
     refine L_pur rfl (p_move rfl) ?_
     refine L_pur rfl (p_indexAddr rfl rfl Try.underlying141 ty146 (by omega) (by omega)) ?_
     refine L_pur rfl (p_fieldAddr rfl fa146_1) ?_
     refine L_val rfl (by first | exact v_loadF rfl ty3 HS (by first | (simp only [Int.toNat_natCast, List.getElem?_map, hcc]; rfl) | (simp only [Int.toNat_natCast, List.getElem?_map, hcd]; rfl) | simp | rfl) (by exact rfl) | exact v_loadRF rfl ty3 (fun w H => hr.old HS H) (by first | (simp only [Int.toNat_natCast, List.getElem?_map, hcc]; rfl) | (simp only [Int.toNat_natCast, List.getElem?_map, hcd]; rfl) | simp | rfl) (by exact rfl)) ?_
     refine L_op (x_call Try.func23 nm23 bd23 (.cons rfl (.cons rfl .nil)) rfl (number (by omega) (by omega)) fun _ => ?_)
     refine L_pur rfl (p_conv rfl Try.underlying3 Try.underlying136) ?_
     refine L_pur rfl (p_assign rfl) ?_
     refine L_nil ?_
     refine Q_then ?_
     refine J_cut (fun d : Int => hpA b6 0 xs :: hrA b7 0 xs :: blk b9 36 (encI id) :: [old W]) (fun d : Int => [(10, .int .u64 d), (9, .pointer (some ⟨b9, 0, none⟩)), (8, .int .i64 (i : Int)), (0, .slice (some ⟨bx, ox, none⟩) (ds.map encDt).length cap), (1, .int .u64 high), (5, .bool true), (6, .pointer (some ⟨b6, 0, none⟩)), (7, .pointer (some ⟨b7, 0, none⟩))]) ?_ ?_
     ·
      refine J_seq ?_
      refine J_region ?_
      refine L_pur rfl (p_move rfl) ?_
      refine L_pur rfl (p_move rfl) ?_
      refine L_pur rfl (p_indexAddr rfl rfl Try.underlying141 ty146 (by omega) (by omega)) ?_
      refine L_pur rfl (p_fieldAddr rfl fa146_1) ?_
      refine L_val rfl (by first | exact v_loadF rfl ty3 HS (by first | (simp only [Int.toNat_natCast, List.getElem?_map, hcc]; rfl) | (simp only [Int.toNat_natCast, List.getElem?_map, hcd]; rfl) | simp | rfl) (by exact rfl) | exact v_loadRF rfl ty3 (fun w H => hr.old HS H) (by first | (simp only [Int.toNat_natCast, List.getElem?_map, hcc]; rfl) | (simp only [Int.toNat_natCast, List.getElem?_map, hcd]; rfl) | simp | rfl) (by exact rfl)) ?_
      refine L_pur rfl (p_and rfl rfl) ?_
      refine L_pur rfl (p_eql rfl rfl) ?_
      refine L_nil ?_
      refine Q_then ?_
      refine C_dec rfl (fun h56 => ?_) (fun h56 => ?_)
      ·
       refine J_region ?_
       refine L_pur rfl (p_move rfl) ?_
       refine L_pur rfl (p_assign rfl) ?_
       refine L_nil ?_
       refine Q_then ?_
       exact J_at (L := (fun d : Int => hpA b6 0 xs :: hrA b7 0 xs :: blk b9 36 (encI id) :: [old W])) (G := (fun d : Int => [(10, .int .u64 d), (9, .pointer (some ⟨b9, 0, none⟩)), (8, .int .i64 (i : Int)), (0, .slice (some ⟨bx, ox, none⟩) (ds.map encDt).length cap), (1, .int .u64 high), (5, .bool true), (6, .pointer (some ⟨b6, 0, none⟩)), (7, .pointer (some ⟨b7, 0, none⟩))])) _ SU KE
      ·
       refine J_skip ?_
       refine Q_then ?_
       exact J_at (L := (fun d : Int => hpA b6 0 xs :: hrA b7 0 xs :: blk b9 36 (encI id) :: [old W])) (G := (fun d : Int => [(10, .int .u64 d), (9, .pointer (some ⟨b9, 0, none⟩)), (8, .int .i64 (i : Int)), (0, .slice (some ⟨bx, ox, none⟩) (ds.map encDt).length cap), (1, .int .u64 high), (5, .bool true), (6, .pointer (some ⟨b6, 0, none⟩)), (7, .pointer (some ⟨b7, 0, none⟩))])) _ SU KE
     ·
      intro d
      refine J_cut (fun z : List Tm => As.pure (z.length ≤ i + 1) :: hpA b6 0 z :: hrA b7 0 z :: [old W]) (fun z : List Tm => [(8, .int .i64 (i : Int)), (0, .slice (some ⟨bx, ox, none⟩) (ds.map encDt).length cap), (1, .int .u64 high), (5, .bool true), (6, .pointer (some ⟨b6, 0, none⟩)), (7, .pointer (some ⟨b7, 0, none⟩))]) ?_ ?_
      ·
       refine J_seq ?_
       refine J_region ?_
       refine L_pur rfl (p_move rfl) ?_
       refine L_pur rfl (p_move rfl) ?_
       refine L_pur rfl (p_indexAddr rfl rfl Try.underlying141 ty146 (by omega) (by omega)) ?_
       refine L_pur rfl (p_fieldAddr rfl fa146_0) ?_
       refine L_val rfl (by first | exact v_loadF rfl ty3 HS (by first | (simp only [Int.toNat_natCast, List.getElem?_map, hcc]; rfl) | (simp only [Int.toNat_natCast, List.getElem?_map, hcd]; rfl) | simp | rfl) (by exact rfl) | exact v_loadRF rfl ty3 (fun w H => hr.old HS H) (by first | (simp only [Int.toNat_natCast, List.getElem?_map, hcc]; rfl) | (simp only [Int.toNat_natCast, List.getElem?_map, hcd]; rfl) | simp | rfl) (by exact rfl)) ?_
       refine L_op (x_call Try.func23 nm23 bd23 (.cons rfl (.cons rfl .nil)) rfl (number (by omega) (by omega)) fun _ => ?_)
       refine L_nil ?_
       refine Q_then ?_
       refine J_block ?_
       refine J_seq ?_
       refine J_region ?_
       refine L_pur rfl (p_eql rfl rfl) ?_
       refine L_pur rfl (p_assign rfl) ?_
       refine L_nil ?_
       refine Q_then ?_
       refine C_dec rfl (fun h70 => ?_) (fun h70 => ?_)
       ·
        refine J_seq ?_
        refine J_drawI none [blk b9 36 (encI id)] mixed ?_
        refine I_take (i := 0) rfl rfl rfl rfl (by kernel_rfl) (fun _ _ _ _ h => h) (fun _ => v_loadA rfl ty36 HS CT) ?_
        refine I_take (i := 2) rfl rfl rfl rfl (by kernel_rfl) (fun _ _ _ _ h => h) (fun _ => v_loadA rfl ty36 HS CT) ?_
        refine I_one (i := 1) SI (by kernel_rfl) rfl ?_
        refine x_call Try.func73 nm73 bd73 (.cons rfl (.cons rfl .nil)) rfl (hDrop (xs := xs) PC (by omega) id) fun _ => ?_
        refine I_one (i := 3) SI (by kernel_rfl) rfl ?_
        refine x_call Try.func76 nm76 bd76 (.cons rfl (.cons rfl .nil)) rfl (rhDrop (xs := xs) PC (by omega) id) fun _ => ?_
        refine I_take (i := 4) rfl rfl rfl rfl (by kernel_rfl) (fun _ _ _ _ h => h) (fun _ => Pur.vl (p_neb Try.underlying4 rfl rfl)) ?_
        refine I_done SI (by kernel_rfl) ?_
        refine Q_then ?_
        refine J_bool (t := 76) (c := false) rfl (by simp) ?_
        refine C_false rfl ?_
        refine J_skip ?_
        refine Q_blk_normal ?_
        refine Q_then ?_
        refine J_pure_in (p := (hdrop xs id).length ≤ i + 1) (by have := hdrop_len xs id; omega) ?_
        exact J_at (L := (fun z : List Tm => As.pure (z.length ≤ i + 1) :: hpA b6 0 z :: hrA b7 0 z :: [old W])) (G := (fun z : List Tm => [(8, .int .i64 (i : Int)), (0, .slice (some ⟨bx, ox, none⟩) (ds.map encDt).length cap), (1, .int .u64 high), (5, .bool true), (6, .pointer (some ⟨b6, 0, none⟩)), (7, .pointer (some ⟨b7, 0, none⟩))])) (hdrop xs id) SU KE
       ·
        refine J_seq ?_
        refine J_seq ?_
        refine J_region ?_
        refine L_pur rfl (p_eql rfl rfl) ?_
        refine L_pur rfl (p_assign rfl) ?_
        refine L_nil ?_
        refine Q_then ?_
        refine J_gsplit (t := 77) rfl (fun h77 => ?_) (fun h77 => ?_)
        ·
         refine C_true rfl ?_
         refine J_skip ?_
         refine Q_then ?_
         refine C_true rfl ?_
         refine J_seq ?_
         refine J_region ?_
         refine L_pur rfl (p_move rfl) ?_
         refine L_op (x_call Try.func74 nm74 bd74 (.cons rfl (.cons rfl .nil)) rfl (hDue (xs := xs) PC (by omega) d) fun v81 => ?_)
         refine J_row .here fun hw81 a81 c81 hv81 hl81 hm81 hz81 => ?_
         subst hv81
         refine L_pur rfl (p_move rfl) ?_
         refine L_op (x_call Try.func77 nm77 bd77 (.cons rfl (.cons rfl .nil)) rfl (rhDue (xs := xs) PC (by omega) d) fun v83 => ?_)
         refine J_row .here fun hw83 a83 c83 hv83 hl83 hm83 hz83 => ?_
         subst hv83
         have hdl := due_len xs d
         refine L_op (x_call Try.func55 nm55 bd55 (.cons rfl (.cons rfl .nil)) rfl (sameIDs (xs := (due xs d).map Prod.snd) (fun w H => sep_reads HS H) (fun w H => sep_reads HS H) (by simp; omega)) fun _ => ?_)
         refine L_pur rfl (p_not rfl) ?_
         refine L_nil ?_
         refine Q_then ?_
         refine J_bool (t := 85) (c := false) rfl (rfl) ?_
         refine C_false rfl ?_
         refine J_skip ?_
         refine Q_blk_normal ?_
         refine Q_then ?_
         refine J_pure_in (p := (late xs d).length ≤ i + 1) (by have := due_len xs d; omega) ?_
         exact J_at (L := (fun z : List Tm => As.pure (z.length ≤ i + 1) :: hpA b6 0 z :: hrA b7 0 z :: [old W])) (G := (fun z : List Tm => [(8, .int .i64 (i : Int)), (0, .slice (some ⟨bx, ox, none⟩) (ds.map encDt).length cap), (1, .int .u64 high), (5, .bool true), (6, .pointer (some ⟨b6, 0, none⟩)), (7, .pointer (some ⟨b7, 0, none⟩))])) (late xs d) SU KE
        ·
         refine C_false rfl ?_
         refine J_region ?_
         refine L_pur rfl (p_eql rfl rfl) ?_
         refine L_pur rfl (p_assign rfl) ?_
         refine L_nil ?_
         refine Q_then ?_
         refine J_gsplit (t := 77) rfl (fun h77 => ?_) (fun h77 => ?_)
         ·
          refine C_true rfl ?_
          refine J_seq ?_
          refine J_region ?_
          refine L_pur rfl (p_move rfl) ?_
          refine L_op (x_call Try.func74 nm74 bd74 (.cons rfl (.cons rfl .nil)) rfl (hDue (xs := xs) PC (by omega) d) fun v81 => ?_)
          refine J_row .here fun hw81 a81 c81 hv81 hl81 hm81 hz81 => ?_
          subst hv81
          refine L_pur rfl (p_move rfl) ?_
          refine L_op (x_call Try.func77 nm77 bd77 (.cons rfl (.cons rfl .nil)) rfl (rhDue (xs := xs) PC (by omega) d) fun v83 => ?_)
          refine J_row .here fun hw83 a83 c83 hv83 hl83 hm83 hz83 => ?_
          subst hv83
          have hdl := due_len xs d
          refine L_op (x_call Try.func55 nm55 bd55 (.cons rfl (.cons rfl .nil)) rfl (sameIDs (xs := (due xs d).map Prod.snd) (fun w H => sep_reads HS H) (fun w H => sep_reads HS H) (by simp; omega)) fun _ => ?_)
          refine L_pur rfl (p_not rfl) ?_
          refine L_nil ?_
          refine Q_then ?_
          refine J_bool (t := 85) (c := false) rfl (rfl) ?_
          refine C_false rfl ?_
          refine J_skip ?_
          refine Q_blk_normal ?_
          refine Q_then ?_
          refine J_pure_in (p := (late xs d).length ≤ i + 1) (by have := due_len xs d; omega) ?_
          exact J_at (L := (fun z : List Tm => As.pure (z.length ≤ i + 1) :: hpA b6 0 z :: hrA b7 0 z :: [old W])) (G := (fun z : List Tm => [(8, .int .i64 (i : Int)), (0, .slice (some ⟨bx, ox, none⟩) (ds.map encDt).length cap), (1, .int .u64 high), (5, .bool true), (6, .pointer (some ⟨b6, 0, none⟩)), (7, .pointer (some ⟨b7, 0, none⟩))])) (late xs d) SU KE
         ·
          refine C_false rfl ?_
          refine J_seq ?_
          refine J_region ?_
          refine L_pur rfl (p_move rfl) ?_
          refine L_val rfl (v_loadA rfl ty36 HS CT) ?_
          refine L_op (x_call Try.func71 nm71 bd71 (.cons rfl (.cons rfl (.cons rfl .nil))) rfl (hPush (xs := xs) PC (by omega) d id) fun _ => ?_)
          refine L_nil ?_
          refine Q_then ?_
          refine J_region ?_
          refine L_pur rfl (p_move rfl) ?_
          refine L_val rfl (v_loadA rfl ty36 HS CT) ?_
          refine L_op (x_call Try.func78 nm78 bd78 (.cons rfl (.cons rfl (.cons rfl .nil))) rfl (rhPush (xs := xs) PC (by omega) d id) fun _ => ?_)
          refine L_nil ?_
          refine Q_blk_normal ?_
          refine Q_then ?_
          refine J_pure_in (p := (hpush xs (d, id)).length ≤ i + 1) (by have := hpush_len xs (d, id); omega) ?_
          exact J_at (L := (fun z : List Tm => As.pure (z.length ≤ i + 1) :: hpA b6 0 z :: hrA b7 0 z :: [old W])) (G := (fun z : List Tm => [(8, .int .i64 (i : Int)), (0, .slice (some ⟨bx, ox, none⟩) (ds.map encDt).length cap), (1, .int .u64 high), (5, .bool true), (6, .pointer (some ⟨b6, 0, none⟩)), (7, .pointer (some ⟨b7, 0, none⟩))])) (hpush xs (d, id)) SU KE
      ·
       intro z
       refine J_pure fun hz => ?_
       refine J_seq ?_
       refine J_region ?_
       refine L_op (x_call Try.func75 nm75 bd75 (.cons rfl .nil) rfl (hNext (xs := z) PC (by omega)) fun _ => ?_)
       refine L_pur rfl (p_move rfl) ?_
       refine L_pur rfl (p_extract rfl rfl) ?_
       refine L_pur rfl (p_extract rfl rfl) ?_
       refine L_pur rfl (p_extract rfl rfl) ?_
       refine L_op (x_alloc ty36 rfl fun b12 => ?_)
       refine L_pur rfl (p_assign rfl) ?_
       refine L_op (x_store rfl rfl ty36 rfl (by first | rfl | (simp [*]; done)) (by first | rfl | (simp [*]; done)) RO PT ?_)
       refine L_pur rfl (p_assign rfl) ?_
       refine L_nil ?_
       refine Q_then ?_
       refine J_seq ?_
       refine J_region ?_
       refine L_op (x_call Try.func79 nm79 bd79 (.cons rfl .nil) rfl (rhNext (xs := z) PC (by omega)) fun _ => ?_)
       refine L_pur rfl (p_move rfl) ?_
       refine L_pur rfl (p_extract rfl rfl) ?_
       refine L_pur rfl (p_extract rfl rfl) ?_
       refine L_pur rfl (p_extract rfl rfl) ?_
       refine L_op (x_alloc ty36 rfl fun b15 => ?_)
       refine L_pur rfl (p_assign rfl) ?_
       refine L_op (x_store rfl rfl ty36 rfl (by first | rfl | (simp [*]; done)) (by first | rfl | (simp [*]; done)) RO PT ?_)
       refine L_pur rfl (p_assign rfl) ?_
       refine L_nil ?_
       refine Q_then ?_
       refine J_seq ?_
       refine J_region ?_
       refine L_pur rfl (p_move rfl) ?_
       refine L_pur rfl (p_move rfl) ?_
       refine L_pur rfl (p_neq rfl rfl) ?_
       refine L_pur rfl (p_move rfl) ?_
       refine J_bool (t := 99) (c := false) rfl (by simp) ?_
       refine L_op (G_on rfl rfl rfl ?_)
       refine J_val (v_loadA rfl ty36 HS CT) rfl rfl rfl ?_
       refine L_op (G_on rfl rfl rfl ?_)
       refine J_val (v_loadA rfl ty36 HS CT) rfl rfl rfl ?_
       refine L_op (G_on rfl rfl rfl ?_)
       refine J_pur (p_nev rfl rfl (fun w => eg36 _ _ _ _ _ w) (fun w => nev36 _ _ _ _ w)) rfl rfl rfl ?_
       refine L_pur rfl (p_pick_f rfl rfl) ?_
       refine L_pur rfl (p_move rfl) ?_
       refine J_bool (t := 104) (c := false) rfl (by simp) ?_
       refine L_op (G_on rfl rfl rfl ?_)
       refine J_pur (p_move rfl) rfl rfl rfl ?_
       refine L_op (G_on rfl rfl rfl ?_)
       refine J_pur (p_move rfl) rfl rfl rfl ?_
       refine L_op (G_on rfl rfl rfl ?_)
       refine J_pur (p_neb Try.underlying4 rfl rfl) rfl rfl rfl ?_
       refine L_pur rfl (p_pick_f rfl rfl) ?_
       refine L_pur rfl (p_move rfl) ?_
       refine J_bool (t := 109) (c := false) rfl (by simp) ?_
       refine L_op (G_on rfl rfl rfl ?_)
       refine x_call Try.func72 nm72 bd72 (.cons rfl .nil) rfl (hLen (xs := z) PC (by omega)) fun _ => ?_
       refine L_op (G_on rfl rfl rfl ?_)
       refine x_call Try.func80 nm80 bd80 (.cons rfl .nil) rfl (rhLen (xs := z) PC (by omega)) fun _ => ?_
       refine L_op (G_on rfl rfl rfl ?_)
       refine J_pur (p_neq rfl rfl) rfl rfl rfl ?_
       refine L_pur rfl (p_pick_f rfl rfl) ?_
       refine L_nil ?_
       refine Q_then ?_
       refine J_bool (t := 113) (c := false) rfl (by simp) ?_
       refine C_false rfl ?_
       refine J_skip ?_
       refine Q_blk_normal ?_
       refine Q_then ?_
       refine J_region ?_
       refine L_pur rfl (p_move rfl) ?_
       refine L_pur rfl (p_add64 rfl rfl (by omega)) ?_
       refine L_pur rfl (p_assign rfl) ?_
       refine L_nil ?_
       refine Q_then ?_
       exact J_again2 (i + 1) z (by omega) (⟨by omega, by omega⟩) SU KE
   ·
    refine x_alloc ty36 rfl fun b9 => ?_
    refine I_one (i := 5) SI (by kernel_rfl) rfl ?_
    refine x_call Try.func23 nm23 bd23 (.cons rfl (.cons rfl .nil)) rfl (number (by omega) (by omega)) fun _ => ?_
    refine I_one (i := 11) SI (by kernel_rfl) rfl ?_
    refine x_call Try.func23 nm23 bd23 (.cons rfl (.cons rfl .nil)) rfl (number (by omega) (by omega)) fun _ => ?_
    refine I_take (i := 12) rfl rfl rfl rfl (by kernel_rfl) (fun _ _ _ _ h => h) (fun _ => Pur.vl (bld36 (.cons rfl (.cons rfl .nil)) (by repeat constructor))) ?_
    refine I_one (i := 14) SI (by kernel_rfl) rfl ?_
    refine x_store rfl rfl ty36 rfl (by first | rfl | (simp [*]; done)) (by first | rfl | (simp [*]; done)) RO PT ?_
    refine J_pick (A := blk b9 36 _) PC ?_
    refine J_asTo (B := blk b9 36 (encI id)) (by rw [hid]; rfl) ?_
    refine I_done SI (by kernel_rfl) ?_
    refine Q_then ?_
    refine J_seq ?_
    refine J_region ?_
    refine L_pur rfl (p_move rfl) ?_
    refine L_pur rfl (p_move rfl) ?_
    refine L_pur rfl (p_indexAddr rfl rfl Try.underlying141 ty146 (by omega) (by omega)) ?_
    refine L_pur rfl (p_fieldAddr rfl fa146_1) ?_
    refine L_val rfl (by first | exact v_loadF rfl ty3 HS (by first | (simp only [Int.toNat_natCast, List.getElem?_map, hcc]; rfl) | (simp only [Int.toNat_natCast, List.getElem?_map, hcd]; rfl) | simp | rfl) (by exact rfl) | exact v_loadRF rfl ty3 (fun w H => hr.old HS H) (by first | (simp only [Int.toNat_natCast, List.getElem?_map, hcc]; rfl) | (simp only [Int.toNat_natCast, List.getElem?_map, hcd]; rfl) | simp | rfl) (by exact rfl)) ?_
    refine L_op (x_call Try.func23 nm23 bd23 (.cons rfl (.cons rfl .nil)) rfl (number (by omega) (by omega)) fun _ => ?_)
    refine L_pur rfl (p_conv rfl Try.underlying3 Try.underlying136) ?_
    refine L_pur rfl (p_assign rfl) ?_
    refine L_nil ?_
    refine Q_then ?_
    refine J_cut (fun d : Int => hpA b6 0 xs :: hrA b7 0 xs :: blk b9 36 (encI id) :: [old W]) (fun d : Int => [(10, .int .u64 d), (9, .pointer (some ⟨b9, 0, none⟩)), (8, .int .i64 (i : Int)), (0, .slice (some ⟨bx, ox, none⟩) (ds.map encDt).length cap), (1, .int .u64 high), (5, .bool true), (6, .pointer (some ⟨b6, 0, none⟩)), (7, .pointer (some ⟨b7, 0, none⟩))]) ?_ ?_
    ·
     refine J_seq ?_
     refine J_region ?_
     refine L_pur rfl (p_move rfl) ?_
     refine L_pur rfl (p_move rfl) ?_
     refine L_pur rfl (p_indexAddr rfl rfl Try.underlying141 ty146 (by omega) (by omega)) ?_
     refine L_pur rfl (p_fieldAddr rfl fa146_1) ?_
     refine L_val rfl (by first | exact v_loadF rfl ty3 HS (by first | (simp only [Int.toNat_natCast, List.getElem?_map, hcc]; rfl) | (simp only [Int.toNat_natCast, List.getElem?_map, hcd]; rfl) | simp | rfl) (by exact rfl) | exact v_loadRF rfl ty3 (fun w H => hr.old HS H) (by first | (simp only [Int.toNat_natCast, List.getElem?_map, hcc]; rfl) | (simp only [Int.toNat_natCast, List.getElem?_map, hcd]; rfl) | simp | rfl) (by exact rfl)) ?_
     refine L_pur rfl (p_and rfl rfl) ?_
     refine L_pur rfl (p_eql rfl rfl) ?_
     refine L_nil ?_
     refine Q_then ?_
     refine C_dec rfl (fun h56 => ?_) (fun h56 => ?_)
     ·
      refine J_region ?_
      refine L_pur rfl (p_move rfl) ?_
      refine L_pur rfl (p_assign rfl) ?_
      refine L_nil ?_
      refine Q_then ?_
      exact J_at (L := (fun d : Int => hpA b6 0 xs :: hrA b7 0 xs :: blk b9 36 (encI id) :: [old W])) (G := (fun d : Int => [(10, .int .u64 d), (9, .pointer (some ⟨b9, 0, none⟩)), (8, .int .i64 (i : Int)), (0, .slice (some ⟨bx, ox, none⟩) (ds.map encDt).length cap), (1, .int .u64 high), (5, .bool true), (6, .pointer (some ⟨b6, 0, none⟩)), (7, .pointer (some ⟨b7, 0, none⟩))])) _ SU KE
     ·
      refine J_skip ?_
      refine Q_then ?_
      exact J_at (L := (fun d : Int => hpA b6 0 xs :: hrA b7 0 xs :: blk b9 36 (encI id) :: [old W])) (G := (fun d : Int => [(10, .int .u64 d), (9, .pointer (some ⟨b9, 0, none⟩)), (8, .int .i64 (i : Int)), (0, .slice (some ⟨bx, ox, none⟩) (ds.map encDt).length cap), (1, .int .u64 high), (5, .bool true), (6, .pointer (some ⟨b6, 0, none⟩)), (7, .pointer (some ⟨b7, 0, none⟩))])) _ SU KE
    ·
     intro d
     refine J_cut (fun z : List Tm => As.pure (z.length ≤ i + 1) :: hpA b6 0 z :: hrA b7 0 z :: [old W]) (fun z : List Tm => [(8, .int .i64 (i : Int)), (0, .slice (some ⟨bx, ox, none⟩) (ds.map encDt).length cap), (1, .int .u64 high), (5, .bool true), (6, .pointer (some ⟨b6, 0, none⟩)), (7, .pointer (some ⟨b7, 0, none⟩))]) ?_ ?_
     ·
      refine J_seq ?_
      refine J_region ?_
      refine L_pur rfl (p_move rfl) ?_
      refine L_pur rfl (p_move rfl) ?_
      refine L_pur rfl (p_indexAddr rfl rfl Try.underlying141 ty146 (by omega) (by omega)) ?_
      refine L_pur rfl (p_fieldAddr rfl fa146_0) ?_
      refine L_val rfl (by first | exact v_loadF rfl ty3 HS (by first | (simp only [Int.toNat_natCast, List.getElem?_map, hcc]; rfl) | (simp only [Int.toNat_natCast, List.getElem?_map, hcd]; rfl) | simp | rfl) (by exact rfl) | exact v_loadRF rfl ty3 (fun w H => hr.old HS H) (by first | (simp only [Int.toNat_natCast, List.getElem?_map, hcc]; rfl) | (simp only [Int.toNat_natCast, List.getElem?_map, hcd]; rfl) | simp | rfl) (by exact rfl)) ?_
      refine L_op (x_call Try.func23 nm23 bd23 (.cons rfl (.cons rfl .nil)) rfl (number (by omega) (by omega)) fun _ => ?_)
      refine L_nil ?_
      refine Q_then ?_
      refine J_block ?_
      refine J_seq ?_
      refine J_region ?_
      refine L_pur rfl (p_eql rfl rfl) ?_
      refine L_pur rfl (p_assign rfl) ?_
      refine L_nil ?_
      refine Q_then ?_
      refine C_dec rfl (fun h70 => ?_) (fun h70 => ?_)
      ·
       refine J_seq ?_
       refine J_drawI none [blk b9 36 (encI id)] mixed ?_
       refine I_take (i := 0) rfl rfl rfl rfl (by kernel_rfl) (fun _ _ _ _ h => h) (fun _ => v_loadA rfl ty36 HS CT) ?_
       refine I_take (i := 2) rfl rfl rfl rfl (by kernel_rfl) (fun _ _ _ _ h => h) (fun _ => v_loadA rfl ty36 HS CT) ?_
       refine I_one (i := 1) SI (by kernel_rfl) rfl ?_
       refine x_call Try.func73 nm73 bd73 (.cons rfl (.cons rfl .nil)) rfl (hDrop (xs := xs) PC (by omega) id) fun _ => ?_
       refine I_one (i := 3) SI (by kernel_rfl) rfl ?_
       refine x_call Try.func76 nm76 bd76 (.cons rfl (.cons rfl .nil)) rfl (rhDrop (xs := xs) PC (by omega) id) fun _ => ?_
       refine I_take (i := 4) rfl rfl rfl rfl (by kernel_rfl) (fun _ _ _ _ h => h) (fun _ => Pur.vl (p_neb Try.underlying4 rfl rfl)) ?_
       refine I_done SI (by kernel_rfl) ?_
       refine Q_then ?_
       refine J_bool (t := 76) (c := false) rfl (by simp) ?_
       refine C_false rfl ?_
       refine J_skip ?_
       refine Q_blk_normal ?_
       refine Q_then ?_
       refine J_pure_in (p := (hdrop xs id).length ≤ i + 1) (by have := hdrop_len xs id; omega) ?_
       exact J_at (L := (fun z : List Tm => As.pure (z.length ≤ i + 1) :: hpA b6 0 z :: hrA b7 0 z :: [old W])) (G := (fun z : List Tm => [(8, .int .i64 (i : Int)), (0, .slice (some ⟨bx, ox, none⟩) (ds.map encDt).length cap), (1, .int .u64 high), (5, .bool true), (6, .pointer (some ⟨b6, 0, none⟩)), (7, .pointer (some ⟨b7, 0, none⟩))])) (hdrop xs id) SU KE
      ·
       refine J_seq ?_
       refine J_seq ?_
       refine J_region ?_
       refine L_pur rfl (p_eql rfl rfl) ?_
       refine L_pur rfl (p_assign rfl) ?_
       refine L_nil ?_
       refine Q_then ?_
       refine J_gsplit (t := 77) rfl (fun h77 => ?_) (fun h77 => ?_)
       ·
        refine C_true rfl ?_
        refine J_skip ?_
        refine Q_then ?_
        refine C_true rfl ?_
        refine J_seq ?_
        refine J_region ?_
        refine L_pur rfl (p_move rfl) ?_
        refine L_op (x_call Try.func74 nm74 bd74 (.cons rfl (.cons rfl .nil)) rfl (hDue (xs := xs) PC (by omega) d) fun v81 => ?_)
        refine J_row .here fun hw81 a81 c81 hv81 hl81 hm81 hz81 => ?_
        subst hv81
        refine L_pur rfl (p_move rfl) ?_
        refine L_op (x_call Try.func77 nm77 bd77 (.cons rfl (.cons rfl .nil)) rfl (rhDue (xs := xs) PC (by omega) d) fun v83 => ?_)
        refine J_row .here fun hw83 a83 c83 hv83 hl83 hm83 hz83 => ?_
        subst hv83
        have hdl := due_len xs d
        refine L_op (x_call Try.func55 nm55 bd55 (.cons rfl (.cons rfl .nil)) rfl (sameIDs (xs := (due xs d).map Prod.snd) (fun w H => sep_reads HS H) (fun w H => sep_reads HS H) (by simp; omega)) fun _ => ?_)
        refine L_pur rfl (p_not rfl) ?_
        refine L_nil ?_
        refine Q_then ?_
        refine J_bool (t := 85) (c := false) rfl (rfl) ?_
        refine C_false rfl ?_
        refine J_skip ?_
        refine Q_blk_normal ?_
        refine Q_then ?_
        refine J_pure_in (p := (late xs d).length ≤ i + 1) (by have := due_len xs d; omega) ?_
        exact J_at (L := (fun z : List Tm => As.pure (z.length ≤ i + 1) :: hpA b6 0 z :: hrA b7 0 z :: [old W])) (G := (fun z : List Tm => [(8, .int .i64 (i : Int)), (0, .slice (some ⟨bx, ox, none⟩) (ds.map encDt).length cap), (1, .int .u64 high), (5, .bool true), (6, .pointer (some ⟨b6, 0, none⟩)), (7, .pointer (some ⟨b7, 0, none⟩))])) (late xs d) SU KE
       ·
        refine C_false rfl ?_
        refine J_region ?_
        refine L_pur rfl (p_eql rfl rfl) ?_
        refine L_pur rfl (p_assign rfl) ?_
        refine L_nil ?_
        refine Q_then ?_
        refine J_gsplit (t := 77) rfl (fun h77 => ?_) (fun h77 => ?_)
        ·
         refine C_true rfl ?_
         refine J_seq ?_
         refine J_region ?_
         refine L_pur rfl (p_move rfl) ?_
         refine L_op (x_call Try.func74 nm74 bd74 (.cons rfl (.cons rfl .nil)) rfl (hDue (xs := xs) PC (by omega) d) fun v81 => ?_)
         refine J_row .here fun hw81 a81 c81 hv81 hl81 hm81 hz81 => ?_
         subst hv81
         refine L_pur rfl (p_move rfl) ?_
         refine L_op (x_call Try.func77 nm77 bd77 (.cons rfl (.cons rfl .nil)) rfl (rhDue (xs := xs) PC (by omega) d) fun v83 => ?_)
         refine J_row .here fun hw83 a83 c83 hv83 hl83 hm83 hz83 => ?_
         subst hv83
         have hdl := due_len xs d
         refine L_op (x_call Try.func55 nm55 bd55 (.cons rfl (.cons rfl .nil)) rfl (sameIDs (xs := (due xs d).map Prod.snd) (fun w H => sep_reads HS H) (fun w H => sep_reads HS H) (by simp; omega)) fun _ => ?_)
         refine L_pur rfl (p_not rfl) ?_
         refine L_nil ?_
         refine Q_then ?_
         refine J_bool (t := 85) (c := false) rfl (rfl) ?_
         refine C_false rfl ?_
         refine J_skip ?_
         refine Q_blk_normal ?_
         refine Q_then ?_
         refine J_pure_in (p := (late xs d).length ≤ i + 1) (by have := due_len xs d; omega) ?_
         exact J_at (L := (fun z : List Tm => As.pure (z.length ≤ i + 1) :: hpA b6 0 z :: hrA b7 0 z :: [old W])) (G := (fun z : List Tm => [(8, .int .i64 (i : Int)), (0, .slice (some ⟨bx, ox, none⟩) (ds.map encDt).length cap), (1, .int .u64 high), (5, .bool true), (6, .pointer (some ⟨b6, 0, none⟩)), (7, .pointer (some ⟨b7, 0, none⟩))])) (late xs d) SU KE
        ·
         refine C_false rfl ?_
         refine J_seq ?_
         refine J_region ?_
         refine L_pur rfl (p_move rfl) ?_
         refine L_val rfl (v_loadA rfl ty36 HS CT) ?_
         refine L_op (x_call Try.func71 nm71 bd71 (.cons rfl (.cons rfl (.cons rfl .nil))) rfl (hPush (xs := xs) PC (by omega) d id) fun _ => ?_)
         refine L_nil ?_
         refine Q_then ?_
         refine J_region ?_
         refine L_pur rfl (p_move rfl) ?_
         refine L_val rfl (v_loadA rfl ty36 HS CT) ?_
         refine L_op (x_call Try.func78 nm78 bd78 (.cons rfl (.cons rfl (.cons rfl .nil))) rfl (rhPush (xs := xs) PC (by omega) d id) fun _ => ?_)
         refine L_nil ?_
         refine Q_blk_normal ?_
         refine Q_then ?_
         refine J_pure_in (p := (hpush xs (d, id)).length ≤ i + 1) (by have := hpush_len xs (d, id); omega) ?_
         exact J_at (L := (fun z : List Tm => As.pure (z.length ≤ i + 1) :: hpA b6 0 z :: hrA b7 0 z :: [old W])) (G := (fun z : List Tm => [(8, .int .i64 (i : Int)), (0, .slice (some ⟨bx, ox, none⟩) (ds.map encDt).length cap), (1, .int .u64 high), (5, .bool true), (6, .pointer (some ⟨b6, 0, none⟩)), (7, .pointer (some ⟨b7, 0, none⟩))])) (hpush xs (d, id)) SU KE
     ·
      intro z
      refine J_pure fun hz => ?_
      refine J_seq ?_
      refine J_region ?_
      refine L_op (x_call Try.func75 nm75 bd75 (.cons rfl .nil) rfl (hNext (xs := z) PC (by omega)) fun _ => ?_)
      refine L_pur rfl (p_move rfl) ?_
      refine L_pur rfl (p_extract rfl rfl) ?_
      refine L_pur rfl (p_extract rfl rfl) ?_
      refine L_pur rfl (p_extract rfl rfl) ?_
      refine L_op (x_alloc ty36 rfl fun b12 => ?_)
      refine L_pur rfl (p_assign rfl) ?_
      refine L_op (x_store rfl rfl ty36 rfl (by first | rfl | (simp [*]; done)) (by first | rfl | (simp [*]; done)) RO PT ?_)
      refine L_pur rfl (p_assign rfl) ?_
      refine L_nil ?_
      refine Q_then ?_
      refine J_seq ?_
      refine J_region ?_
      refine L_op (x_call Try.func79 nm79 bd79 (.cons rfl .nil) rfl (rhNext (xs := z) PC (by omega)) fun _ => ?_)
      refine L_pur rfl (p_move rfl) ?_
      refine L_pur rfl (p_extract rfl rfl) ?_
      refine L_pur rfl (p_extract rfl rfl) ?_
      refine L_pur rfl (p_extract rfl rfl) ?_
      refine L_op (x_alloc ty36 rfl fun b15 => ?_)
      refine L_pur rfl (p_assign rfl) ?_
      refine L_op (x_store rfl rfl ty36 rfl (by first | rfl | (simp [*]; done)) (by first | rfl | (simp [*]; done)) RO PT ?_)
      refine L_pur rfl (p_assign rfl) ?_
      refine L_nil ?_
      refine Q_then ?_
      refine J_seq ?_
      refine J_region ?_
      refine L_pur rfl (p_move rfl) ?_
      refine L_pur rfl (p_move rfl) ?_
      refine L_pur rfl (p_neq rfl rfl) ?_
      refine L_pur rfl (p_move rfl) ?_
      refine J_bool (t := 99) (c := false) rfl (by simp) ?_
      refine L_op (G_on rfl rfl rfl ?_)
      refine J_val (v_loadA rfl ty36 HS CT) rfl rfl rfl ?_
      refine L_op (G_on rfl rfl rfl ?_)
      refine J_val (v_loadA rfl ty36 HS CT) rfl rfl rfl ?_
      refine L_op (G_on rfl rfl rfl ?_)
      refine J_pur (p_nev rfl rfl (fun w => eg36 _ _ _ _ _ w) (fun w => nev36 _ _ _ _ w)) rfl rfl rfl ?_
      refine L_pur rfl (p_pick_f rfl rfl) ?_
      refine L_pur rfl (p_move rfl) ?_
      refine J_bool (t := 104) (c := false) rfl (by simp) ?_
      refine L_op (G_on rfl rfl rfl ?_)
      refine J_pur (p_move rfl) rfl rfl rfl ?_
      refine L_op (G_on rfl rfl rfl ?_)
      refine J_pur (p_move rfl) rfl rfl rfl ?_
      refine L_op (G_on rfl rfl rfl ?_)
      refine J_pur (p_neb Try.underlying4 rfl rfl) rfl rfl rfl ?_
      refine L_pur rfl (p_pick_f rfl rfl) ?_
      refine L_pur rfl (p_move rfl) ?_
      refine J_bool (t := 109) (c := false) rfl (by simp) ?_
      refine L_op (G_on rfl rfl rfl ?_)
      refine x_call Try.func72 nm72 bd72 (.cons rfl .nil) rfl (hLen (xs := z) PC (by omega)) fun _ => ?_
      refine L_op (G_on rfl rfl rfl ?_)
      refine x_call Try.func80 nm80 bd80 (.cons rfl .nil) rfl (rhLen (xs := z) PC (by omega)) fun _ => ?_
      refine L_op (G_on rfl rfl rfl ?_)
      refine J_pur (p_neq rfl rfl) rfl rfl rfl ?_
      refine L_pur rfl (p_pick_f rfl rfl) ?_
      refine L_nil ?_
      refine Q_then ?_
      refine J_bool (t := 113) (c := false) rfl (by simp) ?_
      refine C_false rfl ?_
      refine J_skip ?_
      refine Q_blk_normal ?_
      refine Q_then ?_
      refine J_region ?_
      refine L_pur rfl (p_move rfl) ?_
      refine L_pur rfl (p_add64 rfl rfl (by omega)) ?_
      refine L_pur rfl (p_assign rfl) ?_
      refine L_nil ?_
      refine Q_then ?_
      exact J_again2 (i + 1) z (by omega) (⟨by omega, by omega⟩) SU KE
  ·
   refine J_exit ?_
   refine Q_then_exit ?_
   refine Q_then_exit ?_
   refine Q_blk_this ?_
   refine Q_then ?_
   refine J_seq ?_
   refine J_region ?_
   refine L_pur rfl (p_move rfl) ?_
   refine L_pur rfl (p_assign rfl) ?_
   refine L_nil ?_
   refine Q_then ?_
   refine J_ret ?_
   exact J_return (()) Try.results20 (.tmp rfl .nil) rfl SU

theorem dec_Dt {x : List Value} (h0 : Shape [.int .i64, .int .i64, .int .i64, .int .i64] x) : ∃ d : DoT, x = encDt d ∧ True := by
  obtain ⟨_, _, rfl, ⟨a0, rfl, _⟩, h1⟩ := h0.cons_inv
  obtain ⟨_, _, rfl, ⟨a1, rfl, _⟩, h2⟩ := h1.cons_inv
  obtain ⟨_, _, rfl, ⟨a2, rfl, _⟩, h3⟩ := h2.cons_inv
  obtain ⟨_, _, rfl, ⟨a3, rfl, _⟩, h4⟩ := h3.cons_inv
  rw [h4.nil_inv]; exact ⟨(a0, a1, a2, a3), rfl, trivial⟩

end Go.Pse
