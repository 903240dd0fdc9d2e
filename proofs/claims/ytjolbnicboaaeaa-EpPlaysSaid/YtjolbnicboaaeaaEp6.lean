/-
  The law on whoever sends, receives, goes.
-/
import Derived.Test.YtjolbnicboaaeaaEp5
import Derived.Test.YtjolbnicboaaeaaEp3
import Derived.Test.YtjolbnicboaaeaaArg
namespace Go.Pse
open Go.RowKit Go.Proofs

set_option maxRecDepth 100000 in
set_option maxHeartbeats 4000000 in
theorem same14 {E : World} {l m : List As}{m' : List As} {b b' : Nat} {out : List Msg} {inn : List Rcv} (hp : Pick (epA b out inn) l m') (hp2 : Pick (reA b' 0 out inn) m' m) (hbo : out.length ≤ 1000000) (hbi : inn.length ≤ 1000000) :
  Con Try.prog 61 #[.pointer (some ⟨b, 0, none⟩), .pointer (some ⟨b', 0, none⟩)] E l (fun _ : Unit => .bool true) (fun _ => epA b out inn :: reA b' 0 out inn :: m) := by
 refine Con.body (vs := [.pointer (some ⟨b, 0, none⟩), .pointer (some ⟨b', 0, none⟩)]) (n := 135) Try.func61 rfl rfl [(0, .pointer (some ⟨b, 0, none⟩)), (1, .pointer (some ⟨b', 0, none⟩))] (env_ok 2 rfl) ?_
 refine J_pick hp ?_
 refine J_seq ?_
 refine J_region ?_
 refine L_pur rfl (p_assign rfl) ?_
 refine L_nil ?_
 refine Q_then ?_
 refine J_seq ?_
 refine J_region ?_
 refine L_pur rfl (p_move rfl) ?_
 refine L_op (x_call Try.func32 nm32 bd32 (.cons rfl .nil) rfl (senders PC hbo hbi) fun v10 => ?_)
 refine J_row .here fun hw10 a10 c10 hv10 hl10 hm10 hz10 => ?_
 subst hv10
 refine L_pur rfl (p_assign rfl) ?_
 refine L_nil ?_
 refine Q_then ?_
 refine J_seq ?_
 refine J_region ?_
 refine L_pur rfl (p_move rfl) ?_
 refine L_op (x_call Try.func33 nm33 bd33 (.cons rfl .nil) rfl (receivers PC hbo hbi) fun v12 => ?_)
 refine J_row .here fun hw12 a12 c12 hv12 hl12 hm12 hz12 => ?_
 subst hv12
 refine L_pur rfl (p_assign rfl) ?_
 refine L_nil ?_
 refine Q_then ?_
 refine J_seq ?_
 refine J_seq ?_
 refine J_region ?_
 refine J_pick (A := reA b' 0 out inn) PC ?_
 refine J_reO fun vo vi _ => ?_
 refine J_row (.there .here) fun hwo ao co hvo h1o h2o h3o => ?_
 subst hvo
 refine J_row (.there (.there .here)) fun hwi ai ci hvi h1i h2i h3i => ?_
 subst hvi
 have hmlo : (out.map encM).length = out.length := List.length_map _
 have hmli : (inn.map encR).length = inn.length := List.length_map _
 have hmo : co ≤ 9223372036854775807 := h2o
 have hmi : ci ≤ 9223372036854775807 := h2i
 refine L_pur rfl (p_move rfl) ?_
 refine L_pur rfl (p_len rfl Try.underlying47) ?_
 refine L_pur rfl (p_move rfl) ?_
 refine L_pur rfl (p_nilCheck rfl) ?_
 refine L_pur rfl (p_fieldAddr rfl fa101_0) ?_
 refine L_val rfl (v_loadL rfl ty98 HS rfl (by exact rfl)) ?_
 refine L_pur rfl (p_len rfl Try.underlying98) ?_
 refine L_pur rfl (p_neq rfl rfl) ?_
 refine L_pur rfl (p_move rfl) ?_
 refine J_bool (t := 21) (c := false) rfl (by simp) ?_
 refine L_op (G_on rfl rfl rfl ?_)
 refine J_pur (p_move rfl) rfl rfl rfl ?_
 refine L_op (G_on rfl rfl rfl ?_)
 refine J_pur (p_len rfl Try.underlying48) rfl rfl rfl ?_
 refine L_op (G_on rfl rfl rfl ?_)
 refine J_pur (p_move rfl) rfl rfl rfl ?_
 refine L_op (G_on rfl rfl rfl ?_)
 refine J_pur (p_nilCheck rfl) rfl rfl rfl ?_
 refine L_op (G_on rfl rfl rfl ?_)
 refine J_pur (p_fieldAddr rfl fa101_1) rfl rfl rfl ?_
 refine L_op (G_on rfl rfl rfl ?_)
 refine J_val (v_loadL rfl ty99 HS rfl (by exact rfl)) rfl rfl rfl ?_
 refine L_op (G_on rfl rfl rfl ?_)
 refine J_pur (p_len rfl Try.underlying99) rfl rfl rfl ?_
 refine L_op (G_on rfl rfl rfl ?_)
 refine J_pur (p_neq rfl rfl) rfl rfl rfl ?_
 refine L_pur rfl (p_pick_f rfl rfl) ?_
 refine L_nil ?_
 refine Q_then ?_
 refine J_bool (t := 30) (c := false) rfl (by simp) ?_
 refine C_false rfl ?_
 refine J_skip ?_
 refine Q_then ?_
 refine J_seq ?_
 refine J_seq ?_
 refine J_region ?_
 refine L_pur rfl (p_assign rfl) ?_
 refine L_nil ?_
 refine Q_then ?_
 refine J_block ?_
 refine J_loop (α := Nat) (fun k => k ≤ out.length) (fun k => epA b out inn :: fld b' 0 [.slice ao (out.map encM).length co, .slice ai (inn.map encR).length ci] :: row 107 5 (.slice ao (out.map encM).length co) (out.map encM) :: row 104 3 (.slice ai (inn.map encR).length ci) (inn.map encR) :: row 56 5 (.slice a10 (out.map encM).length c10) (out.map encM) :: row 52 3 (.slice a12 (inn.map encR).length c12) (inn.map encR) :: m) (fun k => [(7, .int .i64 (k : Int)), (1, .pointer (some ⟨b', 0, none⟩)), (5, .slice a10 (out.map encM).length c10), (6, .slice a12 (inn.map encR).length c12)]) (fun k => out.length - k) 0 (by omega) SU KE ?_
 intro k hk
 refine J_seq ?_
 refine J_seq ?_
 refine J_region ?_
 refine L_pur rfl (p_move rfl) ?_
 refine L_pur rfl (p_move rfl) ?_
 refine L_pur rfl (p_len rfl Try.underlying47) ?_
 refine L_pur rfl (p_lss rfl rfl) ?_
 refine L_nil ?_
 refine Q_then ?_
 refine C_dec rfl (fun h34 => ?_) (fun h34 => ?_)
 ·
  have hlt : k < out.length := by omega
  obtain ⟨bx, ox, rfl⟩ := h3o (by intro h; rw [h] at hmlo; simp at hmlo; omega)
  obtain ⟨by', oy, rfl⟩ := hz10 (by intro h; rw [h] at hmlo; simp at hmlo; omega)
  obtain ⟨c, hcc⟩ : ∃ c, out[k]? = some c := ⟨_, List.getElem?_eq_getElem hlt⟩
  refine J_skip ?_
  refine Q_then ?_
  refine J_seq ?_
  refine J_block ?_
  refine J_seq ?_
  refine J_drawS mixed (by kernel_rfl) ?_
  refine S_val rfl (Pur.vl (p_move rfl)) ?_
  refine S_val rfl (Pur.vl (p_move rfl)) ?_
  refine S_val rfl (Pur.vl (p_indexAddr rfl rfl Try.underlying47 ty56 (by omega) (by omega))) ?_
  refine S_val rfl (Pur.vl (p_fieldAddr rfl fa56_0)) ?_
  refine S_val rfl (v_loadFA rfl ty36 HS (by first | (simp only [Int.toNat_natCast, List.getElem?_map, hcc]; rfl) | (simp only [Int.toNat_natCast, List.getElem?_map, hcd]; rfl) | simp | rfl) CT) ?_
  refine S_val rfl (Pur.vl (p_move rfl)) ?_
  refine S_val rfl (Pur.vl (p_nilCheck rfl)) ?_
  refine S_val rfl (Pur.vl (p_fieldAddr rfl fa101_0)) ?_
  refine S_val rfl (v_loadL rfl ty98 HS rfl (by exact rfl)) ?_
  refine S_val rfl (Pur.vl (p_move rfl)) ?_
  refine S_val rfl (Pur.vl (p_indexAddr rfl rfl Try.underlying98 ty107 (by omega) (by omega))) ?_
  refine S_val rfl (Pur.vl (p_fieldAddr rfl fa107_0)) ?_
  refine S_val rfl (v_loadFA rfl ty36 HS (by first | (simp only [Int.toNat_natCast, List.getElem?_map, hcc]; rfl) | (simp only [Int.toNat_natCast, List.getElem?_map, hcd]; rfl) | simp | rfl) CT) ?_
  refine S_val rfl (Pur.vl (p_nev rfl rfl (fun w => eg36 _ _ _ _ _ w) (fun w => nev36 _ _ _ _ w))) ?_
  refine S_val rfl (Pur.vl (p_move rfl)) ?_
  refine J_bool (t := 51) (c := false) rfl (by simp) ?_
  refine S_on rfl rfl rfl rfl (Pur.vl (p_move rfl)) ?_
  refine S_on rfl rfl rfl rfl (Pur.vl (p_move rfl)) ?_
  refine S_on rfl rfl rfl rfl (Pur.vl (p_indexAddr rfl rfl Try.underlying47 ty56 (by omega) (by omega))) ?_
  refine S_on rfl rfl rfl rfl (Pur.vl (p_fieldAddr rfl fa56_1)) ?_
  refine S_on rfl rfl rfl rfl (v_loadF rfl ty37 HS (by first | (simp only [Int.toNat_natCast, List.getElem?_map, hcc]; rfl) | (simp only [Int.toNat_natCast, List.getElem?_map, hcd]; rfl) | simp | rfl) (by exact rfl)) ?_
  refine S_on rfl rfl rfl rfl (Pur.vl (p_move rfl)) ?_
  refine S_on rfl rfl rfl rfl (Pur.vl (p_nilCheck rfl)) ?_
  refine S_on rfl rfl rfl rfl (Pur.vl (p_fieldAddr rfl fa101_0)) ?_
  refine S_on rfl rfl rfl rfl (v_loadL rfl ty98 HS rfl (by exact rfl)) ?_
  refine S_on rfl rfl rfl rfl (Pur.vl (p_move rfl)) ?_
  refine S_on rfl rfl rfl rfl (Pur.vl (p_indexAddr rfl rfl Try.underlying98 ty107 (by omega) (by omega))) ?_
  refine S_on rfl rfl rfl rfl (Pur.vl (p_fieldAddr rfl fa107_1)) ?_
  refine S_on rfl rfl rfl rfl (v_loadF rfl ty37 HS (by first | (simp only [Int.toNat_natCast, List.getElem?_map, hcc]; rfl) | (simp only [Int.toNat_natCast, List.getElem?_map, hcd]; rfl) | simp | rfl) (by exact rfl)) ?_
  refine S_on rfl rfl rfl rfl (Pur.vl (p_neq rfl rfl)) ?_
  refine S_val rfl (Pur.vl (p_pick_f rfl rfl)) ?_
  refine S_val rfl (Pur.vl (p_move rfl)) ?_
  refine J_bool (t := 67) (c := false) rfl (by simp) ?_
  refine S_on rfl rfl rfl rfl (Pur.vl (p_move rfl)) ?_
  refine S_on rfl rfl rfl rfl (Pur.vl (p_move rfl)) ?_
  refine S_on rfl rfl rfl rfl (Pur.vl (p_indexAddr rfl rfl Try.underlying47 ty56 (by omega) (by omega))) ?_
  refine S_on rfl rfl rfl rfl (Pur.vl (p_fieldAddr rfl fa56_2)) ?_
  refine S_on rfl rfl rfl rfl (v_loadF rfl ty3 HS (by first | (simp only [Int.toNat_natCast, List.getElem?_map, hcc]; rfl) | (simp only [Int.toNat_natCast, List.getElem?_map, hcd]; rfl) | simp | rfl) (by exact rfl)) ?_
  refine S_on rfl rfl rfl rfl (Pur.vl (p_move rfl)) ?_
  refine S_on rfl rfl rfl rfl (Pur.vl (p_nilCheck rfl)) ?_
  refine S_on rfl rfl rfl rfl (Pur.vl (p_fieldAddr rfl fa101_0)) ?_
  refine S_on rfl rfl rfl rfl (v_loadL rfl ty98 HS rfl (by exact rfl)) ?_
  refine S_on rfl rfl rfl rfl (Pur.vl (p_move rfl)) ?_
  refine S_on rfl rfl rfl rfl (Pur.vl (p_indexAddr rfl rfl Try.underlying98 ty107 (by omega) (by omega))) ?_
  refine S_on rfl rfl rfl rfl (Pur.vl (p_fieldAddr rfl fa107_2)) ?_
  refine S_on rfl rfl rfl rfl (v_loadF rfl ty3 HS (by first | (simp only [Int.toNat_natCast, List.getElem?_map, hcc]; rfl) | (simp only [Int.toNat_natCast, List.getElem?_map, hcd]; rfl) | simp | rfl) (by exact rfl)) ?_
  refine S_on rfl rfl rfl rfl (Pur.vl (p_neq rfl rfl)) ?_
  refine S_val rfl (Pur.vl (p_pick_f rfl rfl)) ?_
  refine S_val rfl (Pur.vl (p_move rfl)) ?_
  refine J_bool (t := 83) (c := false) rfl (by simp) ?_
  refine S_on rfl rfl rfl rfl (Pur.vl (p_move rfl)) ?_
  refine S_on rfl rfl rfl rfl (Pur.vl (p_move rfl)) ?_
  refine S_on rfl rfl rfl rfl (Pur.vl (p_indexAddr rfl rfl Try.underlying47 ty56 (by omega) (by omega))) ?_
  refine S_on rfl rfl rfl rfl (Pur.vl (p_fieldAddr rfl fa56_3)) ?_
  refine S_on rfl rfl rfl rfl (v_loadF rfl ty4 HS (by first | (simp only [Int.toNat_natCast, List.getElem?_map, hcc]; rfl) | (simp only [Int.toNat_natCast, List.getElem?_map, hcd]; rfl) | simp | rfl) (by exact rfl)) ?_
  refine S_on rfl rfl rfl rfl (Pur.vl (p_move rfl)) ?_
  refine S_on rfl rfl rfl rfl (Pur.vl (p_nilCheck rfl)) ?_
  refine S_on rfl rfl rfl rfl (Pur.vl (p_fieldAddr rfl fa101_0)) ?_
  refine S_on rfl rfl rfl rfl (v_loadL rfl ty98 HS rfl (by exact rfl)) ?_
  refine S_on rfl rfl rfl rfl (Pur.vl (p_move rfl)) ?_
  refine S_on rfl rfl rfl rfl (Pur.vl (p_indexAddr rfl rfl Try.underlying98 ty107 (by omega) (by omega))) ?_
  refine S_on rfl rfl rfl rfl (Pur.vl (p_fieldAddr rfl fa107_3)) ?_
  refine S_on rfl rfl rfl rfl (v_loadF rfl ty4 HS (by first | (simp only [Int.toNat_natCast, List.getElem?_map, hcc]; rfl) | (simp only [Int.toNat_natCast, List.getElem?_map, hcd]; rfl) | simp | rfl) (by exact rfl)) ?_
  refine S_on rfl rfl rfl rfl (Pur.vl (p_neb Try.underlying4 rfl rfl)) ?_
  refine S_val rfl (Pur.vl (p_pick_f rfl rfl)) ?_
  refine S_nil ?_
  refine Q_then ?_
  refine J_bool (t := 98) (c := false) rfl (by simp) ?_
  refine C_false rfl ?_
  refine J_skip ?_
  refine Q_blk_normal ?_
  refine Q_then ?_
  refine J_region ?_
  refine L_pur rfl (p_move rfl) ?_
  refine L_pur rfl (p_add64 rfl rfl (by omega)) ?_
  refine L_pur rfl (p_assign rfl) ?_
  refine L_nil ?_
  refine Q_then ?_
  exact J_again (k + 1) (by omega) (by omega) SU KE
 ·
  refine J_exit ?_
  refine Q_then_exit ?_
  refine Q_then_exit ?_
  refine Q_blk_this ?_
  refine Q_then ?_
  refine J_seq ?_
  refine J_seq ?_
  refine J_region ?_
  refine L_pur rfl (p_assign rfl) ?_
  refine L_nil ?_
  refine Q_then ?_
  refine J_block ?_
  refine J_loop (α := Nat) (fun k => k ≤ inn.length) (fun k => epA b out inn :: fld b' 0 [.slice ao (out.map encM).length co, .slice ai (inn.map encR).length ci] :: row 107 5 (.slice ao (out.map encM).length co) (out.map encM) :: row 104 3 (.slice ai (inn.map encR).length ci) (inn.map encR) :: row 56 5 (.slice a10 (out.map encM).length c10) (out.map encM) :: row 52 3 (.slice a12 (inn.map encR).length c12) (inn.map encR) :: m) (fun k => [(8, .int .i64 (k : Int)), (1, .pointer (some ⟨b', 0, none⟩)), (5, .slice a10 (out.map encM).length c10), (6, .slice a12 (inn.map encR).length c12)]) (fun k => inn.length - k) 0 (by omega) SU KE ?_
  intro k hk
  refine J_seq ?_
  refine J_seq ?_
  refine J_region ?_
  refine L_pur rfl (p_move rfl) ?_
  refine L_pur rfl (p_move rfl) ?_
  refine L_pur rfl (p_len rfl Try.underlying48) ?_
  refine L_pur rfl (p_lss rfl rfl) ?_
  refine L_nil ?_
  refine Q_then ?_
  refine C_dec rfl (fun h102 => ?_) (fun h102 => ?_)
  ·
   have hlt : k < inn.length := by omega
   obtain ⟨bx, ox, rfl⟩ := h3i (by intro h; rw [h] at hmli; simp at hmli; omega)
   obtain ⟨by', oy, rfl⟩ := hz12 (by intro h; rw [h] at hmli; simp at hmli; omega)
   obtain ⟨c, hcc⟩ : ∃ c, inn[k]? = some c := ⟨_, List.getElem?_eq_getElem hlt⟩
   refine J_skip ?_
   refine Q_then ?_
   refine J_seq ?_
   refine J_block ?_
   refine J_seq ?_
   refine J_drawS mixed (by kernel_rfl) ?_
   refine S_val rfl (Pur.vl (p_move rfl)) ?_
   refine S_val rfl (Pur.vl (p_move rfl)) ?_
   refine S_val rfl (Pur.vl (p_indexAddr rfl rfl Try.underlying48 ty52 (by omega) (by omega))) ?_
   refine S_val rfl (Pur.vl (p_fieldAddr rfl fa52_0)) ?_
   refine S_val rfl (v_loadFA rfl ty36 HS (by first | (simp only [Int.toNat_natCast, List.getElem?_map, hcc]; rfl) | (simp only [Int.toNat_natCast, List.getElem?_map, hcd]; rfl) | simp | rfl) CT) ?_
   refine S_val rfl (Pur.vl (p_move rfl)) ?_
   refine S_val rfl (Pur.vl (p_nilCheck rfl)) ?_
   refine S_val rfl (Pur.vl (p_fieldAddr rfl fa101_1)) ?_
   refine S_val rfl (v_loadL rfl ty99 HS rfl (by exact rfl)) ?_
   refine S_val rfl (Pur.vl (p_move rfl)) ?_
   refine S_val rfl (Pur.vl (p_indexAddr rfl rfl Try.underlying99 ty104 (by omega) (by omega))) ?_
   refine S_val rfl (Pur.vl (p_fieldAddr rfl fa104_0)) ?_
   refine S_val rfl (v_loadFA rfl ty36 HS (by first | (simp only [Int.toNat_natCast, List.getElem?_map, hcc]; rfl) | (simp only [Int.toNat_natCast, List.getElem?_map, hcd]; rfl) | simp | rfl) CT) ?_
   refine S_val rfl (Pur.vl (p_nev rfl rfl (fun w => eg36 _ _ _ _ _ w) (fun w => nev36 _ _ _ _ w))) ?_
   refine S_val rfl (Pur.vl (p_move rfl)) ?_
   refine J_bool (t := 119) (c := false) rfl (by simp) ?_
   refine S_on rfl rfl rfl rfl (Pur.vl (p_move rfl)) ?_
   refine S_on rfl rfl rfl rfl (Pur.vl (p_move rfl)) ?_
   refine S_on rfl rfl rfl rfl (Pur.vl (p_indexAddr rfl rfl Try.underlying48 ty52 (by omega) (by omega))) ?_
   refine S_on rfl rfl rfl rfl (Pur.vl (p_fieldAddr rfl fa52_1)) ?_
   refine S_on rfl rfl rfl rfl (v_loadF rfl ty3 HS (by first | (simp only [Int.toNat_natCast, List.getElem?_map, hcc]; rfl) | (simp only [Int.toNat_natCast, List.getElem?_map, hcd]; rfl) | simp | rfl) (by exact rfl)) ?_
   refine S_on rfl rfl rfl rfl (Pur.vl (p_move rfl)) ?_
   refine S_on rfl rfl rfl rfl (Pur.vl (p_nilCheck rfl)) ?_
   refine S_on rfl rfl rfl rfl (Pur.vl (p_fieldAddr rfl fa101_1)) ?_
   refine S_on rfl rfl rfl rfl (v_loadL rfl ty99 HS rfl (by exact rfl)) ?_
   refine S_on rfl rfl rfl rfl (Pur.vl (p_move rfl)) ?_
   refine S_on rfl rfl rfl rfl (Pur.vl (p_indexAddr rfl rfl Try.underlying99 ty104 (by omega) (by omega))) ?_
   refine S_on rfl rfl rfl rfl (Pur.vl (p_fieldAddr rfl fa104_1)) ?_
   refine S_on rfl rfl rfl rfl (v_loadF rfl ty3 HS (by first | (simp only [Int.toNat_natCast, List.getElem?_map, hcc]; rfl) | (simp only [Int.toNat_natCast, List.getElem?_map, hcd]; rfl) | simp | rfl) (by exact rfl)) ?_
   refine S_on rfl rfl rfl rfl (Pur.vl (p_neq rfl rfl)) ?_
   refine S_val rfl (Pur.vl (p_pick_f rfl rfl)) ?_
   refine S_nil ?_
   refine Q_then ?_
   refine J_bool (t := 134) (c := false) rfl (by simp) ?_
   refine C_false rfl ?_
   refine J_skip ?_
   refine Q_blk_normal ?_
   refine Q_then ?_
   refine J_region ?_
   refine L_pur rfl (p_move rfl) ?_
   refine L_pur rfl (p_add64 rfl rfl (by omega)) ?_
   refine L_pur rfl (p_assign rfl) ?_
   refine L_nil ?_
   refine Q_then ?_
   exact J_again (k + 1) (by omega) (by omega) SU KE
  ·
   refine J_exit ?_
   refine Q_then_exit ?_
   refine Q_then_exit ?_
   refine Q_blk_this ?_
   refine Q_then ?_
   refine J_seq ?_
   refine J_region ?_
   refine L_pur rfl (p_assign rfl) ?_
   refine L_nil ?_
   refine Q_then ?_
   refine J_ret ?_
   refine J_reS (b := b') (o := 0) (out := out) (inn := inn) _ _ PX trivial ?_
   exact J_return (()) Try.results61 (.tmp rfl .nil) rfl SU

theorem J_reNew {E : World} {l : List As} {n : Nat} {F : Env} {K : Act → World → Prop} {b : Nat} (k : Jk E (reA b 0 [] [] :: l) n F K) : Jk E (blk b 101 [.slice none 0 0, .slice none 0 0] :: l) n F K :=
  J_fld (J_nil (el := 107) (sz := 5) (J_nil (el := 104) (sz := 3) (J_reS (b := b) (o := 0) (out := []) (inn := []) _ _ (.cons (.there (.there .here)) (.cons (.there .here) (.cons .here .nil))) trivial k)))
abbrev DoE := Int × Int × Int × Bool
def encE (d : DoE) : List Value := [.int .i64 d.1, .int .i64 d.2.1, .int .i64 d.2.2.1, .bool d.2.2.2]

set_option maxRecDepth 100000 in
set_option maxHeartbeats 4000000 in
theorem epPlays {E W : World} {v : Value} {ds : List DoE} (hr : Reads W 4 v (ds.map encE)) :
  Con Try.prog 12 #[v] E [old W] (fun _ : Unit => .bool true) (fun _ => [old W]) := by
 refine Con.body (vs := [v]) (n := 179) Try.func12 rfl rfl [(0, v)] (env_ok 1 rfl) ?_
 refine J_readsB (fun w H => hr.old HS H) fun hw a cap hv h1 h2 h3 => ?_
 subst hv
 have hm : cap ≤ 9223372036854775807 := h2
 have hml : (ds.map encE).length = ds.length := List.length_map _
 refine J_seq ?_
 refine J_region ?_
 refine L_pur rfl (p_assign rfl) ?_
 refine L_nil ?_
 refine Q_then ?_
 refine J_seq ?_
 refine J_region ?_
 refine L_op (x_call Try.func29 nm29 bd29 .nil rfl (first) fun _ => ?_)
 refine L_pur rfl (p_assign rfl) ?_
 refine L_nil ?_
 refine Q_then ?_
 refine J_seq ?_
 refine J_seq ?_
 refine J_region ?_
 refine L_pur rfl (p_move rfl) ?_
 refine L_pur rfl (p_not rfl) ?_
 refine L_nil ?_
 refine Q_then ?_
 refine J_bool (t := 18) (c := false) rfl (rfl) ?_
 refine C_false rfl ?_
 refine J_skip ?_
 refine Q_then ?_
 refine J_seq ?_
 refine J_seq ?_
 refine J_region ?_
 refine L_pur rfl (p_move rfl) ?_
 refine L_pur rfl (p_len rfl Try.underlying97) ?_
 refine L_pur rfl (p_gtr rfl rfl) ?_
 refine L_nil ?_
 refine Q_then ?_
 refine C_dec rfl (fun h21 => ?_) (fun h21 => ?_)
 ·
  refine J_seq ?_
  refine J_region ?_
  refine L_pur rfl (p_move rfl) ?_
  refine L_pur rfl (p_assign rfl) ?_
  refine L_nil ?_
  refine Q_then ?_
  refine J_ret ?_
  refine Q_then_ret ?_
  exact J_return (()) Try.results12 (.tmp rfl .nil) rfl SU
 ·
  refine J_skip ?_
  refine Q_then ?_
  refine J_seq ?_
  refine J_region ?_
  refine L_op (x_alloc ty50 rfl fun b4 => ?_)
  refine J_ep ?_
  refine L_nil ?_
  refine Q_then ?_
  refine J_seq ?_
  refine J_region ?_
  refine L_op (x_alloc ty101 rfl fun b5 => ?_)
  refine J_reNew ?_
  refine L_nil ?_
  refine Q_then ?_
  refine J_seq ?_
  refine J_seq ?_
  refine J_region ?_
  refine L_pur rfl (p_assign rfl) ?_
  refine L_nil ?_
  refine Q_then ?_
  refine J_block ?_
  refine J_loop3 (fun i out inn => i ≤ ds.length ∧ out.length ≤ i ∧ inn.length ≤ i ∧ (out = [] ∨ inn = [])) (fun i out inn => [epA b4 out inn, reA b5 0 out inn, old W]) (fun i out inn => [(6, .int .i64 (i : Int)), (0, .slice a (ds.map encE).length cap), (3, .bool true), (4, .pointer (some ⟨b4, 0, none⟩)), (5, .pointer (some ⟨b5, 0, none⟩))]) (fun i out inn => ds.length - i) 0 ([] : List Msg) ([] : List Rcv) ⟨by omega, by simp, by simp, .inl rfl⟩ SU KE ?_
  intro i out inn ⟨hi, hon, hin, hne⟩
  refine J_seq ?_
  refine J_seq ?_
  refine J_region ?_
  refine L_pur rfl (p_move rfl) ?_
  refine L_pur rfl (p_move rfl) ?_
  refine L_pur rfl (p_len rfl Try.underlying97) ?_
  refine L_pur rfl (p_lss rfl rfl) ?_
  refine L_nil ?_
  refine Q_then ?_
  refine C_dec rfl (fun h26 => ?_) (fun h26 => ?_)
  ·
   have hlt : i < ds.length := by omega
   obtain ⟨bx, ox, rfl⟩ := h3 (by intro h; rw [h] at hml; simp at hml; omega)
   obtain ⟨c, hcc⟩ : ∃ c, ds[i]? = some c := ⟨_, List.getElem?_eq_getElem hlt⟩
   obtain ⟨id, hid⟩ : ∃ id : ID, id = (1, c.2.1) := ⟨_, rfl⟩
   obtain ⟨mm, hmm⟩ : ∃ mm : Msg, mm = (id, IntKind.u32.wrap c.2.2.1, c.2.2.1, c.2.2.2) := ⟨_, rfl⟩
   obtain ⟨rr, hrr⟩ : ∃ rr : Rcv, rr = (id, c.2.2.1) := ⟨_, rfl⟩
   refine J_skip ?_
   refine Q_then ?_
   refine J_seq ?_
   refine J_block ?_
   refine J_seq ?_
   refine J_region ?_
   refine L_pur rfl (p_move rfl) ?_
   refine L_pur rfl (p_move rfl) ?_
   refine L_pur rfl (p_indexAddr rfl rfl Try.underlying97 ty103 (by omega) (by omega)) ?_
   refine L_pur rfl (p_fieldAddr rfl fa103_1) ?_
   refine L_val rfl (by first | exact v_loadF rfl ty3 HS (by first | (simp only [Int.toNat_natCast, List.getElem?_map, hcc]; rfl) | (simp only [Int.toNat_natCast, List.getElem?_map, hcd]; rfl) | simp | rfl) (by exact rfl) | exact v_loadRF rfl ty3 (fun w H => hr.old HS H) (by first | (simp only [Int.toNat_natCast, List.getElem?_map, hcc]; rfl) | (simp only [Int.toNat_natCast, List.getElem?_map, hcd]; rfl) | simp | rfl) (by exact rfl)) ?_
   refine L_pur rfl (bld36 (.cons rfl (.cons rfl .nil)) (by repeat constructor)) ?_
   refine L_op (x_alloc ty36 rfl fun b7 => ?_)
   refine L_op (x_store rfl rfl ty36 rfl (by first | rfl | (simp [*]; done)) (by first | rfl | (simp [*]; done)) RO PT ?_)
   refine J_pick (A := blk b7 36 _) PC ?_
   refine J_asTo (B := blk b7 36 (encI id)) (by rw [hid]; rfl) ?_
   refine L_nil ?_
   refine Q_then ?_
   refine J_cut2 (fun (x : List Msg) (y : List Rcv) => As.pure (x.length ≤ i + 1 ∧ y.length ≤ i + 1 ∧ (x = [] ∨ y = [])) :: epA b4 x y :: reA b5 0 x y :: [old W]) (fun (x : List Msg) (y : List Rcv) => [(6, .int .i64 (i : Int)), (0, .slice (some ⟨bx, ox, none⟩) (ds.map encE).length cap), (3, .bool true), (4, .pointer (some ⟨b4, 0, none⟩)), (5, .pointer (some ⟨b5, 0, none⟩))]) ?_ ?_
   ·
    refine J_seq ?_
    refine J_region ?_
    refine L_pur rfl (p_move rfl) ?_
    refine L_pur rfl (p_move rfl) ?_
    refine L_pur rfl (p_indexAddr rfl rfl Try.underlying97 ty103 (by omega) (by omega)) ?_
    refine L_pur rfl (p_fieldAddr rfl fa103_0) ?_
    refine L_val rfl (by first | exact v_loadF rfl ty3 HS (by first | (simp only [Int.toNat_natCast, List.getElem?_map, hcc]; rfl) | (simp only [Int.toNat_natCast, List.getElem?_map, hcd]; rfl) | simp | rfl) (by exact rfl) | exact v_loadRF rfl ty3 (fun w H => hr.old HS H) (by first | (simp only [Int.toNat_natCast, List.getElem?_map, hcc]; rfl) | (simp only [Int.toNat_natCast, List.getElem?_map, hcd]; rfl) | simp | rfl) (by exact rfl)) ?_
    refine L_op (x_call Try.func23 nm23 bd23 (.cons rfl (.cons rfl .nil)) rfl (number (by omega) (by omega)) fun _ => ?_)
    refine L_nil ?_
    refine Q_then ?_
    refine J_block ?_
    refine J_seq ?_
    refine J_seq ?_
    refine J_region ?_
    refine L_pur rfl (p_eql rfl rfl) ?_
    refine L_pur rfl (p_assign rfl) ?_
    refine L_nil ?_
    refine Q_then ?_
    refine J_gsplit (t := 94) rfl (fun h94 => ?_) (fun h94 => ?_)
    ·
     refine C_true rfl ?_
     refine J_skip ?_
     refine Q_then ?_
     refine C_true rfl ?_
     refine J_seq ?_
     refine J_drawI none [blk b7 36 (encI id), old W] mixed ?_
     refine I_take (i := 0) rfl rfl rfl rfl (by kernel_rfl) (fun _ _ _ _ h => h) (fun _ => v_loadA rfl ty36 HS CT) ?_
     refine I_take (i := 1) rfl rfl rfl rfl (by kernel_rfl) (fun _ _ _ _ h => h) (fun _ => Pur.vl (p_move rfl)) ?_
     refine I_take (i := 2) rfl rfl rfl rfl (by kernel_rfl) (fun _ _ _ _ h => h) (fun _ => Pur.vl (p_move rfl)) ?_
     refine I_take (i := 3) rfl rfl rfl rfl (by kernel_rfl) (fun _ _ _ _ h => h) (fun _ => Pur.vl (p_indexAddr rfl rfl Try.underlying97 ty103 (by omega) (by omega))) ?_
     refine I_take (i := 4) rfl rfl rfl rfl (by kernel_rfl) (fun _ _ _ _ h => h) (fun _ => Pur.vl (p_fieldAddr rfl fa103_2)) ?_
     refine I_take (i := 5) rfl rfl rfl rfl (by kernel_rfl) (fun _ _ _ _ h => h) (fun _ => v_loadRF rfl ty3 (fun w H => hr.old HS H) (by first | (simp only [Int.toNat_natCast, List.getElem?_map, hcc]; rfl) | (simp only [Int.toNat_natCast, List.getElem?_map, hcd]; rfl) | simp | rfl) (by exact rfl)) ?_
     refine I_take (i := 6) rfl rfl rfl rfl (by kernel_rfl) (fun _ _ _ _ h => h) (fun _ => Pur.vl (p_conv rfl Try.underlying3 Try.underlying37)) ?_
     refine I_take (i := 7) rfl rfl rfl rfl (by kernel_rfl) (fun _ _ _ _ h => h) (fun _ => Pur.vl (p_move rfl)) ?_
     refine I_take (i := 8) rfl rfl rfl rfl (by kernel_rfl) (fun _ _ _ _ h => h) (fun _ => Pur.vl (p_move rfl)) ?_
     refine I_take (i := 9) rfl rfl rfl rfl (by kernel_rfl) (fun _ _ _ _ h => h) (fun _ => Pur.vl (p_indexAddr rfl rfl Try.underlying97 ty103 (by omega) (by omega))) ?_
     refine I_take (i := 10) rfl rfl rfl rfl (by kernel_rfl) (fun _ _ _ _ h => h) (fun _ => Pur.vl (p_fieldAddr rfl fa103_2)) ?_
     refine I_take (i := 11) rfl rfl rfl rfl (by kernel_rfl) (fun _ _ _ _ h => h) (fun _ => v_loadRF rfl ty3 (fun w H => hr.old HS H) (by first | (simp only [Int.toNat_natCast, List.getElem?_map, hcc]; rfl) | (simp only [Int.toNat_natCast, List.getElem?_map, hcd]; rfl) | simp | rfl) (by exact rfl)) ?_
     refine I_take (i := 12) rfl rfl rfl rfl (by kernel_rfl) (fun _ _ _ _ h => h) (fun _ => Pur.vl (p_move rfl)) ?_
     refine I_take (i := 13) rfl rfl rfl rfl (by kernel_rfl) (fun _ _ _ _ h => h) (fun _ => Pur.vl (p_move rfl)) ?_
     refine I_take (i := 14) rfl rfl rfl rfl (by kernel_rfl) (fun _ _ _ _ h => h) (fun _ => Pur.vl (p_indexAddr rfl rfl Try.underlying97 ty103 (by omega) (by omega))) ?_
     refine I_take (i := 15) rfl rfl rfl rfl (by kernel_rfl) (fun _ _ _ _ h => h) (fun _ => Pur.vl (p_fieldAddr rfl fa103_3)) ?_
     refine I_take (i := 16) rfl rfl rfl rfl (by kernel_rfl) (fun _ _ _ _ h => h) (fun _ => v_loadRF rfl ty4 (fun w H => hr.old HS H) (by first | (simp only [Int.toNat_natCast, List.getElem?_map, hcc]; rfl) | (simp only [Int.toNat_natCast, List.getElem?_map, hcd]; rfl) | simp | rfl) (by exact rfl)) ?_
     refine I_take (i := 17) rfl rfl rfl rfl (by kernel_rfl) (fun _ _ _ _ h => h) (fun _ => Pur.vl (bld56 (.cons rfl (.cons rfl (.cons rfl (.cons rfl .nil)))) (by repeat constructor))) ?_
     refine J_slot (t := 116) (v := .agg (encM mm).toArray) rfl (by rw [hmm]; rfl) ?_
     refine I_ready (rs := [18, 22]) SI (by kernel_rfl) (by simp) ?_
     refine (I_cons rfl ?_ (I_cons rfl ?_ I_nil))
     ·
      refine x_call Try.func30 nm30 bd30 (.cons rfl (.cons rfl .nil)) rfl (send PC (by omega) (by omega) mm) fun _ => ?_
      refine I_take (i := 19) rfl rfl rfl rfl (by kernel_rfl) (fun _ _ _ _ h => h) (fun _ => Pur.vl (p_move rfl)) ?_
      refine I_take (i := 20) rfl rfl rfl rfl (by kernel_rfl) (fun _ _ _ _ h => h) (fun _ => Pur.vl (p_extract rfl rfl)) ?_
      refine I_take (i := 21) rfl rfl rfl rfl (by kernel_rfl) (fun _ _ _ _ h => h) (fun _ => Pur.vl (p_extract rfl rfl)) ?_
      refine I_one (i := 22) SI (by kernel_rfl) rfl ?_
      refine x_alloc ty52 rfl fun b8 => ?_
      refine I_one (i := 23) SI (by kernel_rfl) rfl ?_
      refine x_store rfl rfl ty52 rfl (by first | rfl | (simp [*]; done)) (by first | rfl | (simp [*]; done)) RO PT ?_
      refine I_take (i := 24) rfl rfl rfl rfl (by kernel_rfl) (fun _ _ _ _ h => h) (fun _ => Pur.vl (p_assign rfl)) ?_
      refine I_done SI (by kernel_rfl) ?_
      refine Q_then ?_
      refine J_seq ?_
      refine J_drawI none [blk b7 36 (encI id), old W] mixed ?_
      refine I_take (i := 0) rfl rfl rfl rfl (by kernel_rfl) (fun _ _ _ _ h => h) (fun _ => v_loadA rfl ty36 HS CT) ?_
      refine I_take (i := 1) rfl rfl rfl rfl (by kernel_rfl) (fun _ _ _ _ h => h) (fun _ => Pur.vl (p_move rfl)) ?_
      refine I_take (i := 2) rfl rfl rfl rfl (by kernel_rfl) (fun _ _ _ _ h => h) (fun _ => Pur.vl (p_move rfl)) ?_
      refine I_take (i := 3) rfl rfl rfl rfl (by kernel_rfl) (fun _ _ _ _ h => h) (fun _ => Pur.vl (p_indexAddr rfl rfl Try.underlying97 ty103 (by omega) (by omega))) ?_
      refine I_take (i := 4) rfl rfl rfl rfl (by kernel_rfl) (fun _ _ _ _ h => h) (fun _ => Pur.vl (p_fieldAddr rfl fa103_2)) ?_
      refine I_take (i := 5) rfl rfl rfl rfl (by kernel_rfl) (fun _ _ _ _ h => h) (fun _ => v_loadRF rfl ty3 (fun w H => hr.old HS H) (by first | (simp only [Int.toNat_natCast, List.getElem?_map, hcc]; rfl) | (simp only [Int.toNat_natCast, List.getElem?_map, hcd]; rfl) | simp | rfl) (by exact rfl)) ?_
      refine I_take (i := 6) rfl rfl rfl rfl (by kernel_rfl) (fun _ _ _ _ h => h) (fun _ => Pur.vl (p_conv rfl Try.underlying3 Try.underlying37)) ?_
      refine I_take (i := 7) rfl rfl rfl rfl (by kernel_rfl) (fun _ _ _ _ h => h) (fun _ => Pur.vl (p_move rfl)) ?_
      refine I_take (i := 8) rfl rfl rfl rfl (by kernel_rfl) (fun _ _ _ _ h => h) (fun _ => Pur.vl (p_move rfl)) ?_
      refine I_take (i := 9) rfl rfl rfl rfl (by kernel_rfl) (fun _ _ _ _ h => h) (fun _ => Pur.vl (p_indexAddr rfl rfl Try.underlying97 ty103 (by omega) (by omega))) ?_
      refine I_take (i := 10) rfl rfl rfl rfl (by kernel_rfl) (fun _ _ _ _ h => h) (fun _ => Pur.vl (p_fieldAddr rfl fa103_2)) ?_
      refine I_take (i := 11) rfl rfl rfl rfl (by kernel_rfl) (fun _ _ _ _ h => h) (fun _ => v_loadRF rfl ty3 (fun w H => hr.old HS H) (by first | (simp only [Int.toNat_natCast, List.getElem?_map, hcc]; rfl) | (simp only [Int.toNat_natCast, List.getElem?_map, hcd]; rfl) | simp | rfl) (by exact rfl)) ?_
      refine I_take (i := 12) rfl rfl rfl rfl (by kernel_rfl) (fun _ _ _ _ h => h) (fun _ => Pur.vl (p_move rfl)) ?_
      refine I_take (i := 13) rfl rfl rfl rfl (by kernel_rfl) (fun _ _ _ _ h => h) (fun _ => Pur.vl (p_move rfl)) ?_
      refine I_take (i := 14) rfl rfl rfl rfl (by kernel_rfl) (fun _ _ _ _ h => h) (fun _ => Pur.vl (p_indexAddr rfl rfl Try.underlying97 ty103 (by omega) (by omega))) ?_
      refine I_take (i := 15) rfl rfl rfl rfl (by kernel_rfl) (fun _ _ _ _ h => h) (fun _ => Pur.vl (p_fieldAddr rfl fa103_3)) ?_
      refine I_take (i := 16) rfl rfl rfl rfl (by kernel_rfl) (fun _ _ _ _ h => h) (fun _ => v_loadRF rfl ty4 (fun w H => hr.old HS H) (by first | (simp only [Int.toNat_natCast, List.getElem?_map, hcc]; rfl) | (simp only [Int.toNat_natCast, List.getElem?_map, hcd]; rfl) | simp | rfl) (by exact rfl)) ?_
      refine I_take (i := 17) rfl rfl rfl rfl (by kernel_rfl) (fun _ _ _ _ h => h) (fun _ => Pur.vl (bld107 (.cons rfl (.cons rfl (.cons rfl (.cons rfl .nil)))) (by repeat constructor))) ?_
      refine J_slot (t := 138) (v := .agg (encM mm).toArray) rfl (by rw [hmm]; rfl) ?_
      refine I_ready (rs := [18, 22]) SI (by kernel_rfl) (by simp) ?_
      refine (I_cons rfl ?_ (I_cons rfl ?_ I_nil))
      ·
       refine x_call Try.func57 nm57 bd57 (.cons rfl (.cons rfl .nil)) rfl (rsend PC (by omega) (by omega) mm) fun _ => ?_
       refine I_take (i := 19) rfl rfl rfl rfl (by kernel_rfl) (fun _ _ _ _ h => h) (fun _ => Pur.vl (p_move rfl)) ?_
       refine I_take (i := 20) rfl rfl rfl rfl (by kernel_rfl) (fun _ _ _ _ h => h) (fun _ => Pur.vl (p_extract rfl rfl)) ?_
       refine I_take (i := 21) rfl rfl rfl rfl (by kernel_rfl) (fun _ _ _ _ h => h) (fun _ => Pur.vl (p_extract rfl rfl)) ?_
       refine I_one (i := 22) SI (by kernel_rfl) rfl ?_
       refine x_alloc ty104 rfl fun b10 => ?_
       refine I_one (i := 23) SI (by kernel_rfl) rfl ?_
       refine x_store rfl rfl ty104 rfl (by first | rfl | (simp [*]; done)) (by first | rfl | (simp [*]; done)) RO PT ?_
       refine I_take (i := 24) rfl rfl rfl rfl (by kernel_rfl) (fun _ _ _ _ h => h) (fun _ => Pur.vl (p_assign rfl)) ?_
       refine I_done SI (by kernel_rfl) ?_
       refine Q_then ?_
       refine J_seq ?_
       refine J_region ?_
       refine L_pur rfl (p_move rfl) ?_
       refine L_pur rfl (p_move rfl) ?_
       refine L_pur rfl (p_neb Try.underlying4 rfl rfl) ?_
       refine L_pur rfl (p_move rfl) ?_
       refine J_bool (t := 145) (c := false) rfl (by simp) ?_
       refine L_op (G_on rfl rfl rfl ?_)
       refine J_pur (p_fieldAddr rfl fa52_0) rfl rfl rfl ?_
       refine L_op (G_on rfl rfl rfl ?_)
       refine J_val (v_loadA rfl ty36 HS CT) rfl rfl rfl ?_
       refine L_op (G_on rfl rfl rfl ?_)
       refine J_pur (p_fieldAddr rfl fa104_0) rfl rfl rfl ?_
       refine L_op (G_on rfl rfl rfl ?_)
       refine J_val (v_loadA rfl ty36 HS CT) rfl rfl rfl ?_
       refine L_op (G_on rfl rfl rfl ?_)
       refine J_pur (p_nev rfl rfl (fun w => eg36 _ _ _ _ _ w) (fun w => nev36 _ _ _ _ w)) rfl rfl rfl ?_
       refine L_pur rfl (p_pick_f rfl rfl) ?_
       refine L_pur rfl (p_move rfl) ?_
       refine J_bool (t := 152) (c := false) rfl (by simp) ?_
       refine L_op (G_on rfl rfl rfl ?_)
       refine J_pur (p_fieldAddr rfl fa52_1) rfl rfl rfl ?_
       refine L_op (G_on rfl rfl rfl ?_)
       refine J_val (v_load rfl ty3 HS (by exact rfl)) rfl rfl rfl ?_
       refine L_op (G_on rfl rfl rfl ?_)
       refine J_pur (p_fieldAddr rfl fa104_1) rfl rfl rfl ?_
       refine L_op (G_on rfl rfl rfl ?_)
       refine J_val (v_load rfl ty3 HS (by exact rfl)) rfl rfl rfl ?_
       refine L_op (G_on rfl rfl rfl ?_)
       refine J_pur (p_neq rfl rfl) rfl rfl rfl ?_
       refine L_pur rfl (p_pick_f rfl rfl) ?_
       refine L_nil ?_
       refine Q_then ?_
       refine J_bool (t := 158) (c := false) rfl (by simp) ?_
       refine C_false rfl ?_
       refine J_skip ?_
       refine Q_blk_normal ?_
       refine Q_then ?_
       refine J_pure_in (p := (bif inn.isEmpty then out ++ [mm] else out).length ≤ i + 1 ∧ inn.tail.length ≤ i + 1 ∧ ((bif inn.isEmpty then out ++ [mm] else out) = [] ∨ inn.tail = [])) (by cases inn with | nil => exact ⟨by simp; omega, by simp, .inr rfl⟩ | cons r rs => have : out = [] := by { rcases hne with h | h; exact h; cases h }; subst this; exact ⟨by simp, by simp at hin ⊢; omega, .inl rfl⟩) ?_
       exact J_at2 (L := (fun (x : List Msg) (y : List Rcv) => As.pure (x.length ≤ i + 1 ∧ y.length ≤ i + 1 ∧ (x = [] ∨ y = [])) :: epA b4 x y :: reA b5 0 x y :: [old W])) (G := (fun (x : List Msg) (y : List Rcv) => [(6, .int .i64 (i : Int)), (0, .slice (some ⟨bx, ox, none⟩) (ds.map encE).length cap), (3, .bool true), (4, .pointer (some ⟨b4, 0, none⟩)), (5, .pointer (some ⟨b5, 0, none⟩))])) (bif inn.isEmpty then out ++ [mm] else out) inn.tail SU KE
      ·
       refine x_alloc ty104 rfl fun b10 => ?_
       refine I_one (i := 18) SI (by kernel_rfl) rfl ?_
       refine x_call Try.func57 nm57 bd57 (.cons rfl (.cons rfl .nil)) rfl (rsend PC (by omega) (by omega) mm) fun _ => ?_
       refine I_take (i := 19) rfl rfl rfl rfl (by kernel_rfl) (fun _ _ _ _ h => h) (fun _ => Pur.vl (p_move rfl)) ?_
       refine I_take (i := 20) rfl rfl rfl rfl (by kernel_rfl) (fun _ _ _ _ h => h) (fun _ => Pur.vl (p_extract rfl rfl)) ?_
       refine I_take (i := 21) rfl rfl rfl rfl (by kernel_rfl) (fun _ _ _ _ h => h) (fun _ => Pur.vl (p_extract rfl rfl)) ?_
       refine I_one (i := 23) SI (by kernel_rfl) rfl ?_
       refine x_store rfl rfl ty104 rfl (by first | rfl | (simp [*]; done)) (by first | rfl | (simp [*]; done)) RO PT ?_
       refine I_take (i := 24) rfl rfl rfl rfl (by kernel_rfl) (fun _ _ _ _ h => h) (fun _ => Pur.vl (p_assign rfl)) ?_
       refine I_done SI (by kernel_rfl) ?_
       refine Q_then ?_
       refine J_seq ?_
       refine J_region ?_
       refine L_pur rfl (p_move rfl) ?_
       refine L_pur rfl (p_move rfl) ?_
       refine L_pur rfl (p_neb Try.underlying4 rfl rfl) ?_
       refine L_pur rfl (p_move rfl) ?_
       refine J_bool (t := 145) (c := false) rfl (by simp) ?_
       refine L_op (G_on rfl rfl rfl ?_)
       refine J_pur (p_fieldAddr rfl fa52_0) rfl rfl rfl ?_
       refine L_op (G_on rfl rfl rfl ?_)
       refine J_val (v_loadA rfl ty36 HS CT) rfl rfl rfl ?_
       refine L_op (G_on rfl rfl rfl ?_)
       refine J_pur (p_fieldAddr rfl fa104_0) rfl rfl rfl ?_
       refine L_op (G_on rfl rfl rfl ?_)
       refine J_val (v_loadA rfl ty36 HS CT) rfl rfl rfl ?_
       refine L_op (G_on rfl rfl rfl ?_)
       refine J_pur (p_nev rfl rfl (fun w => eg36 _ _ _ _ _ w) (fun w => nev36 _ _ _ _ w)) rfl rfl rfl ?_
       refine L_pur rfl (p_pick_f rfl rfl) ?_
       refine L_pur rfl (p_move rfl) ?_
       refine J_bool (t := 152) (c := false) rfl (by simp) ?_
       refine L_op (G_on rfl rfl rfl ?_)
       refine J_pur (p_fieldAddr rfl fa52_1) rfl rfl rfl ?_
       refine L_op (G_on rfl rfl rfl ?_)
       refine J_val (v_load rfl ty3 HS (by exact rfl)) rfl rfl rfl ?_
       refine L_op (G_on rfl rfl rfl ?_)
       refine J_pur (p_fieldAddr rfl fa104_1) rfl rfl rfl ?_
       refine L_op (G_on rfl rfl rfl ?_)
       refine J_val (v_load rfl ty3 HS (by exact rfl)) rfl rfl rfl ?_
       refine L_op (G_on rfl rfl rfl ?_)
       refine J_pur (p_neq rfl rfl) rfl rfl rfl ?_
       refine L_pur rfl (p_pick_f rfl rfl) ?_
       refine L_nil ?_
       refine Q_then ?_
       refine J_bool (t := 158) (c := false) rfl (by simp) ?_
       refine C_false rfl ?_
       refine J_skip ?_
       refine Q_blk_normal ?_
       refine Q_then ?_
       refine J_pure_in (p := (bif inn.isEmpty then out ++ [mm] else out).length ≤ i + 1 ∧ inn.tail.length ≤ i + 1 ∧ ((bif inn.isEmpty then out ++ [mm] else out) = [] ∨ inn.tail = [])) (by cases inn with | nil => exact ⟨by simp; omega, by simp, .inr rfl⟩ | cons r rs => have : out = [] := by { rcases hne with h | h; exact h; cases h }; subst this; exact ⟨by simp, by simp at hin ⊢; omega, .inl rfl⟩) ?_
       exact J_at2 (L := (fun (x : List Msg) (y : List Rcv) => As.pure (x.length ≤ i + 1 ∧ y.length ≤ i + 1 ∧ (x = [] ∨ y = [])) :: epA b4 x y :: reA b5 0 x y :: [old W])) (G := (fun (x : List Msg) (y : List Rcv) => [(6, .int .i64 (i : Int)), (0, .slice (some ⟨bx, ox, none⟩) (ds.map encE).length cap), (3, .bool true), (4, .pointer (some ⟨b4, 0, none⟩)), (5, .pointer (some ⟨b5, 0, none⟩))])) (bif inn.isEmpty then out ++ [mm] else out) inn.tail SU KE
     ·
      refine x_alloc ty52 rfl fun b8 => ?_
      refine I_one (i := 18) SI (by kernel_rfl) rfl ?_
      refine x_call Try.func30 nm30 bd30 (.cons rfl (.cons rfl .nil)) rfl (send PC (by omega) (by omega) mm) fun _ => ?_
      refine I_take (i := 19) rfl rfl rfl rfl (by kernel_rfl) (fun _ _ _ _ h => h) (fun _ => Pur.vl (p_move rfl)) ?_
      refine I_take (i := 20) rfl rfl rfl rfl (by kernel_rfl) (fun _ _ _ _ h => h) (fun _ => Pur.vl (p_extract rfl rfl)) ?_
      refine I_take (i := 21) rfl rfl rfl rfl (by kernel_rfl) (fun _ _ _ _ h => h) (fun _ => Pur.vl (p_extract rfl rfl)) ?_
      refine I_one (i := 23) SI (by kernel_rfl) rfl ?_
      refine x_store rfl rfl ty52 rfl (by first | rfl | (simp [*]; done)) (by first | rfl | (simp [*]; done)) RO PT ?_
      refine I_take (i := 24) rfl rfl rfl rfl (by kernel_rfl) (fun _ _ _ _ h => h) (fun _ => Pur.vl (p_assign rfl)) ?_
      refine I_done SI (by kernel_rfl) ?_
      refine Q_then ?_
      refine J_seq ?_
      refine J_drawI none [blk b7 36 (encI id), old W] mixed ?_
      refine I_take (i := 0) rfl rfl rfl rfl (by kernel_rfl) (fun _ _ _ _ h => h) (fun _ => v_loadA rfl ty36 HS CT) ?_
      refine I_take (i := 1) rfl rfl rfl rfl (by kernel_rfl) (fun _ _ _ _ h => h) (fun _ => Pur.vl (p_move rfl)) ?_
      refine I_take (i := 2) rfl rfl rfl rfl (by kernel_rfl) (fun _ _ _ _ h => h) (fun _ => Pur.vl (p_move rfl)) ?_
      refine I_take (i := 3) rfl rfl rfl rfl (by kernel_rfl) (fun _ _ _ _ h => h) (fun _ => Pur.vl (p_indexAddr rfl rfl Try.underlying97 ty103 (by omega) (by omega))) ?_
      refine I_take (i := 4) rfl rfl rfl rfl (by kernel_rfl) (fun _ _ _ _ h => h) (fun _ => Pur.vl (p_fieldAddr rfl fa103_2)) ?_
      refine I_take (i := 5) rfl rfl rfl rfl (by kernel_rfl) (fun _ _ _ _ h => h) (fun _ => v_loadRF rfl ty3 (fun w H => hr.old HS H) (by first | (simp only [Int.toNat_natCast, List.getElem?_map, hcc]; rfl) | (simp only [Int.toNat_natCast, List.getElem?_map, hcd]; rfl) | simp | rfl) (by exact rfl)) ?_
      refine I_take (i := 6) rfl rfl rfl rfl (by kernel_rfl) (fun _ _ _ _ h => h) (fun _ => Pur.vl (p_conv rfl Try.underlying3 Try.underlying37)) ?_
      refine I_take (i := 7) rfl rfl rfl rfl (by kernel_rfl) (fun _ _ _ _ h => h) (fun _ => Pur.vl (p_move rfl)) ?_
      refine I_take (i := 8) rfl rfl rfl rfl (by kernel_rfl) (fun _ _ _ _ h => h) (fun _ => Pur.vl (p_move rfl)) ?_
      refine I_take (i := 9) rfl rfl rfl rfl (by kernel_rfl) (fun _ _ _ _ h => h) (fun _ => Pur.vl (p_indexAddr rfl rfl Try.underlying97 ty103 (by omega) (by omega))) ?_
      refine I_take (i := 10) rfl rfl rfl rfl (by kernel_rfl) (fun _ _ _ _ h => h) (fun _ => Pur.vl (p_fieldAddr rfl fa103_2)) ?_
      refine I_take (i := 11) rfl rfl rfl rfl (by kernel_rfl) (fun _ _ _ _ h => h) (fun _ => v_loadRF rfl ty3 (fun w H => hr.old HS H) (by first | (simp only [Int.toNat_natCast, List.getElem?_map, hcc]; rfl) | (simp only [Int.toNat_natCast, List.getElem?_map, hcd]; rfl) | simp | rfl) (by exact rfl)) ?_
      refine I_take (i := 12) rfl rfl rfl rfl (by kernel_rfl) (fun _ _ _ _ h => h) (fun _ => Pur.vl (p_move rfl)) ?_
      refine I_take (i := 13) rfl rfl rfl rfl (by kernel_rfl) (fun _ _ _ _ h => h) (fun _ => Pur.vl (p_move rfl)) ?_
      refine I_take (i := 14) rfl rfl rfl rfl (by kernel_rfl) (fun _ _ _ _ h => h) (fun _ => Pur.vl (p_indexAddr rfl rfl Try.underlying97 ty103 (by omega) (by omega))) ?_
      refine I_take (i := 15) rfl rfl rfl rfl (by kernel_rfl) (fun _ _ _ _ h => h) (fun _ => Pur.vl (p_fieldAddr rfl fa103_3)) ?_
      refine I_take (i := 16) rfl rfl rfl rfl (by kernel_rfl) (fun _ _ _ _ h => h) (fun _ => v_loadRF rfl ty4 (fun w H => hr.old HS H) (by first | (simp only [Int.toNat_natCast, List.getElem?_map, hcc]; rfl) | (simp only [Int.toNat_natCast, List.getElem?_map, hcd]; rfl) | simp | rfl) (by exact rfl)) ?_
      refine I_take (i := 17) rfl rfl rfl rfl (by kernel_rfl) (fun _ _ _ _ h => h) (fun _ => Pur.vl (bld107 (.cons rfl (.cons rfl (.cons rfl (.cons rfl .nil)))) (by repeat constructor))) ?_
      refine J_slot (t := 138) (v := .agg (encM mm).toArray) rfl (by rw [hmm]; rfl) ?_
      refine I_ready (rs := [18, 22]) SI (by kernel_rfl) (by simp) ?_
      refine (I_cons rfl ?_ (I_cons rfl ?_ I_nil))
      ·
       refine x_call Try.func57 nm57 bd57 (.cons rfl (.cons rfl .nil)) rfl (rsend PC (by omega) (by omega) mm) fun _ => ?_
       refine I_take (i := 19) rfl rfl rfl rfl (by kernel_rfl) (fun _ _ _ _ h => h) (fun _ => Pur.vl (p_move rfl)) ?_
       refine I_take (i := 20) rfl rfl rfl rfl (by kernel_rfl) (fun _ _ _ _ h => h) (fun _ => Pur.vl (p_extract rfl rfl)) ?_
       refine I_take (i := 21) rfl rfl rfl rfl (by kernel_rfl) (fun _ _ _ _ h => h) (fun _ => Pur.vl (p_extract rfl rfl)) ?_
       refine I_one (i := 22) SI (by kernel_rfl) rfl ?_
       refine x_alloc ty104 rfl fun b10 => ?_
       refine I_one (i := 23) SI (by kernel_rfl) rfl ?_
       refine x_store rfl rfl ty104 rfl (by first | rfl | (simp [*]; done)) (by first | rfl | (simp [*]; done)) RO PT ?_
       refine I_take (i := 24) rfl rfl rfl rfl (by kernel_rfl) (fun _ _ _ _ h => h) (fun _ => Pur.vl (p_assign rfl)) ?_
       refine I_done SI (by kernel_rfl) ?_
       refine Q_then ?_
       refine J_seq ?_
       refine J_region ?_
       refine L_pur rfl (p_move rfl) ?_
       refine L_pur rfl (p_move rfl) ?_
       refine L_pur rfl (p_neb Try.underlying4 rfl rfl) ?_
       refine L_pur rfl (p_move rfl) ?_
       refine J_bool (t := 145) (c := false) rfl (by simp) ?_
       refine L_op (G_on rfl rfl rfl ?_)
       refine J_pur (p_fieldAddr rfl fa52_0) rfl rfl rfl ?_
       refine L_op (G_on rfl rfl rfl ?_)
       refine J_val (v_loadA rfl ty36 HS CT) rfl rfl rfl ?_
       refine L_op (G_on rfl rfl rfl ?_)
       refine J_pur (p_fieldAddr rfl fa104_0) rfl rfl rfl ?_
       refine L_op (G_on rfl rfl rfl ?_)
       refine J_val (v_loadA rfl ty36 HS CT) rfl rfl rfl ?_
       refine L_op (G_on rfl rfl rfl ?_)
       refine J_pur (p_nev rfl rfl (fun w => eg36 _ _ _ _ _ w) (fun w => nev36 _ _ _ _ w)) rfl rfl rfl ?_
       refine L_pur rfl (p_pick_f rfl rfl) ?_
       refine L_pur rfl (p_move rfl) ?_
       refine J_bool (t := 152) (c := false) rfl (by simp) ?_
       refine L_op (G_on rfl rfl rfl ?_)
       refine J_pur (p_fieldAddr rfl fa52_1) rfl rfl rfl ?_
       refine L_op (G_on rfl rfl rfl ?_)
       refine J_val (v_load rfl ty3 HS (by exact rfl)) rfl rfl rfl ?_
       refine L_op (G_on rfl rfl rfl ?_)
       refine J_pur (p_fieldAddr rfl fa104_1) rfl rfl rfl ?_
       refine L_op (G_on rfl rfl rfl ?_)
       refine J_val (v_load rfl ty3 HS (by exact rfl)) rfl rfl rfl ?_
       refine L_op (G_on rfl rfl rfl ?_)
       refine J_pur (p_neq rfl rfl) rfl rfl rfl ?_
       refine L_pur rfl (p_pick_f rfl rfl) ?_
       refine L_nil ?_
       refine Q_then ?_
       refine J_bool (t := 158) (c := false) rfl (by simp) ?_
       refine C_false rfl ?_
       refine J_skip ?_
       refine Q_blk_normal ?_
       refine Q_then ?_
       refine J_pure_in (p := (bif inn.isEmpty then out ++ [mm] else out).length ≤ i + 1 ∧ inn.tail.length ≤ i + 1 ∧ ((bif inn.isEmpty then out ++ [mm] else out) = [] ∨ inn.tail = [])) (by cases inn with | nil => exact ⟨by simp; omega, by simp, .inr rfl⟩ | cons r rs => have : out = [] := by { rcases hne with h | h; exact h; cases h }; subst this; exact ⟨by simp, by simp at hin ⊢; omega, .inl rfl⟩) ?_
       exact J_at2 (L := (fun (x : List Msg) (y : List Rcv) => As.pure (x.length ≤ i + 1 ∧ y.length ≤ i + 1 ∧ (x = [] ∨ y = [])) :: epA b4 x y :: reA b5 0 x y :: [old W])) (G := (fun (x : List Msg) (y : List Rcv) => [(6, .int .i64 (i : Int)), (0, .slice (some ⟨bx, ox, none⟩) (ds.map encE).length cap), (3, .bool true), (4, .pointer (some ⟨b4, 0, none⟩)), (5, .pointer (some ⟨b5, 0, none⟩))])) (bif inn.isEmpty then out ++ [mm] else out) inn.tail SU KE
      ·
       refine x_alloc ty104 rfl fun b10 => ?_
       refine I_one (i := 18) SI (by kernel_rfl) rfl ?_
       refine x_call Try.func57 nm57 bd57 (.cons rfl (.cons rfl .nil)) rfl (rsend PC (by omega) (by omega) mm) fun _ => ?_
       refine I_take (i := 19) rfl rfl rfl rfl (by kernel_rfl) (fun _ _ _ _ h => h) (fun _ => Pur.vl (p_move rfl)) ?_
       refine I_take (i := 20) rfl rfl rfl rfl (by kernel_rfl) (fun _ _ _ _ h => h) (fun _ => Pur.vl (p_extract rfl rfl)) ?_
       refine I_take (i := 21) rfl rfl rfl rfl (by kernel_rfl) (fun _ _ _ _ h => h) (fun _ => Pur.vl (p_extract rfl rfl)) ?_
       refine I_one (i := 23) SI (by kernel_rfl) rfl ?_
       refine x_store rfl rfl ty104 rfl (by first | rfl | (simp [*]; done)) (by first | rfl | (simp [*]; done)) RO PT ?_
       refine I_take (i := 24) rfl rfl rfl rfl (by kernel_rfl) (fun _ _ _ _ h => h) (fun _ => Pur.vl (p_assign rfl)) ?_
       refine I_done SI (by kernel_rfl) ?_
       refine Q_then ?_
       refine J_seq ?_
       refine J_region ?_
       refine L_pur rfl (p_move rfl) ?_
       refine L_pur rfl (p_move rfl) ?_
       refine L_pur rfl (p_neb Try.underlying4 rfl rfl) ?_
       refine L_pur rfl (p_move rfl) ?_
       refine J_bool (t := 145) (c := false) rfl (by simp) ?_
       refine L_op (G_on rfl rfl rfl ?_)
       refine J_pur (p_fieldAddr rfl fa52_0) rfl rfl rfl ?_
       refine L_op (G_on rfl rfl rfl ?_)
       refine J_val (v_loadA rfl ty36 HS CT) rfl rfl rfl ?_
       refine L_op (G_on rfl rfl rfl ?_)
       refine J_pur (p_fieldAddr rfl fa104_0) rfl rfl rfl ?_
       refine L_op (G_on rfl rfl rfl ?_)
       refine J_val (v_loadA rfl ty36 HS CT) rfl rfl rfl ?_
       refine L_op (G_on rfl rfl rfl ?_)
       refine J_pur (p_nev rfl rfl (fun w => eg36 _ _ _ _ _ w) (fun w => nev36 _ _ _ _ w)) rfl rfl rfl ?_
       refine L_pur rfl (p_pick_f rfl rfl) ?_
       refine L_pur rfl (p_move rfl) ?_
       refine J_bool (t := 152) (c := false) rfl (by simp) ?_
       refine L_op (G_on rfl rfl rfl ?_)
       refine J_pur (p_fieldAddr rfl fa52_1) rfl rfl rfl ?_
       refine L_op (G_on rfl rfl rfl ?_)
       refine J_val (v_load rfl ty3 HS (by exact rfl)) rfl rfl rfl ?_
       refine L_op (G_on rfl rfl rfl ?_)
       refine J_pur (p_fieldAddr rfl fa104_1) rfl rfl rfl ?_
       refine L_op (G_on rfl rfl rfl ?_)
       refine J_val (v_load rfl ty3 HS (by exact rfl)) rfl rfl rfl ?_
       refine L_op (G_on rfl rfl rfl ?_)
       refine J_pur (p_neq rfl rfl) rfl rfl rfl ?_
       refine L_pur rfl (p_pick_f rfl rfl) ?_
       refine L_nil ?_
       refine Q_then ?_
       refine J_bool (t := 158) (c := false) rfl (by simp) ?_
       refine C_false rfl ?_
       refine J_skip ?_
       refine Q_blk_normal ?_
       refine Q_then ?_
       refine J_pure_in (p := (bif inn.isEmpty then out ++ [mm] else out).length ≤ i + 1 ∧ inn.tail.length ≤ i + 1 ∧ ((bif inn.isEmpty then out ++ [mm] else out) = [] ∨ inn.tail = [])) (by cases inn with | nil => exact ⟨by simp; omega, by simp, .inr rfl⟩ | cons r rs => have : out = [] := by { rcases hne with h | h; exact h; cases h }; subst this; exact ⟨by simp, by simp at hin ⊢; omega, .inl rfl⟩) ?_
       exact J_at2 (L := (fun (x : List Msg) (y : List Rcv) => As.pure (x.length ≤ i + 1 ∧ y.length ≤ i + 1 ∧ (x = [] ∨ y = [])) :: epA b4 x y :: reA b5 0 x y :: [old W])) (G := (fun (x : List Msg) (y : List Rcv) => [(6, .int .i64 (i : Int)), (0, .slice (some ⟨bx, ox, none⟩) (ds.map encE).length cap), (3, .bool true), (4, .pointer (some ⟨b4, 0, none⟩)), (5, .pointer (some ⟨b5, 0, none⟩))])) (bif inn.isEmpty then out ++ [mm] else out) inn.tail SU KE
    ·
     refine C_false rfl ?_
     refine J_seq ?_
     refine J_region ?_
     refine L_pur rfl (p_eql rfl rfl) ?_
     refine L_pur rfl (p_assign rfl) ?_
     refine L_nil ?_
     refine Q_then ?_
     refine J_gsplit (t := 94) rfl (fun h94 => ?_) (fun h94 => ?_)
     ·
      refine C_true rfl ?_
      refine J_skip ?_
      refine Q_then ?_
      refine C_true rfl ?_
      refine J_seq ?_
      refine J_drawI none [blk b7 36 (encI id), old W] mixed ?_
      refine I_take (i := 0) rfl rfl rfl rfl (by kernel_rfl) (fun _ _ _ _ h => h) (fun _ => v_loadA rfl ty36 HS CT) ?_
      refine I_take (i := 1) rfl rfl rfl rfl (by kernel_rfl) (fun _ _ _ _ h => h) (fun _ => Pur.vl (p_move rfl)) ?_
      refine I_take (i := 2) rfl rfl rfl rfl (by kernel_rfl) (fun _ _ _ _ h => h) (fun _ => Pur.vl (p_move rfl)) ?_
      refine I_take (i := 3) rfl rfl rfl rfl (by kernel_rfl) (fun _ _ _ _ h => h) (fun _ => Pur.vl (p_indexAddr rfl rfl Try.underlying97 ty103 (by omega) (by omega))) ?_
      refine I_take (i := 4) rfl rfl rfl rfl (by kernel_rfl) (fun _ _ _ _ h => h) (fun _ => Pur.vl (p_fieldAddr rfl fa103_2)) ?_
      refine I_take (i := 5) rfl rfl rfl rfl (by kernel_rfl) (fun _ _ _ _ h => h) (fun _ => v_loadRF rfl ty3 (fun w H => hr.old HS H) (by first | (simp only [Int.toNat_natCast, List.getElem?_map, hcc]; rfl) | (simp only [Int.toNat_natCast, List.getElem?_map, hcd]; rfl) | simp | rfl) (by exact rfl)) ?_
      refine I_take (i := 6) rfl rfl rfl rfl (by kernel_rfl) (fun _ _ _ _ h => h) (fun _ => Pur.vl (p_conv rfl Try.underlying3 Try.underlying37)) ?_
      refine I_take (i := 7) rfl rfl rfl rfl (by kernel_rfl) (fun _ _ _ _ h => h) (fun _ => Pur.vl (p_move rfl)) ?_
      refine I_take (i := 8) rfl rfl rfl rfl (by kernel_rfl) (fun _ _ _ _ h => h) (fun _ => Pur.vl (p_move rfl)) ?_
      refine I_take (i := 9) rfl rfl rfl rfl (by kernel_rfl) (fun _ _ _ _ h => h) (fun _ => Pur.vl (p_indexAddr rfl rfl Try.underlying97 ty103 (by omega) (by omega))) ?_
      refine I_take (i := 10) rfl rfl rfl rfl (by kernel_rfl) (fun _ _ _ _ h => h) (fun _ => Pur.vl (p_fieldAddr rfl fa103_2)) ?_
      refine I_take (i := 11) rfl rfl rfl rfl (by kernel_rfl) (fun _ _ _ _ h => h) (fun _ => v_loadRF rfl ty3 (fun w H => hr.old HS H) (by first | (simp only [Int.toNat_natCast, List.getElem?_map, hcc]; rfl) | (simp only [Int.toNat_natCast, List.getElem?_map, hcd]; rfl) | simp | rfl) (by exact rfl)) ?_
      refine I_take (i := 12) rfl rfl rfl rfl (by kernel_rfl) (fun _ _ _ _ h => h) (fun _ => Pur.vl (p_move rfl)) ?_
      refine I_take (i := 13) rfl rfl rfl rfl (by kernel_rfl) (fun _ _ _ _ h => h) (fun _ => Pur.vl (p_move rfl)) ?_
      refine I_take (i := 14) rfl rfl rfl rfl (by kernel_rfl) (fun _ _ _ _ h => h) (fun _ => Pur.vl (p_indexAddr rfl rfl Try.underlying97 ty103 (by omega) (by omega))) ?_
      refine I_take (i := 15) rfl rfl rfl rfl (by kernel_rfl) (fun _ _ _ _ h => h) (fun _ => Pur.vl (p_fieldAddr rfl fa103_3)) ?_
      refine I_take (i := 16) rfl rfl rfl rfl (by kernel_rfl) (fun _ _ _ _ h => h) (fun _ => v_loadRF rfl ty4 (fun w H => hr.old HS H) (by first | (simp only [Int.toNat_natCast, List.getElem?_map, hcc]; rfl) | (simp only [Int.toNat_natCast, List.getElem?_map, hcd]; rfl) | simp | rfl) (by exact rfl)) ?_
      refine I_take (i := 17) rfl rfl rfl rfl (by kernel_rfl) (fun _ _ _ _ h => h) (fun _ => Pur.vl (bld56 (.cons rfl (.cons rfl (.cons rfl (.cons rfl .nil)))) (by repeat constructor))) ?_
      refine J_slot (t := 116) (v := .agg (encM mm).toArray) rfl (by rw [hmm]; rfl) ?_
      refine I_ready (rs := [18, 22]) SI (by kernel_rfl) (by simp) ?_
      refine (I_cons rfl ?_ (I_cons rfl ?_ I_nil))
      ·
       refine x_call Try.func30 nm30 bd30 (.cons rfl (.cons rfl .nil)) rfl (send PC (by omega) (by omega) mm) fun _ => ?_
       refine I_take (i := 19) rfl rfl rfl rfl (by kernel_rfl) (fun _ _ _ _ h => h) (fun _ => Pur.vl (p_move rfl)) ?_
       refine I_take (i := 20) rfl rfl rfl rfl (by kernel_rfl) (fun _ _ _ _ h => h) (fun _ => Pur.vl (p_extract rfl rfl)) ?_
       refine I_take (i := 21) rfl rfl rfl rfl (by kernel_rfl) (fun _ _ _ _ h => h) (fun _ => Pur.vl (p_extract rfl rfl)) ?_
       refine I_one (i := 22) SI (by kernel_rfl) rfl ?_
       refine x_alloc ty52 rfl fun b8 => ?_
       refine I_one (i := 23) SI (by kernel_rfl) rfl ?_
       refine x_store rfl rfl ty52 rfl (by first | rfl | (simp [*]; done)) (by first | rfl | (simp [*]; done)) RO PT ?_
       refine I_take (i := 24) rfl rfl rfl rfl (by kernel_rfl) (fun _ _ _ _ h => h) (fun _ => Pur.vl (p_assign rfl)) ?_
       refine I_done SI (by kernel_rfl) ?_
       refine Q_then ?_
       refine J_seq ?_
       refine J_drawI none [blk b7 36 (encI id), old W] mixed ?_
       refine I_take (i := 0) rfl rfl rfl rfl (by kernel_rfl) (fun _ _ _ _ h => h) (fun _ => v_loadA rfl ty36 HS CT) ?_
       refine I_take (i := 1) rfl rfl rfl rfl (by kernel_rfl) (fun _ _ _ _ h => h) (fun _ => Pur.vl (p_move rfl)) ?_
       refine I_take (i := 2) rfl rfl rfl rfl (by kernel_rfl) (fun _ _ _ _ h => h) (fun _ => Pur.vl (p_move rfl)) ?_
       refine I_take (i := 3) rfl rfl rfl rfl (by kernel_rfl) (fun _ _ _ _ h => h) (fun _ => Pur.vl (p_indexAddr rfl rfl Try.underlying97 ty103 (by omega) (by omega))) ?_
       refine I_take (i := 4) rfl rfl rfl rfl (by kernel_rfl) (fun _ _ _ _ h => h) (fun _ => Pur.vl (p_fieldAddr rfl fa103_2)) ?_
       refine I_take (i := 5) rfl rfl rfl rfl (by kernel_rfl) (fun _ _ _ _ h => h) (fun _ => v_loadRF rfl ty3 (fun w H => hr.old HS H) (by first | (simp only [Int.toNat_natCast, List.getElem?_map, hcc]; rfl) | (simp only [Int.toNat_natCast, List.getElem?_map, hcd]; rfl) | simp | rfl) (by exact rfl)) ?_
       refine I_take (i := 6) rfl rfl rfl rfl (by kernel_rfl) (fun _ _ _ _ h => h) (fun _ => Pur.vl (p_conv rfl Try.underlying3 Try.underlying37)) ?_
       refine I_take (i := 7) rfl rfl rfl rfl (by kernel_rfl) (fun _ _ _ _ h => h) (fun _ => Pur.vl (p_move rfl)) ?_
       refine I_take (i := 8) rfl rfl rfl rfl (by kernel_rfl) (fun _ _ _ _ h => h) (fun _ => Pur.vl (p_move rfl)) ?_
       refine I_take (i := 9) rfl rfl rfl rfl (by kernel_rfl) (fun _ _ _ _ h => h) (fun _ => Pur.vl (p_indexAddr rfl rfl Try.underlying97 ty103 (by omega) (by omega))) ?_
       refine I_take (i := 10) rfl rfl rfl rfl (by kernel_rfl) (fun _ _ _ _ h => h) (fun _ => Pur.vl (p_fieldAddr rfl fa103_2)) ?_
       refine I_take (i := 11) rfl rfl rfl rfl (by kernel_rfl) (fun _ _ _ _ h => h) (fun _ => v_loadRF rfl ty3 (fun w H => hr.old HS H) (by first | (simp only [Int.toNat_natCast, List.getElem?_map, hcc]; rfl) | (simp only [Int.toNat_natCast, List.getElem?_map, hcd]; rfl) | simp | rfl) (by exact rfl)) ?_
       refine I_take (i := 12) rfl rfl rfl rfl (by kernel_rfl) (fun _ _ _ _ h => h) (fun _ => Pur.vl (p_move rfl)) ?_
       refine I_take (i := 13) rfl rfl rfl rfl (by kernel_rfl) (fun _ _ _ _ h => h) (fun _ => Pur.vl (p_move rfl)) ?_
       refine I_take (i := 14) rfl rfl rfl rfl (by kernel_rfl) (fun _ _ _ _ h => h) (fun _ => Pur.vl (p_indexAddr rfl rfl Try.underlying97 ty103 (by omega) (by omega))) ?_
       refine I_take (i := 15) rfl rfl rfl rfl (by kernel_rfl) (fun _ _ _ _ h => h) (fun _ => Pur.vl (p_fieldAddr rfl fa103_3)) ?_
       refine I_take (i := 16) rfl rfl rfl rfl (by kernel_rfl) (fun _ _ _ _ h => h) (fun _ => v_loadRF rfl ty4 (fun w H => hr.old HS H) (by first | (simp only [Int.toNat_natCast, List.getElem?_map, hcc]; rfl) | (simp only [Int.toNat_natCast, List.getElem?_map, hcd]; rfl) | simp | rfl) (by exact rfl)) ?_
       refine I_take (i := 17) rfl rfl rfl rfl (by kernel_rfl) (fun _ _ _ _ h => h) (fun _ => Pur.vl (bld107 (.cons rfl (.cons rfl (.cons rfl (.cons rfl .nil)))) (by repeat constructor))) ?_
       refine J_slot (t := 138) (v := .agg (encM mm).toArray) rfl (by rw [hmm]; rfl) ?_
       refine I_ready (rs := [18, 22]) SI (by kernel_rfl) (by simp) ?_
       refine (I_cons rfl ?_ (I_cons rfl ?_ I_nil))
       ·
        refine x_call Try.func57 nm57 bd57 (.cons rfl (.cons rfl .nil)) rfl (rsend PC (by omega) (by omega) mm) fun _ => ?_
        refine I_take (i := 19) rfl rfl rfl rfl (by kernel_rfl) (fun _ _ _ _ h => h) (fun _ => Pur.vl (p_move rfl)) ?_
        refine I_take (i := 20) rfl rfl rfl rfl (by kernel_rfl) (fun _ _ _ _ h => h) (fun _ => Pur.vl (p_extract rfl rfl)) ?_
        refine I_take (i := 21) rfl rfl rfl rfl (by kernel_rfl) (fun _ _ _ _ h => h) (fun _ => Pur.vl (p_extract rfl rfl)) ?_
        refine I_one (i := 22) SI (by kernel_rfl) rfl ?_
        refine x_alloc ty104 rfl fun b10 => ?_
        refine I_one (i := 23) SI (by kernel_rfl) rfl ?_
        refine x_store rfl rfl ty104 rfl (by first | rfl | (simp [*]; done)) (by first | rfl | (simp [*]; done)) RO PT ?_
        refine I_take (i := 24) rfl rfl rfl rfl (by kernel_rfl) (fun _ _ _ _ h => h) (fun _ => Pur.vl (p_assign rfl)) ?_
        refine I_done SI (by kernel_rfl) ?_
        refine Q_then ?_
        refine J_seq ?_
        refine J_region ?_
        refine L_pur rfl (p_move rfl) ?_
        refine L_pur rfl (p_move rfl) ?_
        refine L_pur rfl (p_neb Try.underlying4 rfl rfl) ?_
        refine L_pur rfl (p_move rfl) ?_
        refine J_bool (t := 145) (c := false) rfl (by simp) ?_
        refine L_op (G_on rfl rfl rfl ?_)
        refine J_pur (p_fieldAddr rfl fa52_0) rfl rfl rfl ?_
        refine L_op (G_on rfl rfl rfl ?_)
        refine J_val (v_loadA rfl ty36 HS CT) rfl rfl rfl ?_
        refine L_op (G_on rfl rfl rfl ?_)
        refine J_pur (p_fieldAddr rfl fa104_0) rfl rfl rfl ?_
        refine L_op (G_on rfl rfl rfl ?_)
        refine J_val (v_loadA rfl ty36 HS CT) rfl rfl rfl ?_
        refine L_op (G_on rfl rfl rfl ?_)
        refine J_pur (p_nev rfl rfl (fun w => eg36 _ _ _ _ _ w) (fun w => nev36 _ _ _ _ w)) rfl rfl rfl ?_
        refine L_pur rfl (p_pick_f rfl rfl) ?_
        refine L_pur rfl (p_move rfl) ?_
        refine J_bool (t := 152) (c := false) rfl (by simp) ?_
        refine L_op (G_on rfl rfl rfl ?_)
        refine J_pur (p_fieldAddr rfl fa52_1) rfl rfl rfl ?_
        refine L_op (G_on rfl rfl rfl ?_)
        refine J_val (v_load rfl ty3 HS (by exact rfl)) rfl rfl rfl ?_
        refine L_op (G_on rfl rfl rfl ?_)
        refine J_pur (p_fieldAddr rfl fa104_1) rfl rfl rfl ?_
        refine L_op (G_on rfl rfl rfl ?_)
        refine J_val (v_load rfl ty3 HS (by exact rfl)) rfl rfl rfl ?_
        refine L_op (G_on rfl rfl rfl ?_)
        refine J_pur (p_neq rfl rfl) rfl rfl rfl ?_
        refine L_pur rfl (p_pick_f rfl rfl) ?_
        refine L_nil ?_
        refine Q_then ?_
        refine J_bool (t := 158) (c := false) rfl (by simp) ?_
        refine C_false rfl ?_
        refine J_skip ?_
        refine Q_blk_normal ?_
        refine Q_then ?_
        refine J_pure_in (p := (bif inn.isEmpty then out ++ [mm] else out).length ≤ i + 1 ∧ inn.tail.length ≤ i + 1 ∧ ((bif inn.isEmpty then out ++ [mm] else out) = [] ∨ inn.tail = [])) (by cases inn with | nil => exact ⟨by simp; omega, by simp, .inr rfl⟩ | cons r rs => have : out = [] := by { rcases hne with h | h; exact h; cases h }; subst this; exact ⟨by simp, by simp at hin ⊢; omega, .inl rfl⟩) ?_
        exact J_at2 (L := (fun (x : List Msg) (y : List Rcv) => As.pure (x.length ≤ i + 1 ∧ y.length ≤ i + 1 ∧ (x = [] ∨ y = [])) :: epA b4 x y :: reA b5 0 x y :: [old W])) (G := (fun (x : List Msg) (y : List Rcv) => [(6, .int .i64 (i : Int)), (0, .slice (some ⟨bx, ox, none⟩) (ds.map encE).length cap), (3, .bool true), (4, .pointer (some ⟨b4, 0, none⟩)), (5, .pointer (some ⟨b5, 0, none⟩))])) (bif inn.isEmpty then out ++ [mm] else out) inn.tail SU KE
       ·
        refine x_alloc ty104 rfl fun b10 => ?_
        refine I_one (i := 18) SI (by kernel_rfl) rfl ?_
        refine x_call Try.func57 nm57 bd57 (.cons rfl (.cons rfl .nil)) rfl (rsend PC (by omega) (by omega) mm) fun _ => ?_
        refine I_take (i := 19) rfl rfl rfl rfl (by kernel_rfl) (fun _ _ _ _ h => h) (fun _ => Pur.vl (p_move rfl)) ?_
        refine I_take (i := 20) rfl rfl rfl rfl (by kernel_rfl) (fun _ _ _ _ h => h) (fun _ => Pur.vl (p_extract rfl rfl)) ?_
        refine I_take (i := 21) rfl rfl rfl rfl (by kernel_rfl) (fun _ _ _ _ h => h) (fun _ => Pur.vl (p_extract rfl rfl)) ?_
        refine I_one (i := 23) SI (by kernel_rfl) rfl ?_
        refine x_store rfl rfl ty104 rfl (by first | rfl | (simp [*]; done)) (by first | rfl | (simp [*]; done)) RO PT ?_
        refine I_take (i := 24) rfl rfl rfl rfl (by kernel_rfl) (fun _ _ _ _ h => h) (fun _ => Pur.vl (p_assign rfl)) ?_
        refine I_done SI (by kernel_rfl) ?_
        refine Q_then ?_
        refine J_seq ?_
        refine J_region ?_
        refine L_pur rfl (p_move rfl) ?_
        refine L_pur rfl (p_move rfl) ?_
        refine L_pur rfl (p_neb Try.underlying4 rfl rfl) ?_
        refine L_pur rfl (p_move rfl) ?_
        refine J_bool (t := 145) (c := false) rfl (by simp) ?_
        refine L_op (G_on rfl rfl rfl ?_)
        refine J_pur (p_fieldAddr rfl fa52_0) rfl rfl rfl ?_
        refine L_op (G_on rfl rfl rfl ?_)
        refine J_val (v_loadA rfl ty36 HS CT) rfl rfl rfl ?_
        refine L_op (G_on rfl rfl rfl ?_)
        refine J_pur (p_fieldAddr rfl fa104_0) rfl rfl rfl ?_
        refine L_op (G_on rfl rfl rfl ?_)
        refine J_val (v_loadA rfl ty36 HS CT) rfl rfl rfl ?_
        refine L_op (G_on rfl rfl rfl ?_)
        refine J_pur (p_nev rfl rfl (fun w => eg36 _ _ _ _ _ w) (fun w => nev36 _ _ _ _ w)) rfl rfl rfl ?_
        refine L_pur rfl (p_pick_f rfl rfl) ?_
        refine L_pur rfl (p_move rfl) ?_
        refine J_bool (t := 152) (c := false) rfl (by simp) ?_
        refine L_op (G_on rfl rfl rfl ?_)
        refine J_pur (p_fieldAddr rfl fa52_1) rfl rfl rfl ?_
        refine L_op (G_on rfl rfl rfl ?_)
        refine J_val (v_load rfl ty3 HS (by exact rfl)) rfl rfl rfl ?_
        refine L_op (G_on rfl rfl rfl ?_)
        refine J_pur (p_fieldAddr rfl fa104_1) rfl rfl rfl ?_
        refine L_op (G_on rfl rfl rfl ?_)
        refine J_val (v_load rfl ty3 HS (by exact rfl)) rfl rfl rfl ?_
        refine L_op (G_on rfl rfl rfl ?_)
        refine J_pur (p_neq rfl rfl) rfl rfl rfl ?_
        refine L_pur rfl (p_pick_f rfl rfl) ?_
        refine L_nil ?_
        refine Q_then ?_
        refine J_bool (t := 158) (c := false) rfl (by simp) ?_
        refine C_false rfl ?_
        refine J_skip ?_
        refine Q_blk_normal ?_
        refine Q_then ?_
        refine J_pure_in (p := (bif inn.isEmpty then out ++ [mm] else out).length ≤ i + 1 ∧ inn.tail.length ≤ i + 1 ∧ ((bif inn.isEmpty then out ++ [mm] else out) = [] ∨ inn.tail = [])) (by cases inn with | nil => exact ⟨by simp; omega, by simp, .inr rfl⟩ | cons r rs => have : out = [] := by { rcases hne with h | h; exact h; cases h }; subst this; exact ⟨by simp, by simp at hin ⊢; omega, .inl rfl⟩) ?_
        exact J_at2 (L := (fun (x : List Msg) (y : List Rcv) => As.pure (x.length ≤ i + 1 ∧ y.length ≤ i + 1 ∧ (x = [] ∨ y = [])) :: epA b4 x y :: reA b5 0 x y :: [old W])) (G := (fun (x : List Msg) (y : List Rcv) => [(6, .int .i64 (i : Int)), (0, .slice (some ⟨bx, ox, none⟩) (ds.map encE).length cap), (3, .bool true), (4, .pointer (some ⟨b4, 0, none⟩)), (5, .pointer (some ⟨b5, 0, none⟩))])) (bif inn.isEmpty then out ++ [mm] else out) inn.tail SU KE
      ·
       refine x_alloc ty52 rfl fun b8 => ?_
       refine I_one (i := 18) SI (by kernel_rfl) rfl ?_
       refine x_call Try.func30 nm30 bd30 (.cons rfl (.cons rfl .nil)) rfl (send PC (by omega) (by omega) mm) fun _ => ?_
       refine I_take (i := 19) rfl rfl rfl rfl (by kernel_rfl) (fun _ _ _ _ h => h) (fun _ => Pur.vl (p_move rfl)) ?_
       refine I_take (i := 20) rfl rfl rfl rfl (by kernel_rfl) (fun _ _ _ _ h => h) (fun _ => Pur.vl (p_extract rfl rfl)) ?_
       refine I_take (i := 21) rfl rfl rfl rfl (by kernel_rfl) (fun _ _ _ _ h => h) (fun _ => Pur.vl (p_extract rfl rfl)) ?_
       refine I_one (i := 23) SI (by kernel_rfl) rfl ?_
       refine x_store rfl rfl ty52 rfl (by first | rfl | (simp [*]; done)) (by first | rfl | (simp [*]; done)) RO PT ?_
       refine I_take (i := 24) rfl rfl rfl rfl (by kernel_rfl) (fun _ _ _ _ h => h) (fun _ => Pur.vl (p_assign rfl)) ?_
       refine I_done SI (by kernel_rfl) ?_
       refine Q_then ?_
       refine J_seq ?_
       refine J_drawI none [blk b7 36 (encI id), old W] mixed ?_
       refine I_take (i := 0) rfl rfl rfl rfl (by kernel_rfl) (fun _ _ _ _ h => h) (fun _ => v_loadA rfl ty36 HS CT) ?_
       refine I_take (i := 1) rfl rfl rfl rfl (by kernel_rfl) (fun _ _ _ _ h => h) (fun _ => Pur.vl (p_move rfl)) ?_
       refine I_take (i := 2) rfl rfl rfl rfl (by kernel_rfl) (fun _ _ _ _ h => h) (fun _ => Pur.vl (p_move rfl)) ?_
       refine I_take (i := 3) rfl rfl rfl rfl (by kernel_rfl) (fun _ _ _ _ h => h) (fun _ => Pur.vl (p_indexAddr rfl rfl Try.underlying97 ty103 (by omega) (by omega))) ?_
       refine I_take (i := 4) rfl rfl rfl rfl (by kernel_rfl) (fun _ _ _ _ h => h) (fun _ => Pur.vl (p_fieldAddr rfl fa103_2)) ?_
       refine I_take (i := 5) rfl rfl rfl rfl (by kernel_rfl) (fun _ _ _ _ h => h) (fun _ => v_loadRF rfl ty3 (fun w H => hr.old HS H) (by first | (simp only [Int.toNat_natCast, List.getElem?_map, hcc]; rfl) | (simp only [Int.toNat_natCast, List.getElem?_map, hcd]; rfl) | simp | rfl) (by exact rfl)) ?_
       refine I_take (i := 6) rfl rfl rfl rfl (by kernel_rfl) (fun _ _ _ _ h => h) (fun _ => Pur.vl (p_conv rfl Try.underlying3 Try.underlying37)) ?_
       refine I_take (i := 7) rfl rfl rfl rfl (by kernel_rfl) (fun _ _ _ _ h => h) (fun _ => Pur.vl (p_move rfl)) ?_
       refine I_take (i := 8) rfl rfl rfl rfl (by kernel_rfl) (fun _ _ _ _ h => h) (fun _ => Pur.vl (p_move rfl)) ?_
       refine I_take (i := 9) rfl rfl rfl rfl (by kernel_rfl) (fun _ _ _ _ h => h) (fun _ => Pur.vl (p_indexAddr rfl rfl Try.underlying97 ty103 (by omega) (by omega))) ?_
       refine I_take (i := 10) rfl rfl rfl rfl (by kernel_rfl) (fun _ _ _ _ h => h) (fun _ => Pur.vl (p_fieldAddr rfl fa103_2)) ?_
       refine I_take (i := 11) rfl rfl rfl rfl (by kernel_rfl) (fun _ _ _ _ h => h) (fun _ => v_loadRF rfl ty3 (fun w H => hr.old HS H) (by first | (simp only [Int.toNat_natCast, List.getElem?_map, hcc]; rfl) | (simp only [Int.toNat_natCast, List.getElem?_map, hcd]; rfl) | simp | rfl) (by exact rfl)) ?_
       refine I_take (i := 12) rfl rfl rfl rfl (by kernel_rfl) (fun _ _ _ _ h => h) (fun _ => Pur.vl (p_move rfl)) ?_
       refine I_take (i := 13) rfl rfl rfl rfl (by kernel_rfl) (fun _ _ _ _ h => h) (fun _ => Pur.vl (p_move rfl)) ?_
       refine I_take (i := 14) rfl rfl rfl rfl (by kernel_rfl) (fun _ _ _ _ h => h) (fun _ => Pur.vl (p_indexAddr rfl rfl Try.underlying97 ty103 (by omega) (by omega))) ?_
       refine I_take (i := 15) rfl rfl rfl rfl (by kernel_rfl) (fun _ _ _ _ h => h) (fun _ => Pur.vl (p_fieldAddr rfl fa103_3)) ?_
       refine I_take (i := 16) rfl rfl rfl rfl (by kernel_rfl) (fun _ _ _ _ h => h) (fun _ => v_loadRF rfl ty4 (fun w H => hr.old HS H) (by first | (simp only [Int.toNat_natCast, List.getElem?_map, hcc]; rfl) | (simp only [Int.toNat_natCast, List.getElem?_map, hcd]; rfl) | simp | rfl) (by exact rfl)) ?_
       refine I_take (i := 17) rfl rfl rfl rfl (by kernel_rfl) (fun _ _ _ _ h => h) (fun _ => Pur.vl (bld107 (.cons rfl (.cons rfl (.cons rfl (.cons rfl .nil)))) (by repeat constructor))) ?_
       refine J_slot (t := 138) (v := .agg (encM mm).toArray) rfl (by rw [hmm]; rfl) ?_
       refine I_ready (rs := [18, 22]) SI (by kernel_rfl) (by simp) ?_
       refine (I_cons rfl ?_ (I_cons rfl ?_ I_nil))
       ·
        refine x_call Try.func57 nm57 bd57 (.cons rfl (.cons rfl .nil)) rfl (rsend PC (by omega) (by omega) mm) fun _ => ?_
        refine I_take (i := 19) rfl rfl rfl rfl (by kernel_rfl) (fun _ _ _ _ h => h) (fun _ => Pur.vl (p_move rfl)) ?_
        refine I_take (i := 20) rfl rfl rfl rfl (by kernel_rfl) (fun _ _ _ _ h => h) (fun _ => Pur.vl (p_extract rfl rfl)) ?_
        refine I_take (i := 21) rfl rfl rfl rfl (by kernel_rfl) (fun _ _ _ _ h => h) (fun _ => Pur.vl (p_extract rfl rfl)) ?_
        refine I_one (i := 22) SI (by kernel_rfl) rfl ?_
        refine x_alloc ty104 rfl fun b10 => ?_
        refine I_one (i := 23) SI (by kernel_rfl) rfl ?_
        refine x_store rfl rfl ty104 rfl (by first | rfl | (simp [*]; done)) (by first | rfl | (simp [*]; done)) RO PT ?_
        refine I_take (i := 24) rfl rfl rfl rfl (by kernel_rfl) (fun _ _ _ _ h => h) (fun _ => Pur.vl (p_assign rfl)) ?_
        refine I_done SI (by kernel_rfl) ?_
        refine Q_then ?_
        refine J_seq ?_
        refine J_region ?_
        refine L_pur rfl (p_move rfl) ?_
        refine L_pur rfl (p_move rfl) ?_
        refine L_pur rfl (p_neb Try.underlying4 rfl rfl) ?_
        refine L_pur rfl (p_move rfl) ?_
        refine J_bool (t := 145) (c := false) rfl (by simp) ?_
        refine L_op (G_on rfl rfl rfl ?_)
        refine J_pur (p_fieldAddr rfl fa52_0) rfl rfl rfl ?_
        refine L_op (G_on rfl rfl rfl ?_)
        refine J_val (v_loadA rfl ty36 HS CT) rfl rfl rfl ?_
        refine L_op (G_on rfl rfl rfl ?_)
        refine J_pur (p_fieldAddr rfl fa104_0) rfl rfl rfl ?_
        refine L_op (G_on rfl rfl rfl ?_)
        refine J_val (v_loadA rfl ty36 HS CT) rfl rfl rfl ?_
        refine L_op (G_on rfl rfl rfl ?_)
        refine J_pur (p_nev rfl rfl (fun w => eg36 _ _ _ _ _ w) (fun w => nev36 _ _ _ _ w)) rfl rfl rfl ?_
        refine L_pur rfl (p_pick_f rfl rfl) ?_
        refine L_pur rfl (p_move rfl) ?_
        refine J_bool (t := 152) (c := false) rfl (by simp) ?_
        refine L_op (G_on rfl rfl rfl ?_)
        refine J_pur (p_fieldAddr rfl fa52_1) rfl rfl rfl ?_
        refine L_op (G_on rfl rfl rfl ?_)
        refine J_val (v_load rfl ty3 HS (by exact rfl)) rfl rfl rfl ?_
        refine L_op (G_on rfl rfl rfl ?_)
        refine J_pur (p_fieldAddr rfl fa104_1) rfl rfl rfl ?_
        refine L_op (G_on rfl rfl rfl ?_)
        refine J_val (v_load rfl ty3 HS (by exact rfl)) rfl rfl rfl ?_
        refine L_op (G_on rfl rfl rfl ?_)
        refine J_pur (p_neq rfl rfl) rfl rfl rfl ?_
        refine L_pur rfl (p_pick_f rfl rfl) ?_
        refine L_nil ?_
        refine Q_then ?_
        refine J_bool (t := 158) (c := false) rfl (by simp) ?_
        refine C_false rfl ?_
        refine J_skip ?_
        refine Q_blk_normal ?_
        refine Q_then ?_
        refine J_pure_in (p := (bif inn.isEmpty then out ++ [mm] else out).length ≤ i + 1 ∧ inn.tail.length ≤ i + 1 ∧ ((bif inn.isEmpty then out ++ [mm] else out) = [] ∨ inn.tail = [])) (by cases inn with | nil => exact ⟨by simp; omega, by simp, .inr rfl⟩ | cons r rs => have : out = [] := by { rcases hne with h | h; exact h; cases h }; subst this; exact ⟨by simp, by simp at hin ⊢; omega, .inl rfl⟩) ?_
        exact J_at2 (L := (fun (x : List Msg) (y : List Rcv) => As.pure (x.length ≤ i + 1 ∧ y.length ≤ i + 1 ∧ (x = [] ∨ y = [])) :: epA b4 x y :: reA b5 0 x y :: [old W])) (G := (fun (x : List Msg) (y : List Rcv) => [(6, .int .i64 (i : Int)), (0, .slice (some ⟨bx, ox, none⟩) (ds.map encE).length cap), (3, .bool true), (4, .pointer (some ⟨b4, 0, none⟩)), (5, .pointer (some ⟨b5, 0, none⟩))])) (bif inn.isEmpty then out ++ [mm] else out) inn.tail SU KE
       ·
        refine x_alloc ty104 rfl fun b10 => ?_
        refine I_one (i := 18) SI (by kernel_rfl) rfl ?_
        refine x_call Try.func57 nm57 bd57 (.cons rfl (.cons rfl .nil)) rfl (rsend PC (by omega) (by omega) mm) fun _ => ?_
        refine I_take (i := 19) rfl rfl rfl rfl (by kernel_rfl) (fun _ _ _ _ h => h) (fun _ => Pur.vl (p_move rfl)) ?_
        refine I_take (i := 20) rfl rfl rfl rfl (by kernel_rfl) (fun _ _ _ _ h => h) (fun _ => Pur.vl (p_extract rfl rfl)) ?_
        refine I_take (i := 21) rfl rfl rfl rfl (by kernel_rfl) (fun _ _ _ _ h => h) (fun _ => Pur.vl (p_extract rfl rfl)) ?_
        refine I_one (i := 23) SI (by kernel_rfl) rfl ?_
        refine x_store rfl rfl ty104 rfl (by first | rfl | (simp [*]; done)) (by first | rfl | (simp [*]; done)) RO PT ?_
        refine I_take (i := 24) rfl rfl rfl rfl (by kernel_rfl) (fun _ _ _ _ h => h) (fun _ => Pur.vl (p_assign rfl)) ?_
        refine I_done SI (by kernel_rfl) ?_
        refine Q_then ?_
        refine J_seq ?_
        refine J_region ?_
        refine L_pur rfl (p_move rfl) ?_
        refine L_pur rfl (p_move rfl) ?_
        refine L_pur rfl (p_neb Try.underlying4 rfl rfl) ?_
        refine L_pur rfl (p_move rfl) ?_
        refine J_bool (t := 145) (c := false) rfl (by simp) ?_
        refine L_op (G_on rfl rfl rfl ?_)
        refine J_pur (p_fieldAddr rfl fa52_0) rfl rfl rfl ?_
        refine L_op (G_on rfl rfl rfl ?_)
        refine J_val (v_loadA rfl ty36 HS CT) rfl rfl rfl ?_
        refine L_op (G_on rfl rfl rfl ?_)
        refine J_pur (p_fieldAddr rfl fa104_0) rfl rfl rfl ?_
        refine L_op (G_on rfl rfl rfl ?_)
        refine J_val (v_loadA rfl ty36 HS CT) rfl rfl rfl ?_
        refine L_op (G_on rfl rfl rfl ?_)
        refine J_pur (p_nev rfl rfl (fun w => eg36 _ _ _ _ _ w) (fun w => nev36 _ _ _ _ w)) rfl rfl rfl ?_
        refine L_pur rfl (p_pick_f rfl rfl) ?_
        refine L_pur rfl (p_move rfl) ?_
        refine J_bool (t := 152) (c := false) rfl (by simp) ?_
        refine L_op (G_on rfl rfl rfl ?_)
        refine J_pur (p_fieldAddr rfl fa52_1) rfl rfl rfl ?_
        refine L_op (G_on rfl rfl rfl ?_)
        refine J_val (v_load rfl ty3 HS (by exact rfl)) rfl rfl rfl ?_
        refine L_op (G_on rfl rfl rfl ?_)
        refine J_pur (p_fieldAddr rfl fa104_1) rfl rfl rfl ?_
        refine L_op (G_on rfl rfl rfl ?_)
        refine J_val (v_load rfl ty3 HS (by exact rfl)) rfl rfl rfl ?_
        refine L_op (G_on rfl rfl rfl ?_)
        refine J_pur (p_neq rfl rfl) rfl rfl rfl ?_
        refine L_pur rfl (p_pick_f rfl rfl) ?_
        refine L_nil ?_
        refine Q_then ?_
        refine J_bool (t := 158) (c := false) rfl (by simp) ?_
        refine C_false rfl ?_
        refine J_skip ?_
        refine Q_blk_normal ?_
        refine Q_then ?_
        refine J_pure_in (p := (bif inn.isEmpty then out ++ [mm] else out).length ≤ i + 1 ∧ inn.tail.length ≤ i + 1 ∧ ((bif inn.isEmpty then out ++ [mm] else out) = [] ∨ inn.tail = [])) (by cases inn with | nil => exact ⟨by simp; omega, by simp, .inr rfl⟩ | cons r rs => have : out = [] := by { rcases hne with h | h; exact h; cases h }; subst this; exact ⟨by simp, by simp at hin ⊢; omega, .inl rfl⟩) ?_
        exact J_at2 (L := (fun (x : List Msg) (y : List Rcv) => As.pure (x.length ≤ i + 1 ∧ y.length ≤ i + 1 ∧ (x = [] ∨ y = [])) :: epA b4 x y :: reA b5 0 x y :: [old W])) (G := (fun (x : List Msg) (y : List Rcv) => [(6, .int .i64 (i : Int)), (0, .slice (some ⟨bx, ox, none⟩) (ds.map encE).length cap), (3, .bool true), (4, .pointer (some ⟨b4, 0, none⟩)), (5, .pointer (some ⟨b5, 0, none⟩))])) (bif inn.isEmpty then out ++ [mm] else out) inn.tail SU KE
     ·
      refine C_false rfl ?_
      refine J_region ?_
      refine L_pur rfl (p_eql rfl rfl) ?_
      refine L_pur rfl (p_assign rfl) ?_
      refine L_nil ?_
      refine Q_then ?_
      refine J_gsplit (t := 94) rfl (fun h94 => ?_) (fun h94 => ?_)
      ·
       refine C_true rfl ?_
       refine J_seq ?_
       refine J_drawI none [blk b7 36 (encI id), old W] mixed ?_
       refine I_take (i := 0) rfl rfl rfl rfl (by kernel_rfl) (fun _ _ _ _ h => h) (fun _ => v_loadA rfl ty36 HS CT) ?_
       refine I_take (i := 1) rfl rfl rfl rfl (by kernel_rfl) (fun _ _ _ _ h => h) (fun _ => Pur.vl (p_move rfl)) ?_
       refine I_take (i := 2) rfl rfl rfl rfl (by kernel_rfl) (fun _ _ _ _ h => h) (fun _ => Pur.vl (p_move rfl)) ?_
       refine I_take (i := 3) rfl rfl rfl rfl (by kernel_rfl) (fun _ _ _ _ h => h) (fun _ => Pur.vl (p_indexAddr rfl rfl Try.underlying97 ty103 (by omega) (by omega))) ?_
       refine I_take (i := 4) rfl rfl rfl rfl (by kernel_rfl) (fun _ _ _ _ h => h) (fun _ => Pur.vl (p_fieldAddr rfl fa103_2)) ?_
       refine I_take (i := 5) rfl rfl rfl rfl (by kernel_rfl) (fun _ _ _ _ h => h) (fun _ => v_loadRF rfl ty3 (fun w H => hr.old HS H) (by first | (simp only [Int.toNat_natCast, List.getElem?_map, hcc]; rfl) | (simp only [Int.toNat_natCast, List.getElem?_map, hcd]; rfl) | simp | rfl) (by exact rfl)) ?_
       refine I_take (i := 6) rfl rfl rfl rfl (by kernel_rfl) (fun _ _ _ _ h => h) (fun _ => Pur.vl (p_conv rfl Try.underlying3 Try.underlying37)) ?_
       refine I_take (i := 7) rfl rfl rfl rfl (by kernel_rfl) (fun _ _ _ _ h => h) (fun _ => Pur.vl (p_move rfl)) ?_
       refine I_take (i := 8) rfl rfl rfl rfl (by kernel_rfl) (fun _ _ _ _ h => h) (fun _ => Pur.vl (p_move rfl)) ?_
       refine I_take (i := 9) rfl rfl rfl rfl (by kernel_rfl) (fun _ _ _ _ h => h) (fun _ => Pur.vl (p_indexAddr rfl rfl Try.underlying97 ty103 (by omega) (by omega))) ?_
       refine I_take (i := 10) rfl rfl rfl rfl (by kernel_rfl) (fun _ _ _ _ h => h) (fun _ => Pur.vl (p_fieldAddr rfl fa103_2)) ?_
       refine I_take (i := 11) rfl rfl rfl rfl (by kernel_rfl) (fun _ _ _ _ h => h) (fun _ => v_loadRF rfl ty3 (fun w H => hr.old HS H) (by first | (simp only [Int.toNat_natCast, List.getElem?_map, hcc]; rfl) | (simp only [Int.toNat_natCast, List.getElem?_map, hcd]; rfl) | simp | rfl) (by exact rfl)) ?_
       refine I_take (i := 12) rfl rfl rfl rfl (by kernel_rfl) (fun _ _ _ _ h => h) (fun _ => Pur.vl (p_move rfl)) ?_
       refine I_take (i := 13) rfl rfl rfl rfl (by kernel_rfl) (fun _ _ _ _ h => h) (fun _ => Pur.vl (p_move rfl)) ?_
       refine I_take (i := 14) rfl rfl rfl rfl (by kernel_rfl) (fun _ _ _ _ h => h) (fun _ => Pur.vl (p_indexAddr rfl rfl Try.underlying97 ty103 (by omega) (by omega))) ?_
       refine I_take (i := 15) rfl rfl rfl rfl (by kernel_rfl) (fun _ _ _ _ h => h) (fun _ => Pur.vl (p_fieldAddr rfl fa103_3)) ?_
       refine I_take (i := 16) rfl rfl rfl rfl (by kernel_rfl) (fun _ _ _ _ h => h) (fun _ => v_loadRF rfl ty4 (fun w H => hr.old HS H) (by first | (simp only [Int.toNat_natCast, List.getElem?_map, hcc]; rfl) | (simp only [Int.toNat_natCast, List.getElem?_map, hcd]; rfl) | simp | rfl) (by exact rfl)) ?_
       refine I_take (i := 17) rfl rfl rfl rfl (by kernel_rfl) (fun _ _ _ _ h => h) (fun _ => Pur.vl (bld56 (.cons rfl (.cons rfl (.cons rfl (.cons rfl .nil)))) (by repeat constructor))) ?_
       refine J_slot (t := 116) (v := .agg (encM mm).toArray) rfl (by rw [hmm]; rfl) ?_
       refine I_ready (rs := [18, 22]) SI (by kernel_rfl) (by simp) ?_
       refine (I_cons rfl ?_ (I_cons rfl ?_ I_nil))
       ·
        refine x_call Try.func30 nm30 bd30 (.cons rfl (.cons rfl .nil)) rfl (send PC (by omega) (by omega) mm) fun _ => ?_
        refine I_take (i := 19) rfl rfl rfl rfl (by kernel_rfl) (fun _ _ _ _ h => h) (fun _ => Pur.vl (p_move rfl)) ?_
        refine I_take (i := 20) rfl rfl rfl rfl (by kernel_rfl) (fun _ _ _ _ h => h) (fun _ => Pur.vl (p_extract rfl rfl)) ?_
        refine I_take (i := 21) rfl rfl rfl rfl (by kernel_rfl) (fun _ _ _ _ h => h) (fun _ => Pur.vl (p_extract rfl rfl)) ?_
        refine I_one (i := 22) SI (by kernel_rfl) rfl ?_
        refine x_alloc ty52 rfl fun b8 => ?_
        refine I_one (i := 23) SI (by kernel_rfl) rfl ?_
        refine x_store rfl rfl ty52 rfl (by first | rfl | (simp [*]; done)) (by first | rfl | (simp [*]; done)) RO PT ?_
        refine I_take (i := 24) rfl rfl rfl rfl (by kernel_rfl) (fun _ _ _ _ h => h) (fun _ => Pur.vl (p_assign rfl)) ?_
        refine I_done SI (by kernel_rfl) ?_
        refine Q_then ?_
        refine J_seq ?_
        refine J_drawI none [blk b7 36 (encI id), old W] mixed ?_
        refine I_take (i := 0) rfl rfl rfl rfl (by kernel_rfl) (fun _ _ _ _ h => h) (fun _ => v_loadA rfl ty36 HS CT) ?_
        refine I_take (i := 1) rfl rfl rfl rfl (by kernel_rfl) (fun _ _ _ _ h => h) (fun _ => Pur.vl (p_move rfl)) ?_
        refine I_take (i := 2) rfl rfl rfl rfl (by kernel_rfl) (fun _ _ _ _ h => h) (fun _ => Pur.vl (p_move rfl)) ?_
        refine I_take (i := 3) rfl rfl rfl rfl (by kernel_rfl) (fun _ _ _ _ h => h) (fun _ => Pur.vl (p_indexAddr rfl rfl Try.underlying97 ty103 (by omega) (by omega))) ?_
        refine I_take (i := 4) rfl rfl rfl rfl (by kernel_rfl) (fun _ _ _ _ h => h) (fun _ => Pur.vl (p_fieldAddr rfl fa103_2)) ?_
        refine I_take (i := 5) rfl rfl rfl rfl (by kernel_rfl) (fun _ _ _ _ h => h) (fun _ => v_loadRF rfl ty3 (fun w H => hr.old HS H) (by first | (simp only [Int.toNat_natCast, List.getElem?_map, hcc]; rfl) | (simp only [Int.toNat_natCast, List.getElem?_map, hcd]; rfl) | simp | rfl) (by exact rfl)) ?_
        refine I_take (i := 6) rfl rfl rfl rfl (by kernel_rfl) (fun _ _ _ _ h => h) (fun _ => Pur.vl (p_conv rfl Try.underlying3 Try.underlying37)) ?_
        refine I_take (i := 7) rfl rfl rfl rfl (by kernel_rfl) (fun _ _ _ _ h => h) (fun _ => Pur.vl (p_move rfl)) ?_
        refine I_take (i := 8) rfl rfl rfl rfl (by kernel_rfl) (fun _ _ _ _ h => h) (fun _ => Pur.vl (p_move rfl)) ?_
        refine I_take (i := 9) rfl rfl rfl rfl (by kernel_rfl) (fun _ _ _ _ h => h) (fun _ => Pur.vl (p_indexAddr rfl rfl Try.underlying97 ty103 (by omega) (by omega))) ?_
        refine I_take (i := 10) rfl rfl rfl rfl (by kernel_rfl) (fun _ _ _ _ h => h) (fun _ => Pur.vl (p_fieldAddr rfl fa103_2)) ?_
        refine I_take (i := 11) rfl rfl rfl rfl (by kernel_rfl) (fun _ _ _ _ h => h) (fun _ => v_loadRF rfl ty3 (fun w H => hr.old HS H) (by first | (simp only [Int.toNat_natCast, List.getElem?_map, hcc]; rfl) | (simp only [Int.toNat_natCast, List.getElem?_map, hcd]; rfl) | simp | rfl) (by exact rfl)) ?_
        refine I_take (i := 12) rfl rfl rfl rfl (by kernel_rfl) (fun _ _ _ _ h => h) (fun _ => Pur.vl (p_move rfl)) ?_
        refine I_take (i := 13) rfl rfl rfl rfl (by kernel_rfl) (fun _ _ _ _ h => h) (fun _ => Pur.vl (p_move rfl)) ?_
        refine I_take (i := 14) rfl rfl rfl rfl (by kernel_rfl) (fun _ _ _ _ h => h) (fun _ => Pur.vl (p_indexAddr rfl rfl Try.underlying97 ty103 (by omega) (by omega))) ?_
        refine I_take (i := 15) rfl rfl rfl rfl (by kernel_rfl) (fun _ _ _ _ h => h) (fun _ => Pur.vl (p_fieldAddr rfl fa103_3)) ?_
        refine I_take (i := 16) rfl rfl rfl rfl (by kernel_rfl) (fun _ _ _ _ h => h) (fun _ => v_loadRF rfl ty4 (fun w H => hr.old HS H) (by first | (simp only [Int.toNat_natCast, List.getElem?_map, hcc]; rfl) | (simp only [Int.toNat_natCast, List.getElem?_map, hcd]; rfl) | simp | rfl) (by exact rfl)) ?_
        refine I_take (i := 17) rfl rfl rfl rfl (by kernel_rfl) (fun _ _ _ _ h => h) (fun _ => Pur.vl (bld107 (.cons rfl (.cons rfl (.cons rfl (.cons rfl .nil)))) (by repeat constructor))) ?_
        refine J_slot (t := 138) (v := .agg (encM mm).toArray) rfl (by rw [hmm]; rfl) ?_
        refine I_ready (rs := [18, 22]) SI (by kernel_rfl) (by simp) ?_
        refine (I_cons rfl ?_ (I_cons rfl ?_ I_nil))
        ·
         refine x_call Try.func57 nm57 bd57 (.cons rfl (.cons rfl .nil)) rfl (rsend PC (by omega) (by omega) mm) fun _ => ?_
         refine I_take (i := 19) rfl rfl rfl rfl (by kernel_rfl) (fun _ _ _ _ h => h) (fun _ => Pur.vl (p_move rfl)) ?_
         refine I_take (i := 20) rfl rfl rfl rfl (by kernel_rfl) (fun _ _ _ _ h => h) (fun _ => Pur.vl (p_extract rfl rfl)) ?_
         refine I_take (i := 21) rfl rfl rfl rfl (by kernel_rfl) (fun _ _ _ _ h => h) (fun _ => Pur.vl (p_extract rfl rfl)) ?_
         refine I_one (i := 22) SI (by kernel_rfl) rfl ?_
         refine x_alloc ty104 rfl fun b10 => ?_
         refine I_one (i := 23) SI (by kernel_rfl) rfl ?_
         refine x_store rfl rfl ty104 rfl (by first | rfl | (simp [*]; done)) (by first | rfl | (simp [*]; done)) RO PT ?_
         refine I_take (i := 24) rfl rfl rfl rfl (by kernel_rfl) (fun _ _ _ _ h => h) (fun _ => Pur.vl (p_assign rfl)) ?_
         refine I_done SI (by kernel_rfl) ?_
         refine Q_then ?_
         refine J_seq ?_
         refine J_region ?_
         refine L_pur rfl (p_move rfl) ?_
         refine L_pur rfl (p_move rfl) ?_
         refine L_pur rfl (p_neb Try.underlying4 rfl rfl) ?_
         refine L_pur rfl (p_move rfl) ?_
         refine J_bool (t := 145) (c := false) rfl (by simp) ?_
         refine L_op (G_on rfl rfl rfl ?_)
         refine J_pur (p_fieldAddr rfl fa52_0) rfl rfl rfl ?_
         refine L_op (G_on rfl rfl rfl ?_)
         refine J_val (v_loadA rfl ty36 HS CT) rfl rfl rfl ?_
         refine L_op (G_on rfl rfl rfl ?_)
         refine J_pur (p_fieldAddr rfl fa104_0) rfl rfl rfl ?_
         refine L_op (G_on rfl rfl rfl ?_)
         refine J_val (v_loadA rfl ty36 HS CT) rfl rfl rfl ?_
         refine L_op (G_on rfl rfl rfl ?_)
         refine J_pur (p_nev rfl rfl (fun w => eg36 _ _ _ _ _ w) (fun w => nev36 _ _ _ _ w)) rfl rfl rfl ?_
         refine L_pur rfl (p_pick_f rfl rfl) ?_
         refine L_pur rfl (p_move rfl) ?_
         refine J_bool (t := 152) (c := false) rfl (by simp) ?_
         refine L_op (G_on rfl rfl rfl ?_)
         refine J_pur (p_fieldAddr rfl fa52_1) rfl rfl rfl ?_
         refine L_op (G_on rfl rfl rfl ?_)
         refine J_val (v_load rfl ty3 HS (by exact rfl)) rfl rfl rfl ?_
         refine L_op (G_on rfl rfl rfl ?_)
         refine J_pur (p_fieldAddr rfl fa104_1) rfl rfl rfl ?_
         refine L_op (G_on rfl rfl rfl ?_)
         refine J_val (v_load rfl ty3 HS (by exact rfl)) rfl rfl rfl ?_
         refine L_op (G_on rfl rfl rfl ?_)
         refine J_pur (p_neq rfl rfl) rfl rfl rfl ?_
         refine L_pur rfl (p_pick_f rfl rfl) ?_
         refine L_nil ?_
         refine Q_then ?_
         refine J_bool (t := 158) (c := false) rfl (by simp) ?_
         refine C_false rfl ?_
         refine J_skip ?_
         refine Q_blk_normal ?_
         refine Q_then ?_
         refine J_pure_in (p := (bif inn.isEmpty then out ++ [mm] else out).length ≤ i + 1 ∧ inn.tail.length ≤ i + 1 ∧ ((bif inn.isEmpty then out ++ [mm] else out) = [] ∨ inn.tail = [])) (by cases inn with | nil => exact ⟨by simp; omega, by simp, .inr rfl⟩ | cons r rs => have : out = [] := by { rcases hne with h | h; exact h; cases h }; subst this; exact ⟨by simp, by simp at hin ⊢; omega, .inl rfl⟩) ?_
         exact J_at2 (L := (fun (x : List Msg) (y : List Rcv) => As.pure (x.length ≤ i + 1 ∧ y.length ≤ i + 1 ∧ (x = [] ∨ y = [])) :: epA b4 x y :: reA b5 0 x y :: [old W])) (G := (fun (x : List Msg) (y : List Rcv) => [(6, .int .i64 (i : Int)), (0, .slice (some ⟨bx, ox, none⟩) (ds.map encE).length cap), (3, .bool true), (4, .pointer (some ⟨b4, 0, none⟩)), (5, .pointer (some ⟨b5, 0, none⟩))])) (bif inn.isEmpty then out ++ [mm] else out) inn.tail SU KE
        ·
         refine x_alloc ty104 rfl fun b10 => ?_
         refine I_one (i := 18) SI (by kernel_rfl) rfl ?_
         refine x_call Try.func57 nm57 bd57 (.cons rfl (.cons rfl .nil)) rfl (rsend PC (by omega) (by omega) mm) fun _ => ?_
         refine I_take (i := 19) rfl rfl rfl rfl (by kernel_rfl) (fun _ _ _ _ h => h) (fun _ => Pur.vl (p_move rfl)) ?_
         refine I_take (i := 20) rfl rfl rfl rfl (by kernel_rfl) (fun _ _ _ _ h => h) (fun _ => Pur.vl (p_extract rfl rfl)) ?_
         refine I_take (i := 21) rfl rfl rfl rfl (by kernel_rfl) (fun _ _ _ _ h => h) (fun _ => Pur.vl (p_extract rfl rfl)) ?_
         refine I_one (i := 23) SI (by kernel_rfl) rfl ?_
         refine x_store rfl rfl ty104 rfl (by first | rfl | (simp [*]; done)) (by first | rfl | (simp [*]; done)) RO PT ?_
         refine I_take (i := 24) rfl rfl rfl rfl (by kernel_rfl) (fun _ _ _ _ h => h) (fun _ => Pur.vl (p_assign rfl)) ?_
         refine I_done SI (by kernel_rfl) ?_
         refine Q_then ?_
         refine J_seq ?_
         refine J_region ?_
         refine L_pur rfl (p_move rfl) ?_
         refine L_pur rfl (p_move rfl) ?_
         refine L_pur rfl (p_neb Try.underlying4 rfl rfl) ?_
         refine L_pur rfl (p_move rfl) ?_
         refine J_bool (t := 145) (c := false) rfl (by simp) ?_
         refine L_op (G_on rfl rfl rfl ?_)
         refine J_pur (p_fieldAddr rfl fa52_0) rfl rfl rfl ?_
         refine L_op (G_on rfl rfl rfl ?_)
         refine J_val (v_loadA rfl ty36 HS CT) rfl rfl rfl ?_
         refine L_op (G_on rfl rfl rfl ?_)
         refine J_pur (p_fieldAddr rfl fa104_0) rfl rfl rfl ?_
         refine L_op (G_on rfl rfl rfl ?_)
         refine J_val (v_loadA rfl ty36 HS CT) rfl rfl rfl ?_
         refine L_op (G_on rfl rfl rfl ?_)
         refine J_pur (p_nev rfl rfl (fun w => eg36 _ _ _ _ _ w) (fun w => nev36 _ _ _ _ w)) rfl rfl rfl ?_
         refine L_pur rfl (p_pick_f rfl rfl) ?_
         refine L_pur rfl (p_move rfl) ?_
         refine J_bool (t := 152) (c := false) rfl (by simp) ?_
         refine L_op (G_on rfl rfl rfl ?_)
         refine J_pur (p_fieldAddr rfl fa52_1) rfl rfl rfl ?_
         refine L_op (G_on rfl rfl rfl ?_)
         refine J_val (v_load rfl ty3 HS (by exact rfl)) rfl rfl rfl ?_
         refine L_op (G_on rfl rfl rfl ?_)
         refine J_pur (p_fieldAddr rfl fa104_1) rfl rfl rfl ?_
         refine L_op (G_on rfl rfl rfl ?_)
         refine J_val (v_load rfl ty3 HS (by exact rfl)) rfl rfl rfl ?_
         refine L_op (G_on rfl rfl rfl ?_)
         refine J_pur (p_neq rfl rfl) rfl rfl rfl ?_
         refine L_pur rfl (p_pick_f rfl rfl) ?_
         refine L_nil ?_
         refine Q_then ?_
         refine J_bool (t := 158) (c := false) rfl (by simp) ?_
         refine C_false rfl ?_
         refine J_skip ?_
         refine Q_blk_normal ?_
         refine Q_then ?_
         refine J_pure_in (p := (bif inn.isEmpty then out ++ [mm] else out).length ≤ i + 1 ∧ inn.tail.length ≤ i + 1 ∧ ((bif inn.isEmpty then out ++ [mm] else out) = [] ∨ inn.tail = [])) (by cases inn with | nil => exact ⟨by simp; omega, by simp, .inr rfl⟩ | cons r rs => have : out = [] := by { rcases hne with h | h; exact h; cases h }; subst this; exact ⟨by simp, by simp at hin ⊢; omega, .inl rfl⟩) ?_
         exact J_at2 (L := (fun (x : List Msg) (y : List Rcv) => As.pure (x.length ≤ i + 1 ∧ y.length ≤ i + 1 ∧ (x = [] ∨ y = [])) :: epA b4 x y :: reA b5 0 x y :: [old W])) (G := (fun (x : List Msg) (y : List Rcv) => [(6, .int .i64 (i : Int)), (0, .slice (some ⟨bx, ox, none⟩) (ds.map encE).length cap), (3, .bool true), (4, .pointer (some ⟨b4, 0, none⟩)), (5, .pointer (some ⟨b5, 0, none⟩))])) (bif inn.isEmpty then out ++ [mm] else out) inn.tail SU KE
       ·
        refine x_alloc ty52 rfl fun b8 => ?_
        refine I_one (i := 18) SI (by kernel_rfl) rfl ?_
        refine x_call Try.func30 nm30 bd30 (.cons rfl (.cons rfl .nil)) rfl (send PC (by omega) (by omega) mm) fun _ => ?_
        refine I_take (i := 19) rfl rfl rfl rfl (by kernel_rfl) (fun _ _ _ _ h => h) (fun _ => Pur.vl (p_move rfl)) ?_
        refine I_take (i := 20) rfl rfl rfl rfl (by kernel_rfl) (fun _ _ _ _ h => h) (fun _ => Pur.vl (p_extract rfl rfl)) ?_
        refine I_take (i := 21) rfl rfl rfl rfl (by kernel_rfl) (fun _ _ _ _ h => h) (fun _ => Pur.vl (p_extract rfl rfl)) ?_
        refine I_one (i := 23) SI (by kernel_rfl) rfl ?_
        refine x_store rfl rfl ty52 rfl (by first | rfl | (simp [*]; done)) (by first | rfl | (simp [*]; done)) RO PT ?_
        refine I_take (i := 24) rfl rfl rfl rfl (by kernel_rfl) (fun _ _ _ _ h => h) (fun _ => Pur.vl (p_assign rfl)) ?_
        refine I_done SI (by kernel_rfl) ?_
        refine Q_then ?_
        refine J_seq ?_
        refine J_drawI none [blk b7 36 (encI id), old W] mixed ?_
        refine I_take (i := 0) rfl rfl rfl rfl (by kernel_rfl) (fun _ _ _ _ h => h) (fun _ => v_loadA rfl ty36 HS CT) ?_
        refine I_take (i := 1) rfl rfl rfl rfl (by kernel_rfl) (fun _ _ _ _ h => h) (fun _ => Pur.vl (p_move rfl)) ?_
        refine I_take (i := 2) rfl rfl rfl rfl (by kernel_rfl) (fun _ _ _ _ h => h) (fun _ => Pur.vl (p_move rfl)) ?_
        refine I_take (i := 3) rfl rfl rfl rfl (by kernel_rfl) (fun _ _ _ _ h => h) (fun _ => Pur.vl (p_indexAddr rfl rfl Try.underlying97 ty103 (by omega) (by omega))) ?_
        refine I_take (i := 4) rfl rfl rfl rfl (by kernel_rfl) (fun _ _ _ _ h => h) (fun _ => Pur.vl (p_fieldAddr rfl fa103_2)) ?_
        refine I_take (i := 5) rfl rfl rfl rfl (by kernel_rfl) (fun _ _ _ _ h => h) (fun _ => v_loadRF rfl ty3 (fun w H => hr.old HS H) (by first | (simp only [Int.toNat_natCast, List.getElem?_map, hcc]; rfl) | (simp only [Int.toNat_natCast, List.getElem?_map, hcd]; rfl) | simp | rfl) (by exact rfl)) ?_
        refine I_take (i := 6) rfl rfl rfl rfl (by kernel_rfl) (fun _ _ _ _ h => h) (fun _ => Pur.vl (p_conv rfl Try.underlying3 Try.underlying37)) ?_
        refine I_take (i := 7) rfl rfl rfl rfl (by kernel_rfl) (fun _ _ _ _ h => h) (fun _ => Pur.vl (p_move rfl)) ?_
        refine I_take (i := 8) rfl rfl rfl rfl (by kernel_rfl) (fun _ _ _ _ h => h) (fun _ => Pur.vl (p_move rfl)) ?_
        refine I_take (i := 9) rfl rfl rfl rfl (by kernel_rfl) (fun _ _ _ _ h => h) (fun _ => Pur.vl (p_indexAddr rfl rfl Try.underlying97 ty103 (by omega) (by omega))) ?_
        refine I_take (i := 10) rfl rfl rfl rfl (by kernel_rfl) (fun _ _ _ _ h => h) (fun _ => Pur.vl (p_fieldAddr rfl fa103_2)) ?_
        refine I_take (i := 11) rfl rfl rfl rfl (by kernel_rfl) (fun _ _ _ _ h => h) (fun _ => v_loadRF rfl ty3 (fun w H => hr.old HS H) (by first | (simp only [Int.toNat_natCast, List.getElem?_map, hcc]; rfl) | (simp only [Int.toNat_natCast, List.getElem?_map, hcd]; rfl) | simp | rfl) (by exact rfl)) ?_
        refine I_take (i := 12) rfl rfl rfl rfl (by kernel_rfl) (fun _ _ _ _ h => h) (fun _ => Pur.vl (p_move rfl)) ?_
        refine I_take (i := 13) rfl rfl rfl rfl (by kernel_rfl) (fun _ _ _ _ h => h) (fun _ => Pur.vl (p_move rfl)) ?_
        refine I_take (i := 14) rfl rfl rfl rfl (by kernel_rfl) (fun _ _ _ _ h => h) (fun _ => Pur.vl (p_indexAddr rfl rfl Try.underlying97 ty103 (by omega) (by omega))) ?_
        refine I_take (i := 15) rfl rfl rfl rfl (by kernel_rfl) (fun _ _ _ _ h => h) (fun _ => Pur.vl (p_fieldAddr rfl fa103_3)) ?_
        refine I_take (i := 16) rfl rfl rfl rfl (by kernel_rfl) (fun _ _ _ _ h => h) (fun _ => v_loadRF rfl ty4 (fun w H => hr.old HS H) (by first | (simp only [Int.toNat_natCast, List.getElem?_map, hcc]; rfl) | (simp only [Int.toNat_natCast, List.getElem?_map, hcd]; rfl) | simp | rfl) (by exact rfl)) ?_
        refine I_take (i := 17) rfl rfl rfl rfl (by kernel_rfl) (fun _ _ _ _ h => h) (fun _ => Pur.vl (bld107 (.cons rfl (.cons rfl (.cons rfl (.cons rfl .nil)))) (by repeat constructor))) ?_
        refine J_slot (t := 138) (v := .agg (encM mm).toArray) rfl (by rw [hmm]; rfl) ?_
        refine I_ready (rs := [18, 22]) SI (by kernel_rfl) (by simp) ?_
        refine (I_cons rfl ?_ (I_cons rfl ?_ I_nil))
        ·
         refine x_call Try.func57 nm57 bd57 (.cons rfl (.cons rfl .nil)) rfl (rsend PC (by omega) (by omega) mm) fun _ => ?_
         refine I_take (i := 19) rfl rfl rfl rfl (by kernel_rfl) (fun _ _ _ _ h => h) (fun _ => Pur.vl (p_move rfl)) ?_
         refine I_take (i := 20) rfl rfl rfl rfl (by kernel_rfl) (fun _ _ _ _ h => h) (fun _ => Pur.vl (p_extract rfl rfl)) ?_
         refine I_take (i := 21) rfl rfl rfl rfl (by kernel_rfl) (fun _ _ _ _ h => h) (fun _ => Pur.vl (p_extract rfl rfl)) ?_
         refine I_one (i := 22) SI (by kernel_rfl) rfl ?_
         refine x_alloc ty104 rfl fun b10 => ?_
         refine I_one (i := 23) SI (by kernel_rfl) rfl ?_
         refine x_store rfl rfl ty104 rfl (by first | rfl | (simp [*]; done)) (by first | rfl | (simp [*]; done)) RO PT ?_
         refine I_take (i := 24) rfl rfl rfl rfl (by kernel_rfl) (fun _ _ _ _ h => h) (fun _ => Pur.vl (p_assign rfl)) ?_
         refine I_done SI (by kernel_rfl) ?_
         refine Q_then ?_
         refine J_seq ?_
         refine J_region ?_
         refine L_pur rfl (p_move rfl) ?_
         refine L_pur rfl (p_move rfl) ?_
         refine L_pur rfl (p_neb Try.underlying4 rfl rfl) ?_
         refine L_pur rfl (p_move rfl) ?_
         refine J_bool (t := 145) (c := false) rfl (by simp) ?_
         refine L_op (G_on rfl rfl rfl ?_)
         refine J_pur (p_fieldAddr rfl fa52_0) rfl rfl rfl ?_
         refine L_op (G_on rfl rfl rfl ?_)
         refine J_val (v_loadA rfl ty36 HS CT) rfl rfl rfl ?_
         refine L_op (G_on rfl rfl rfl ?_)
         refine J_pur (p_fieldAddr rfl fa104_0) rfl rfl rfl ?_
         refine L_op (G_on rfl rfl rfl ?_)
         refine J_val (v_loadA rfl ty36 HS CT) rfl rfl rfl ?_
         refine L_op (G_on rfl rfl rfl ?_)
         refine J_pur (p_nev rfl rfl (fun w => eg36 _ _ _ _ _ w) (fun w => nev36 _ _ _ _ w)) rfl rfl rfl ?_
         refine L_pur rfl (p_pick_f rfl rfl) ?_
         refine L_pur rfl (p_move rfl) ?_
         refine J_bool (t := 152) (c := false) rfl (by simp) ?_
         refine L_op (G_on rfl rfl rfl ?_)
         refine J_pur (p_fieldAddr rfl fa52_1) rfl rfl rfl ?_
         refine L_op (G_on rfl rfl rfl ?_)
         refine J_val (v_load rfl ty3 HS (by exact rfl)) rfl rfl rfl ?_
         refine L_op (G_on rfl rfl rfl ?_)
         refine J_pur (p_fieldAddr rfl fa104_1) rfl rfl rfl ?_
         refine L_op (G_on rfl rfl rfl ?_)
         refine J_val (v_load rfl ty3 HS (by exact rfl)) rfl rfl rfl ?_
         refine L_op (G_on rfl rfl rfl ?_)
         refine J_pur (p_neq rfl rfl) rfl rfl rfl ?_
         refine L_pur rfl (p_pick_f rfl rfl) ?_
         refine L_nil ?_
         refine Q_then ?_
         refine J_bool (t := 158) (c := false) rfl (by simp) ?_
         refine C_false rfl ?_
         refine J_skip ?_
         refine Q_blk_normal ?_
         refine Q_then ?_
         refine J_pure_in (p := (bif inn.isEmpty then out ++ [mm] else out).length ≤ i + 1 ∧ inn.tail.length ≤ i + 1 ∧ ((bif inn.isEmpty then out ++ [mm] else out) = [] ∨ inn.tail = [])) (by cases inn with | nil => exact ⟨by simp; omega, by simp, .inr rfl⟩ | cons r rs => have : out = [] := by { rcases hne with h | h; exact h; cases h }; subst this; exact ⟨by simp, by simp at hin ⊢; omega, .inl rfl⟩) ?_
         exact J_at2 (L := (fun (x : List Msg) (y : List Rcv) => As.pure (x.length ≤ i + 1 ∧ y.length ≤ i + 1 ∧ (x = [] ∨ y = [])) :: epA b4 x y :: reA b5 0 x y :: [old W])) (G := (fun (x : List Msg) (y : List Rcv) => [(6, .int .i64 (i : Int)), (0, .slice (some ⟨bx, ox, none⟩) (ds.map encE).length cap), (3, .bool true), (4, .pointer (some ⟨b4, 0, none⟩)), (5, .pointer (some ⟨b5, 0, none⟩))])) (bif inn.isEmpty then out ++ [mm] else out) inn.tail SU KE
        ·
         refine x_alloc ty104 rfl fun b10 => ?_
         refine I_one (i := 18) SI (by kernel_rfl) rfl ?_
         refine x_call Try.func57 nm57 bd57 (.cons rfl (.cons rfl .nil)) rfl (rsend PC (by omega) (by omega) mm) fun _ => ?_
         refine I_take (i := 19) rfl rfl rfl rfl (by kernel_rfl) (fun _ _ _ _ h => h) (fun _ => Pur.vl (p_move rfl)) ?_
         refine I_take (i := 20) rfl rfl rfl rfl (by kernel_rfl) (fun _ _ _ _ h => h) (fun _ => Pur.vl (p_extract rfl rfl)) ?_
         refine I_take (i := 21) rfl rfl rfl rfl (by kernel_rfl) (fun _ _ _ _ h => h) (fun _ => Pur.vl (p_extract rfl rfl)) ?_
         refine I_one (i := 23) SI (by kernel_rfl) rfl ?_
         refine x_store rfl rfl ty104 rfl (by first | rfl | (simp [*]; done)) (by first | rfl | (simp [*]; done)) RO PT ?_
         refine I_take (i := 24) rfl rfl rfl rfl (by kernel_rfl) (fun _ _ _ _ h => h) (fun _ => Pur.vl (p_assign rfl)) ?_
         refine I_done SI (by kernel_rfl) ?_
         refine Q_then ?_
         refine J_seq ?_
         refine J_region ?_
         refine L_pur rfl (p_move rfl) ?_
         refine L_pur rfl (p_move rfl) ?_
         refine L_pur rfl (p_neb Try.underlying4 rfl rfl) ?_
         refine L_pur rfl (p_move rfl) ?_
         refine J_bool (t := 145) (c := false) rfl (by simp) ?_
         refine L_op (G_on rfl rfl rfl ?_)
         refine J_pur (p_fieldAddr rfl fa52_0) rfl rfl rfl ?_
         refine L_op (G_on rfl rfl rfl ?_)
         refine J_val (v_loadA rfl ty36 HS CT) rfl rfl rfl ?_
         refine L_op (G_on rfl rfl rfl ?_)
         refine J_pur (p_fieldAddr rfl fa104_0) rfl rfl rfl ?_
         refine L_op (G_on rfl rfl rfl ?_)
         refine J_val (v_loadA rfl ty36 HS CT) rfl rfl rfl ?_
         refine L_op (G_on rfl rfl rfl ?_)
         refine J_pur (p_nev rfl rfl (fun w => eg36 _ _ _ _ _ w) (fun w => nev36 _ _ _ _ w)) rfl rfl rfl ?_
         refine L_pur rfl (p_pick_f rfl rfl) ?_
         refine L_pur rfl (p_move rfl) ?_
         refine J_bool (t := 152) (c := false) rfl (by simp) ?_
         refine L_op (G_on rfl rfl rfl ?_)
         refine J_pur (p_fieldAddr rfl fa52_1) rfl rfl rfl ?_
         refine L_op (G_on rfl rfl rfl ?_)
         refine J_val (v_load rfl ty3 HS (by exact rfl)) rfl rfl rfl ?_
         refine L_op (G_on rfl rfl rfl ?_)
         refine J_pur (p_fieldAddr rfl fa104_1) rfl rfl rfl ?_
         refine L_op (G_on rfl rfl rfl ?_)
         refine J_val (v_load rfl ty3 HS (by exact rfl)) rfl rfl rfl ?_
         refine L_op (G_on rfl rfl rfl ?_)
         refine J_pur (p_neq rfl rfl) rfl rfl rfl ?_
         refine L_pur rfl (p_pick_f rfl rfl) ?_
         refine L_nil ?_
         refine Q_then ?_
         refine J_bool (t := 158) (c := false) rfl (by simp) ?_
         refine C_false rfl ?_
         refine J_skip ?_
         refine Q_blk_normal ?_
         refine Q_then ?_
         refine J_pure_in (p := (bif inn.isEmpty then out ++ [mm] else out).length ≤ i + 1 ∧ inn.tail.length ≤ i + 1 ∧ ((bif inn.isEmpty then out ++ [mm] else out) = [] ∨ inn.tail = [])) (by cases inn with | nil => exact ⟨by simp; omega, by simp, .inr rfl⟩ | cons r rs => have : out = [] := by { rcases hne with h | h; exact h; cases h }; subst this; exact ⟨by simp, by simp at hin ⊢; omega, .inl rfl⟩) ?_
         exact J_at2 (L := (fun (x : List Msg) (y : List Rcv) => As.pure (x.length ≤ i + 1 ∧ y.length ≤ i + 1 ∧ (x = [] ∨ y = [])) :: epA b4 x y :: reA b5 0 x y :: [old W])) (G := (fun (x : List Msg) (y : List Rcv) => [(6, .int .i64 (i : Int)), (0, .slice (some ⟨bx, ox, none⟩) (ds.map encE).length cap), (3, .bool true), (4, .pointer (some ⟨b4, 0, none⟩)), (5, .pointer (some ⟨b5, 0, none⟩))])) (bif inn.isEmpty then out ++ [mm] else out) inn.tail SU KE
      ·
       refine C_false rfl ?_
       refine J_seq ?_
       refine J_region ?_
       refine L_pur rfl (p_eql rfl rfl) ?_
       refine L_pur rfl (p_assign rfl) ?_
       refine L_nil ?_
       refine Q_then ?_
       refine C_dec rfl (fun h159 => ?_) (fun h159 => ?_)
       ·
        refine J_seq ?_
        refine J_drawI none [blk b7 36 (encI id)] mixed ?_
        refine I_take (i := 0) rfl rfl rfl rfl (by kernel_rfl) (fun _ _ _ _ h => h) (fun _ => v_loadA rfl ty36 HS CT) ?_
        refine I_take (i := 2) rfl rfl rfl rfl (by kernel_rfl) (fun _ _ _ _ h => h) (fun _ => v_loadA rfl ty36 HS CT) ?_
        refine I_one (i := 1) SI (by kernel_rfl) rfl ?_
        refine x_call Try.func58 nm58 bd58 (.cons rfl (.cons rfl .nil)) rfl (drop (i := id) PC (by omega) (by omega)) fun _ => ?_
        refine I_one (i := 3) SI (by kernel_rfl) rfl ?_
        refine x_call Try.func59 nm59 bd59 (.cons rfl (.cons rfl .nil)) rfl (rdrop (i := id) PC (by omega) (by omega)) fun _ => ?_
        refine I_take (i := 4) rfl rfl rfl rfl (by kernel_rfl) (fun _ _ _ _ h => h) (fun _ => Pur.vl (p_neb Try.underlying4 rfl rfl)) ?_
        refine I_done SI (by kernel_rfl) ?_
        refine Q_then ?_
        refine J_bool (t := 165) (c := false) rfl (by simp) ?_
        refine C_false rfl ?_
        refine J_skip ?_
        refine Q_blk_normal ?_
        refine Q_then ?_
        refine J_pure_in (p := (out.filter fun c => !isM id c).length ≤ i + 1 ∧ (inn.filter fun c => !isR id c).length ≤ i + 1 ∧ ((out.filter fun c => !isM id c) = [] ∨ (inn.filter fun c => !isR id c) = [])) (by refine ⟨Nat.le_trans (List.length_filter_le _ _) (by omega), Nat.le_trans (List.length_filter_le _ _) (by omega), ?_⟩; rcases hne with h | h <;> subst h <;> simp) ?_
        exact J_at2 (L := (fun (x : List Msg) (y : List Rcv) => As.pure (x.length ≤ i + 1 ∧ y.length ≤ i + 1 ∧ (x = [] ∨ y = [])) :: epA b4 x y :: reA b5 0 x y :: [old W])) (G := (fun (x : List Msg) (y : List Rcv) => [(6, .int .i64 (i : Int)), (0, .slice (some ⟨bx, ox, none⟩) (ds.map encE).length cap), (3, .bool true), (4, .pointer (some ⟨b4, 0, none⟩)), (5, .pointer (some ⟨b5, 0, none⟩))])) (out.filter fun c => !isM id c) (inn.filter fun c => !isR id c) SU KE
       ·
        refine J_seq ?_
        refine J_drawI none [blk b7 36 (encI id), old W] mixed ?_
        refine I_take (i := 0) rfl rfl rfl rfl (by kernel_rfl) (fun _ _ _ _ h => h) (fun _ => v_loadA rfl ty36 HS CT) ?_
        refine I_take (i := 1) rfl rfl rfl rfl (by kernel_rfl) (fun _ _ _ _ h => h) (fun _ => Pur.vl (p_move rfl)) ?_
        refine I_take (i := 2) rfl rfl rfl rfl (by kernel_rfl) (fun _ _ _ _ h => h) (fun _ => Pur.vl (p_move rfl)) ?_
        refine I_take (i := 3) rfl rfl rfl rfl (by kernel_rfl) (fun _ _ _ _ h => h) (fun _ => Pur.vl (p_indexAddr rfl rfl Try.underlying97 ty103 (by omega) (by omega))) ?_
        refine I_take (i := 4) rfl rfl rfl rfl (by kernel_rfl) (fun _ _ _ _ h => h) (fun _ => Pur.vl (p_fieldAddr rfl fa103_2)) ?_
        refine I_take (i := 5) rfl rfl rfl rfl (by kernel_rfl) (fun _ _ _ _ h => h) (fun _ => v_loadRF rfl ty3 (fun w H => hr.old HS H) (by first | (simp only [Int.toNat_natCast, List.getElem?_map, hcc]; rfl) | (simp only [Int.toNat_natCast, List.getElem?_map, hcd]; rfl) | simp | rfl) (by exact rfl)) ?_
        refine I_take (i := 6) rfl rfl rfl rfl (by kernel_rfl) (fun _ _ _ _ h => h) (fun _ => Pur.vl (bld52 (.cons rfl (.cons rfl .nil)) (by repeat constructor))) ?_
        refine J_slot (t := 48) (v := .agg (encR rr).toArray) rfl (by rw [hrr]; rfl) ?_
        refine I_ready (rs := [7, 11]) SI (by kernel_rfl) (by simp) ?_
        refine (I_cons rfl ?_ (I_cons rfl ?_ I_nil))
        ·
         refine x_call Try.func31 nm31 bd31 (.cons rfl (.cons rfl .nil)) rfl (recv PC (by omega) (by omega) rr) fun _ => ?_
         refine I_take (i := 8) rfl rfl rfl rfl (by kernel_rfl) (fun _ _ _ _ h => h) (fun _ => Pur.vl (p_move rfl)) ?_
         refine I_take (i := 9) rfl rfl rfl rfl (by kernel_rfl) (fun _ _ _ _ h => h) (fun _ => Pur.vl (p_extract rfl rfl)) ?_
         refine I_take (i := 10) rfl rfl rfl rfl (by kernel_rfl) (fun _ _ _ _ h => h) (fun _ => Pur.vl (p_extract rfl rfl)) ?_
         refine I_one (i := 11) SI (by kernel_rfl) rfl ?_
         refine x_alloc ty56 rfl fun b12 => ?_
         refine I_one (i := 12) SI (by kernel_rfl) rfl ?_
         refine x_store rfl rfl ty56 rfl (by first | rfl | (simp [*]; done)) (by first | rfl | (simp [*]; done)) RO PT ?_
         refine I_take (i := 13) rfl rfl rfl rfl (by kernel_rfl) (fun _ _ _ _ h => h) (fun _ => Pur.vl (p_assign rfl)) ?_
         refine I_done SI (by kernel_rfl) ?_
         refine Q_then ?_
         refine J_seq ?_
         refine J_drawI none [blk b7 36 (encI id), old W] mixed ?_
         refine I_take (i := 0) rfl rfl rfl rfl (by kernel_rfl) (fun _ _ _ _ h => h) (fun _ => v_loadA rfl ty36 HS CT) ?_
         refine I_take (i := 1) rfl rfl rfl rfl (by kernel_rfl) (fun _ _ _ _ h => h) (fun _ => Pur.vl (p_move rfl)) ?_
         refine I_take (i := 2) rfl rfl rfl rfl (by kernel_rfl) (fun _ _ _ _ h => h) (fun _ => Pur.vl (p_move rfl)) ?_
         refine I_take (i := 3) rfl rfl rfl rfl (by kernel_rfl) (fun _ _ _ _ h => h) (fun _ => Pur.vl (p_indexAddr rfl rfl Try.underlying97 ty103 (by omega) (by omega))) ?_
         refine I_take (i := 4) rfl rfl rfl rfl (by kernel_rfl) (fun _ _ _ _ h => h) (fun _ => Pur.vl (p_fieldAddr rfl fa103_2)) ?_
         refine I_take (i := 5) rfl rfl rfl rfl (by kernel_rfl) (fun _ _ _ _ h => h) (fun _ => v_loadRF rfl ty3 (fun w H => hr.old HS H) (by first | (simp only [Int.toNat_natCast, List.getElem?_map, hcc]; rfl) | (simp only [Int.toNat_natCast, List.getElem?_map, hcd]; rfl) | simp | rfl) (by exact rfl)) ?_
         refine I_take (i := 6) rfl rfl rfl rfl (by kernel_rfl) (fun _ _ _ _ h => h) (fun _ => Pur.vl (bld104 (.cons rfl (.cons rfl .nil)) (by repeat constructor))) ?_
         refine J_slot (t := 59) (v := .agg (encR rr).toArray) rfl (by rw [hrr]; rfl) ?_
         refine I_ready (rs := [7, 11]) SI (by kernel_rfl) (by simp) ?_
         refine (I_cons rfl ?_ (I_cons rfl ?_ I_nil))
         ·
          refine x_call Try.func60 nm60 bd60 (.cons rfl (.cons rfl .nil)) rfl (rrecv PC (by omega) (by omega) rr) fun _ => ?_
          refine I_take (i := 8) rfl rfl rfl rfl (by kernel_rfl) (fun _ _ _ _ h => h) (fun _ => Pur.vl (p_move rfl)) ?_
          refine I_take (i := 9) rfl rfl rfl rfl (by kernel_rfl) (fun _ _ _ _ h => h) (fun _ => Pur.vl (p_extract rfl rfl)) ?_
          refine I_take (i := 10) rfl rfl rfl rfl (by kernel_rfl) (fun _ _ _ _ h => h) (fun _ => Pur.vl (p_extract rfl rfl)) ?_
          refine I_one (i := 11) SI (by kernel_rfl) rfl ?_
          refine x_alloc ty107 rfl fun b14 => ?_
          refine I_one (i := 12) SI (by kernel_rfl) rfl ?_
          refine x_store rfl rfl ty107 rfl (by first | rfl | (simp [*]; done)) (by first | rfl | (simp [*]; done)) RO PT ?_
          refine I_take (i := 13) rfl rfl rfl rfl (by kernel_rfl) (fun _ _ _ _ h => h) (fun _ => Pur.vl (p_assign rfl)) ?_
          refine I_done SI (by kernel_rfl) ?_
          refine Q_then ?_
          refine J_seq ?_
          refine J_region ?_
          refine L_pur rfl (p_move rfl) ?_
          refine L_pur rfl (p_move rfl) ?_
          refine L_pur rfl (p_neb Try.underlying4 rfl rfl) ?_
          refine L_pur rfl (p_move rfl) ?_
          refine J_bool (t := 66) (c := false) rfl (by simp) ?_
          refine L_op (G_on rfl rfl rfl ?_)
          refine J_pur (p_fieldAddr rfl fa56_0) rfl rfl rfl ?_
          refine L_op (G_on rfl rfl rfl ?_)
          refine J_val (v_loadA rfl ty36 HS CT) rfl rfl rfl ?_
          refine L_op (G_on rfl rfl rfl ?_)
          refine J_pur (p_fieldAddr rfl fa107_0) rfl rfl rfl ?_
          refine L_op (G_on rfl rfl rfl ?_)
          refine J_val (v_loadA rfl ty36 HS CT) rfl rfl rfl ?_
          refine L_op (G_on rfl rfl rfl ?_)
          refine J_pur (p_nev rfl rfl (fun w => eg36 _ _ _ _ _ w) (fun w => nev36 _ _ _ _ w)) rfl rfl rfl ?_
          refine L_pur rfl (p_pick_f rfl rfl) ?_
          refine L_pur rfl (p_move rfl) ?_
          refine J_bool (t := 73) (c := false) rfl (by simp) ?_
          refine L_op (G_on rfl rfl rfl ?_)
          refine J_pur (p_fieldAddr rfl fa56_1) rfl rfl rfl ?_
          refine L_op (G_on rfl rfl rfl ?_)
          refine J_val (v_load rfl ty37 HS (by exact rfl)) rfl rfl rfl ?_
          refine L_op (G_on rfl rfl rfl ?_)
          refine J_pur (p_fieldAddr rfl fa107_1) rfl rfl rfl ?_
          refine L_op (G_on rfl rfl rfl ?_)
          refine J_val (v_load rfl ty37 HS (by exact rfl)) rfl rfl rfl ?_
          refine L_op (G_on rfl rfl rfl ?_)
          refine J_pur (p_neq rfl rfl) rfl rfl rfl ?_
          refine L_pur rfl (p_pick_f rfl rfl) ?_
          refine L_pur rfl (p_move rfl) ?_
          refine J_bool (t := 80) (c := false) rfl (by simp) ?_
          refine L_op (G_on rfl rfl rfl ?_)
          refine J_pur (p_fieldAddr rfl fa56_2) rfl rfl rfl ?_
          refine L_op (G_on rfl rfl rfl ?_)
          refine J_val (v_load rfl ty3 HS (by exact rfl)) rfl rfl rfl ?_
          refine L_op (G_on rfl rfl rfl ?_)
          refine J_pur (p_fieldAddr rfl fa107_2) rfl rfl rfl ?_
          refine L_op (G_on rfl rfl rfl ?_)
          refine J_val (v_load rfl ty3 HS (by exact rfl)) rfl rfl rfl ?_
          refine L_op (G_on rfl rfl rfl ?_)
          refine J_pur (p_neq rfl rfl) rfl rfl rfl ?_
          refine L_pur rfl (p_pick_f rfl rfl) ?_
          refine L_pur rfl (p_move rfl) ?_
          refine J_bool (t := 87) (c := false) rfl (by simp) ?_
          refine L_op (G_on rfl rfl rfl ?_)
          refine J_pur (p_fieldAddr rfl fa56_3) rfl rfl rfl ?_
          refine L_op (G_on rfl rfl rfl ?_)
          refine J_val (v_load rfl ty4 HS (by exact rfl)) rfl rfl rfl ?_
          refine L_op (G_on rfl rfl rfl ?_)
          refine J_pur (p_fieldAddr rfl fa107_3) rfl rfl rfl ?_
          refine L_op (G_on rfl rfl rfl ?_)
          refine J_val (v_load rfl ty4 HS (by exact rfl)) rfl rfl rfl ?_
          refine L_op (G_on rfl rfl rfl ?_)
          refine J_pur (p_neb Try.underlying4 rfl rfl) rfl rfl rfl ?_
          refine L_pur rfl (p_pick_f rfl rfl) ?_
          refine L_nil ?_
          refine Q_then ?_
          refine J_bool (t := 93) (c := false) rfl (by simp) ?_
          refine C_false rfl ?_
          refine J_skip ?_
          refine Q_blk_normal ?_
          refine Q_then ?_
          refine J_pure_in (p := out.tail.length ≤ i + 1 ∧ (bif out.isEmpty then inn ++ [rr] else inn).length ≤ i + 1 ∧ (out.tail = [] ∨ (bif out.isEmpty then inn ++ [rr] else inn) = [])) (by cases out with | nil => exact ⟨by simp, by simp; omega, .inl rfl⟩ | cons r rs => have : inn = [] := by { rcases hne with h | h; cases h; exact h }; subst this; exact ⟨by simp at hon ⊢; omega, by simp, .inr rfl⟩) ?_
          exact J_at2 (L := (fun (x : List Msg) (y : List Rcv) => As.pure (x.length ≤ i + 1 ∧ y.length ≤ i + 1 ∧ (x = [] ∨ y = [])) :: epA b4 x y :: reA b5 0 x y :: [old W])) (G := (fun (x : List Msg) (y : List Rcv) => [(6, .int .i64 (i : Int)), (0, .slice (some ⟨bx, ox, none⟩) (ds.map encE).length cap), (3, .bool true), (4, .pointer (some ⟨b4, 0, none⟩)), (5, .pointer (some ⟨b5, 0, none⟩))])) out.tail (bif out.isEmpty then inn ++ [rr] else inn) SU KE
         ·
          refine x_alloc ty107 rfl fun b14 => ?_
          refine I_one (i := 7) SI (by kernel_rfl) rfl ?_
          refine x_call Try.func60 nm60 bd60 (.cons rfl (.cons rfl .nil)) rfl (rrecv PC (by omega) (by omega) rr) fun _ => ?_
          refine I_take (i := 8) rfl rfl rfl rfl (by kernel_rfl) (fun _ _ _ _ h => h) (fun _ => Pur.vl (p_move rfl)) ?_
          refine I_take (i := 9) rfl rfl rfl rfl (by kernel_rfl) (fun _ _ _ _ h => h) (fun _ => Pur.vl (p_extract rfl rfl)) ?_
          refine I_take (i := 10) rfl rfl rfl rfl (by kernel_rfl) (fun _ _ _ _ h => h) (fun _ => Pur.vl (p_extract rfl rfl)) ?_
          refine I_one (i := 12) SI (by kernel_rfl) rfl ?_
          refine x_store rfl rfl ty107 rfl (by first | rfl | (simp [*]; done)) (by first | rfl | (simp [*]; done)) RO PT ?_
          refine I_take (i := 13) rfl rfl rfl rfl (by kernel_rfl) (fun _ _ _ _ h => h) (fun _ => Pur.vl (p_assign rfl)) ?_
          refine I_done SI (by kernel_rfl) ?_
          refine Q_then ?_
          refine J_seq ?_
          refine J_region ?_
          refine L_pur rfl (p_move rfl) ?_
          refine L_pur rfl (p_move rfl) ?_
          refine L_pur rfl (p_neb Try.underlying4 rfl rfl) ?_
          refine L_pur rfl (p_move rfl) ?_
          refine J_bool (t := 66) (c := false) rfl (by simp) ?_
          refine L_op (G_on rfl rfl rfl ?_)
          refine J_pur (p_fieldAddr rfl fa56_0) rfl rfl rfl ?_
          refine L_op (G_on rfl rfl rfl ?_)
          refine J_val (v_loadA rfl ty36 HS CT) rfl rfl rfl ?_
          refine L_op (G_on rfl rfl rfl ?_)
          refine J_pur (p_fieldAddr rfl fa107_0) rfl rfl rfl ?_
          refine L_op (G_on rfl rfl rfl ?_)
          refine J_val (v_loadA rfl ty36 HS CT) rfl rfl rfl ?_
          refine L_op (G_on rfl rfl rfl ?_)
          refine J_pur (p_nev rfl rfl (fun w => eg36 _ _ _ _ _ w) (fun w => nev36 _ _ _ _ w)) rfl rfl rfl ?_
          refine L_pur rfl (p_pick_f rfl rfl) ?_
          refine L_pur rfl (p_move rfl) ?_
          refine J_bool (t := 73) (c := false) rfl (by simp) ?_
          refine L_op (G_on rfl rfl rfl ?_)
          refine J_pur (p_fieldAddr rfl fa56_1) rfl rfl rfl ?_
          refine L_op (G_on rfl rfl rfl ?_)
          refine J_val (v_load rfl ty37 HS (by exact rfl)) rfl rfl rfl ?_
          refine L_op (G_on rfl rfl rfl ?_)
          refine J_pur (p_fieldAddr rfl fa107_1) rfl rfl rfl ?_
          refine L_op (G_on rfl rfl rfl ?_)
          refine J_val (v_load rfl ty37 HS (by exact rfl)) rfl rfl rfl ?_
          refine L_op (G_on rfl rfl rfl ?_)
          refine J_pur (p_neq rfl rfl) rfl rfl rfl ?_
          refine L_pur rfl (p_pick_f rfl rfl) ?_
          refine L_pur rfl (p_move rfl) ?_
          refine J_bool (t := 80) (c := false) rfl (by simp) ?_
          refine L_op (G_on rfl rfl rfl ?_)
          refine J_pur (p_fieldAddr rfl fa56_2) rfl rfl rfl ?_
          refine L_op (G_on rfl rfl rfl ?_)
          refine J_val (v_load rfl ty3 HS (by exact rfl)) rfl rfl rfl ?_
          refine L_op (G_on rfl rfl rfl ?_)
          refine J_pur (p_fieldAddr rfl fa107_2) rfl rfl rfl ?_
          refine L_op (G_on rfl rfl rfl ?_)
          refine J_val (v_load rfl ty3 HS (by exact rfl)) rfl rfl rfl ?_
          refine L_op (G_on rfl rfl rfl ?_)
          refine J_pur (p_neq rfl rfl) rfl rfl rfl ?_
          refine L_pur rfl (p_pick_f rfl rfl) ?_
          refine L_pur rfl (p_move rfl) ?_
          refine J_bool (t := 87) (c := false) rfl (by simp) ?_
          refine L_op (G_on rfl rfl rfl ?_)
          refine J_pur (p_fieldAddr rfl fa56_3) rfl rfl rfl ?_
          refine L_op (G_on rfl rfl rfl ?_)
          refine J_val (v_load rfl ty4 HS (by exact rfl)) rfl rfl rfl ?_
          refine L_op (G_on rfl rfl rfl ?_)
          refine J_pur (p_fieldAddr rfl fa107_3) rfl rfl rfl ?_
          refine L_op (G_on rfl rfl rfl ?_)
          refine J_val (v_load rfl ty4 HS (by exact rfl)) rfl rfl rfl ?_
          refine L_op (G_on rfl rfl rfl ?_)
          refine J_pur (p_neb Try.underlying4 rfl rfl) rfl rfl rfl ?_
          refine L_pur rfl (p_pick_f rfl rfl) ?_
          refine L_nil ?_
          refine Q_then ?_
          refine J_bool (t := 93) (c := false) rfl (by simp) ?_
          refine C_false rfl ?_
          refine J_skip ?_
          refine Q_blk_normal ?_
          refine Q_then ?_
          refine J_pure_in (p := out.tail.length ≤ i + 1 ∧ (bif out.isEmpty then inn ++ [rr] else inn).length ≤ i + 1 ∧ (out.tail = [] ∨ (bif out.isEmpty then inn ++ [rr] else inn) = [])) (by cases out with | nil => exact ⟨by simp, by simp; omega, .inl rfl⟩ | cons r rs => have : inn = [] := by { rcases hne with h | h; cases h; exact h }; subst this; exact ⟨by simp at hon ⊢; omega, by simp, .inr rfl⟩) ?_
          exact J_at2 (L := (fun (x : List Msg) (y : List Rcv) => As.pure (x.length ≤ i + 1 ∧ y.length ≤ i + 1 ∧ (x = [] ∨ y = [])) :: epA b4 x y :: reA b5 0 x y :: [old W])) (G := (fun (x : List Msg) (y : List Rcv) => [(6, .int .i64 (i : Int)), (0, .slice (some ⟨bx, ox, none⟩) (ds.map encE).length cap), (3, .bool true), (4, .pointer (some ⟨b4, 0, none⟩)), (5, .pointer (some ⟨b5, 0, none⟩))])) out.tail (bif out.isEmpty then inn ++ [rr] else inn) SU KE
        ·
         refine x_alloc ty56 rfl fun b12 => ?_
         refine I_one (i := 7) SI (by kernel_rfl) rfl ?_
         refine x_call Try.func31 nm31 bd31 (.cons rfl (.cons rfl .nil)) rfl (recv PC (by omega) (by omega) rr) fun _ => ?_
         refine I_take (i := 8) rfl rfl rfl rfl (by kernel_rfl) (fun _ _ _ _ h => h) (fun _ => Pur.vl (p_move rfl)) ?_
         refine I_take (i := 9) rfl rfl rfl rfl (by kernel_rfl) (fun _ _ _ _ h => h) (fun _ => Pur.vl (p_extract rfl rfl)) ?_
         refine I_take (i := 10) rfl rfl rfl rfl (by kernel_rfl) (fun _ _ _ _ h => h) (fun _ => Pur.vl (p_extract rfl rfl)) ?_
         refine I_one (i := 12) SI (by kernel_rfl) rfl ?_
         refine x_store rfl rfl ty56 rfl (by first | rfl | (simp [*]; done)) (by first | rfl | (simp [*]; done)) RO PT ?_
         refine I_take (i := 13) rfl rfl rfl rfl (by kernel_rfl) (fun _ _ _ _ h => h) (fun _ => Pur.vl (p_assign rfl)) ?_
         refine I_done SI (by kernel_rfl) ?_
         refine Q_then ?_
         refine J_seq ?_
         refine J_drawI none [blk b7 36 (encI id), old W] mixed ?_
         refine I_take (i := 0) rfl rfl rfl rfl (by kernel_rfl) (fun _ _ _ _ h => h) (fun _ => v_loadA rfl ty36 HS CT) ?_
         refine I_take (i := 1) rfl rfl rfl rfl (by kernel_rfl) (fun _ _ _ _ h => h) (fun _ => Pur.vl (p_move rfl)) ?_
         refine I_take (i := 2) rfl rfl rfl rfl (by kernel_rfl) (fun _ _ _ _ h => h) (fun _ => Pur.vl (p_move rfl)) ?_
         refine I_take (i := 3) rfl rfl rfl rfl (by kernel_rfl) (fun _ _ _ _ h => h) (fun _ => Pur.vl (p_indexAddr rfl rfl Try.underlying97 ty103 (by omega) (by omega))) ?_
         refine I_take (i := 4) rfl rfl rfl rfl (by kernel_rfl) (fun _ _ _ _ h => h) (fun _ => Pur.vl (p_fieldAddr rfl fa103_2)) ?_
         refine I_take (i := 5) rfl rfl rfl rfl (by kernel_rfl) (fun _ _ _ _ h => h) (fun _ => v_loadRF rfl ty3 (fun w H => hr.old HS H) (by first | (simp only [Int.toNat_natCast, List.getElem?_map, hcc]; rfl) | (simp only [Int.toNat_natCast, List.getElem?_map, hcd]; rfl) | simp | rfl) (by exact rfl)) ?_
         refine I_take (i := 6) rfl rfl rfl rfl (by kernel_rfl) (fun _ _ _ _ h => h) (fun _ => Pur.vl (bld104 (.cons rfl (.cons rfl .nil)) (by repeat constructor))) ?_
         refine J_slot (t := 59) (v := .agg (encR rr).toArray) rfl (by rw [hrr]; rfl) ?_
         refine I_ready (rs := [7, 11]) SI (by kernel_rfl) (by simp) ?_
         refine (I_cons rfl ?_ (I_cons rfl ?_ I_nil))
         ·
          refine x_call Try.func60 nm60 bd60 (.cons rfl (.cons rfl .nil)) rfl (rrecv PC (by omega) (by omega) rr) fun _ => ?_
          refine I_take (i := 8) rfl rfl rfl rfl (by kernel_rfl) (fun _ _ _ _ h => h) (fun _ => Pur.vl (p_move rfl)) ?_
          refine I_take (i := 9) rfl rfl rfl rfl (by kernel_rfl) (fun _ _ _ _ h => h) (fun _ => Pur.vl (p_extract rfl rfl)) ?_
          refine I_take (i := 10) rfl rfl rfl rfl (by kernel_rfl) (fun _ _ _ _ h => h) (fun _ => Pur.vl (p_extract rfl rfl)) ?_
          refine I_one (i := 11) SI (by kernel_rfl) rfl ?_
          refine x_alloc ty107 rfl fun b14 => ?_
          refine I_one (i := 12) SI (by kernel_rfl) rfl ?_
          refine x_store rfl rfl ty107 rfl (by first | rfl | (simp [*]; done)) (by first | rfl | (simp [*]; done)) RO PT ?_
          refine I_take (i := 13) rfl rfl rfl rfl (by kernel_rfl) (fun _ _ _ _ h => h) (fun _ => Pur.vl (p_assign rfl)) ?_
          refine I_done SI (by kernel_rfl) ?_
          refine Q_then ?_
          refine J_seq ?_
          refine J_region ?_
          refine L_pur rfl (p_move rfl) ?_
          refine L_pur rfl (p_move rfl) ?_
          refine L_pur rfl (p_neb Try.underlying4 rfl rfl) ?_
          refine L_pur rfl (p_move rfl) ?_
          refine J_bool (t := 66) (c := false) rfl (by simp) ?_
          refine L_op (G_on rfl rfl rfl ?_)
          refine J_pur (p_fieldAddr rfl fa56_0) rfl rfl rfl ?_
          refine L_op (G_on rfl rfl rfl ?_)
          refine J_val (v_loadA rfl ty36 HS CT) rfl rfl rfl ?_
          refine L_op (G_on rfl rfl rfl ?_)
          refine J_pur (p_fieldAddr rfl fa107_0) rfl rfl rfl ?_
          refine L_op (G_on rfl rfl rfl ?_)
          refine J_val (v_loadA rfl ty36 HS CT) rfl rfl rfl ?_
          refine L_op (G_on rfl rfl rfl ?_)
          refine J_pur (p_nev rfl rfl (fun w => eg36 _ _ _ _ _ w) (fun w => nev36 _ _ _ _ w)) rfl rfl rfl ?_
          refine L_pur rfl (p_pick_f rfl rfl) ?_
          refine L_pur rfl (p_move rfl) ?_
          refine J_bool (t := 73) (c := false) rfl (by simp) ?_
          refine L_op (G_on rfl rfl rfl ?_)
          refine J_pur (p_fieldAddr rfl fa56_1) rfl rfl rfl ?_
          refine L_op (G_on rfl rfl rfl ?_)
          refine J_val (v_load rfl ty37 HS (by exact rfl)) rfl rfl rfl ?_
          refine L_op (G_on rfl rfl rfl ?_)
          refine J_pur (p_fieldAddr rfl fa107_1) rfl rfl rfl ?_
          refine L_op (G_on rfl rfl rfl ?_)
          refine J_val (v_load rfl ty37 HS (by exact rfl)) rfl rfl rfl ?_
          refine L_op (G_on rfl rfl rfl ?_)
          refine J_pur (p_neq rfl rfl) rfl rfl rfl ?_
          refine L_pur rfl (p_pick_f rfl rfl) ?_
          refine L_pur rfl (p_move rfl) ?_
          refine J_bool (t := 80) (c := false) rfl (by simp) ?_
          refine L_op (G_on rfl rfl rfl ?_)
          refine J_pur (p_fieldAddr rfl fa56_2) rfl rfl rfl ?_
          refine L_op (G_on rfl rfl rfl ?_)
          refine J_val (v_load rfl ty3 HS (by exact rfl)) rfl rfl rfl ?_
          refine L_op (G_on rfl rfl rfl ?_)
          refine J_pur (p_fieldAddr rfl fa107_2) rfl rfl rfl ?_
          refine L_op (G_on rfl rfl rfl ?_)
          refine J_val (v_load rfl ty3 HS (by exact rfl)) rfl rfl rfl ?_
          refine L_op (G_on rfl rfl rfl ?_)
          refine J_pur (p_neq rfl rfl) rfl rfl rfl ?_
          refine L_pur rfl (p_pick_f rfl rfl) ?_
          refine L_pur rfl (p_move rfl) ?_
          refine J_bool (t := 87) (c := false) rfl (by simp) ?_
          refine L_op (G_on rfl rfl rfl ?_)
          refine J_pur (p_fieldAddr rfl fa56_3) rfl rfl rfl ?_
          refine L_op (G_on rfl rfl rfl ?_)
          refine J_val (v_load rfl ty4 HS (by exact rfl)) rfl rfl rfl ?_
          refine L_op (G_on rfl rfl rfl ?_)
          refine J_pur (p_fieldAddr rfl fa107_3) rfl rfl rfl ?_
          refine L_op (G_on rfl rfl rfl ?_)
          refine J_val (v_load rfl ty4 HS (by exact rfl)) rfl rfl rfl ?_
          refine L_op (G_on rfl rfl rfl ?_)
          refine J_pur (p_neb Try.underlying4 rfl rfl) rfl rfl rfl ?_
          refine L_pur rfl (p_pick_f rfl rfl) ?_
          refine L_nil ?_
          refine Q_then ?_
          refine J_bool (t := 93) (c := false) rfl (by simp) ?_
          refine C_false rfl ?_
          refine J_skip ?_
          refine Q_blk_normal ?_
          refine Q_then ?_
          refine J_pure_in (p := out.tail.length ≤ i + 1 ∧ (bif out.isEmpty then inn ++ [rr] else inn).length ≤ i + 1 ∧ (out.tail = [] ∨ (bif out.isEmpty then inn ++ [rr] else inn) = [])) (by cases out with | nil => exact ⟨by simp, by simp; omega, .inl rfl⟩ | cons r rs => have : inn = [] := by { rcases hne with h | h; cases h; exact h }; subst this; exact ⟨by simp at hon ⊢; omega, by simp, .inr rfl⟩) ?_
          exact J_at2 (L := (fun (x : List Msg) (y : List Rcv) => As.pure (x.length ≤ i + 1 ∧ y.length ≤ i + 1 ∧ (x = [] ∨ y = [])) :: epA b4 x y :: reA b5 0 x y :: [old W])) (G := (fun (x : List Msg) (y : List Rcv) => [(6, .int .i64 (i : Int)), (0, .slice (some ⟨bx, ox, none⟩) (ds.map encE).length cap), (3, .bool true), (4, .pointer (some ⟨b4, 0, none⟩)), (5, .pointer (some ⟨b5, 0, none⟩))])) out.tail (bif out.isEmpty then inn ++ [rr] else inn) SU KE
         ·
          refine x_alloc ty107 rfl fun b14 => ?_
          refine I_one (i := 7) SI (by kernel_rfl) rfl ?_
          refine x_call Try.func60 nm60 bd60 (.cons rfl (.cons rfl .nil)) rfl (rrecv PC (by omega) (by omega) rr) fun _ => ?_
          refine I_take (i := 8) rfl rfl rfl rfl (by kernel_rfl) (fun _ _ _ _ h => h) (fun _ => Pur.vl (p_move rfl)) ?_
          refine I_take (i := 9) rfl rfl rfl rfl (by kernel_rfl) (fun _ _ _ _ h => h) (fun _ => Pur.vl (p_extract rfl rfl)) ?_
          refine I_take (i := 10) rfl rfl rfl rfl (by kernel_rfl) (fun _ _ _ _ h => h) (fun _ => Pur.vl (p_extract rfl rfl)) ?_
          refine I_one (i := 12) SI (by kernel_rfl) rfl ?_
          refine x_store rfl rfl ty107 rfl (by first | rfl | (simp [*]; done)) (by first | rfl | (simp [*]; done)) RO PT ?_
          refine I_take (i := 13) rfl rfl rfl rfl (by kernel_rfl) (fun _ _ _ _ h => h) (fun _ => Pur.vl (p_assign rfl)) ?_
          refine I_done SI (by kernel_rfl) ?_
          refine Q_then ?_
          refine J_seq ?_
          refine J_region ?_
          refine L_pur rfl (p_move rfl) ?_
          refine L_pur rfl (p_move rfl) ?_
          refine L_pur rfl (p_neb Try.underlying4 rfl rfl) ?_
          refine L_pur rfl (p_move rfl) ?_
          refine J_bool (t := 66) (c := false) rfl (by simp) ?_
          refine L_op (G_on rfl rfl rfl ?_)
          refine J_pur (p_fieldAddr rfl fa56_0) rfl rfl rfl ?_
          refine L_op (G_on rfl rfl rfl ?_)
          refine J_val (v_loadA rfl ty36 HS CT) rfl rfl rfl ?_
          refine L_op (G_on rfl rfl rfl ?_)
          refine J_pur (p_fieldAddr rfl fa107_0) rfl rfl rfl ?_
          refine L_op (G_on rfl rfl rfl ?_)
          refine J_val (v_loadA rfl ty36 HS CT) rfl rfl rfl ?_
          refine L_op (G_on rfl rfl rfl ?_)
          refine J_pur (p_nev rfl rfl (fun w => eg36 _ _ _ _ _ w) (fun w => nev36 _ _ _ _ w)) rfl rfl rfl ?_
          refine L_pur rfl (p_pick_f rfl rfl) ?_
          refine L_pur rfl (p_move rfl) ?_
          refine J_bool (t := 73) (c := false) rfl (by simp) ?_
          refine L_op (G_on rfl rfl rfl ?_)
          refine J_pur (p_fieldAddr rfl fa56_1) rfl rfl rfl ?_
          refine L_op (G_on rfl rfl rfl ?_)
          refine J_val (v_load rfl ty37 HS (by exact rfl)) rfl rfl rfl ?_
          refine L_op (G_on rfl rfl rfl ?_)
          refine J_pur (p_fieldAddr rfl fa107_1) rfl rfl rfl ?_
          refine L_op (G_on rfl rfl rfl ?_)
          refine J_val (v_load rfl ty37 HS (by exact rfl)) rfl rfl rfl ?_
          refine L_op (G_on rfl rfl rfl ?_)
          refine J_pur (p_neq rfl rfl) rfl rfl rfl ?_
          refine L_pur rfl (p_pick_f rfl rfl) ?_
          refine L_pur rfl (p_move rfl) ?_
          refine J_bool (t := 80) (c := false) rfl (by simp) ?_
          refine L_op (G_on rfl rfl rfl ?_)
          refine J_pur (p_fieldAddr rfl fa56_2) rfl rfl rfl ?_
          refine L_op (G_on rfl rfl rfl ?_)
          refine J_val (v_load rfl ty3 HS (by exact rfl)) rfl rfl rfl ?_
          refine L_op (G_on rfl rfl rfl ?_)
          refine J_pur (p_fieldAddr rfl fa107_2) rfl rfl rfl ?_
          refine L_op (G_on rfl rfl rfl ?_)
          refine J_val (v_load rfl ty3 HS (by exact rfl)) rfl rfl rfl ?_
          refine L_op (G_on rfl rfl rfl ?_)
          refine J_pur (p_neq rfl rfl) rfl rfl rfl ?_
          refine L_pur rfl (p_pick_f rfl rfl) ?_
          refine L_pur rfl (p_move rfl) ?_
          refine J_bool (t := 87) (c := false) rfl (by simp) ?_
          refine L_op (G_on rfl rfl rfl ?_)
          refine J_pur (p_fieldAddr rfl fa56_3) rfl rfl rfl ?_
          refine L_op (G_on rfl rfl rfl ?_)
          refine J_val (v_load rfl ty4 HS (by exact rfl)) rfl rfl rfl ?_
          refine L_op (G_on rfl rfl rfl ?_)
          refine J_pur (p_fieldAddr rfl fa107_3) rfl rfl rfl ?_
          refine L_op (G_on rfl rfl rfl ?_)
          refine J_val (v_load rfl ty4 HS (by exact rfl)) rfl rfl rfl ?_
          refine L_op (G_on rfl rfl rfl ?_)
          refine J_pur (p_neb Try.underlying4 rfl rfl) rfl rfl rfl ?_
          refine L_pur rfl (p_pick_f rfl rfl) ?_
          refine L_nil ?_
          refine Q_then ?_
          refine J_bool (t := 93) (c := false) rfl (by simp) ?_
          refine C_false rfl ?_
          refine J_skip ?_
          refine Q_blk_normal ?_
          refine Q_then ?_
          refine J_pure_in (p := out.tail.length ≤ i + 1 ∧ (bif out.isEmpty then inn ++ [rr] else inn).length ≤ i + 1 ∧ (out.tail = [] ∨ (bif out.isEmpty then inn ++ [rr] else inn) = [])) (by cases out with | nil => exact ⟨by simp, by simp; omega, .inl rfl⟩ | cons r rs => have : inn = [] := by { rcases hne with h | h; cases h; exact h }; subst this; exact ⟨by simp at hon ⊢; omega, by simp, .inr rfl⟩) ?_
          exact J_at2 (L := (fun (x : List Msg) (y : List Rcv) => As.pure (x.length ≤ i + 1 ∧ y.length ≤ i + 1 ∧ (x = [] ∨ y = [])) :: epA b4 x y :: reA b5 0 x y :: [old W])) (G := (fun (x : List Msg) (y : List Rcv) => [(6, .int .i64 (i : Int)), (0, .slice (some ⟨bx, ox, none⟩) (ds.map encE).length cap), (3, .bool true), (4, .pointer (some ⟨b4, 0, none⟩)), (5, .pointer (some ⟨b5, 0, none⟩))])) out.tail (bif out.isEmpty then inn ++ [rr] else inn) SU KE
   ·
    intro x y
    refine J_pure fun ⟨hx, hy, hxy⟩ => ?_
    refine J_seq ?_
    refine J_region ?_
    refine L_op (x_call Try.func61 nm61 bd61 (.cons rfl (.cons rfl .nil)) rfl (same14 (out := x) (inn := y) PC PC (by omega) (by omega)) fun _ => ?_)
    refine L_pur rfl (p_not rfl) ?_
    refine L_pur rfl (p_move rfl) ?_
    refine J_bool (t := 168) (c := false) rfl (by simp) ?_
    refine L_op (G_on rfl rfl rfl ?_)
    refine x_call Try.func32 nm32 bd32 (.cons rfl .nil) rfl (senders PC (by omega) (by omega)) fun v169 => ?_
    refine J_row .here fun hw169 a169 c169 hv169 hl169 hm169 hz169 => ?_
    subst hv169
    refine L_op (G_on rfl rfl rfl ?_)
    refine J_pur (p_len rfl Try.underlying47) rfl rfl rfl ?_
    refine L_op (G_on rfl rfl rfl ?_)
    refine J_pur (p_gtr rfl rfl) rfl rfl rfl ?_
    refine L_op (G_on rfl rfl rfl ?_)
    refine J_pur (p_move rfl) rfl rfl rfl ?_
    refine J_gsplit (t := 172) rfl (fun h172 => ?_) (fun h172 => ?_)
    ·
     refine L_op (G_on rfl rfl rfl ?_)
     refine x_call Try.func33 nm33 bd33 (.cons rfl .nil) rfl (receivers PC (by omega) (by omega)) fun v173 => ?_
     refine J_row .here fun hw173 a173 c173 hv173 hl173 hm173 hz173 => ?_
     subst hv173
     refine L_op (G_on rfl rfl rfl ?_)
     refine J_pur (p_len rfl Try.underlying48) rfl rfl rfl ?_
     refine L_op (G_on rfl rfl rfl ?_)
     refine J_pur (p_gtr rfl rfl) rfl rfl rfl ?_
     refine L_op (G_on rfl rfl rfl ?_)
     refine J_pur (p_pick_t rfl rfl) rfl rfl rfl ?_
     refine L_pur rfl (p_pick_f rfl rfl) ?_
     refine L_nil ?_
     refine Q_then ?_
     refine J_bool (t := 177) (c := false) rfl (by first | rfl | (rcases hxy with h | h <;> simp [h] at h172 ⊢)) ?_
     refine C_false rfl ?_
     refine J_skip ?_
     refine Q_blk_normal ?_
     refine Q_then ?_
     refine J_region ?_
     refine L_pur rfl (p_move rfl) ?_
     refine L_pur rfl (p_add64 rfl rfl (by omega)) ?_
     refine L_pur rfl (p_assign rfl) ?_
     refine L_nil ?_
     refine Q_then ?_
     exact J_again3 (i + 1) x y (by omega) (⟨by omega, hx, hy, hxy⟩) SU KE
    ·
     refine L_op (G_off rfl rfl rfl rfl rfl rfl ?_)
     refine L_op (G_off rfl rfl rfl rfl rfl rfl ?_)
     refine L_op (G_off rfl rfl rfl rfl rfl rfl ?_)
     refine L_op (G_on rfl rfl rfl ?_)
     refine J_pur (p_pick_f rfl rfl) rfl rfl rfl ?_
     refine L_pur rfl (p_pick_f rfl rfl) ?_
     refine L_nil ?_
     refine Q_then ?_
     refine C_false rfl ?_
     refine J_skip ?_
     refine Q_blk_normal ?_
     refine Q_then ?_
     refine J_region ?_
     refine L_pur rfl (p_move rfl) ?_
     refine L_pur rfl (p_add64 rfl rfl (by omega)) ?_
     refine L_pur rfl (p_assign rfl) ?_
     refine L_nil ?_
     refine Q_then ?_
     exact J_again3 (i + 1) x y (by omega) (⟨by omega, hx, hy, hxy⟩) SU KE
  ·
   refine J_exit ?_
   refine Q_then_exit ?_
   refine Q_then_exit ?_
   refine Q_blk_this ?_
   refine Q_then ?_
   refine J_seq ?_
   refine J_region ?_
   refine L_pur rfl (p_move rfl) ?_
   refine L_pur rfl (p_assign rfl) ?_
   refine L_nil ?_
   refine Q_then ?_
   refine J_ret ?_
   exact J_return (()) Try.results12 (.tmp rfl .nil) rfl SU

theorem dec_E {x : List Value} (h0 : Shape [.int .i64, .int .i64, .int .i64, .bool] x) : ∃ d : DoE, x = encE d ∧ True := by
  obtain ⟨_, _, rfl, ⟨a0, rfl, _⟩, h1⟩ := h0.cons_inv
  obtain ⟨_, _, rfl, ⟨a1, rfl, _⟩, h2⟩ := h1.cons_inv
  obtain ⟨_, _, rfl, ⟨a2, rfl, _⟩, h3⟩ := h2.cons_inv
  obtain ⟨_, _, rfl, ⟨a3, rfl⟩, h4⟩ := h3.cons_inv
  rw [h4.nil_inv]; exact ⟨(a0, a1, a2, a3), rfl, trivial⟩

end Go.Pse
