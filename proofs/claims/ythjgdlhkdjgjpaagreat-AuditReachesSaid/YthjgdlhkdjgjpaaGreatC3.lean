/-
  Who may run, a new ring, new memory: contracts.
-/
import Derived.Test.YthjgdlhkdjgjpaaGreatC2
namespace Go.Pse
open Go.RowKit Go.Proofs

set_option maxRecDepth 100000 in
set_option maxHeartbeats 4000000 in
theorem qAddC {E : World} {l m : List As} {b o : Nat} {q : List ID} (hp : Pick (rqA b o q) l m) (hb : q.length ≤ 100000) {i p : Int} :
    Con Tryz.prog 44 #[.pointer (some ⟨b, o, none⟩), .int .i64 i, .int .i64 p] E l (fun _ : Unit => .bool (qAddOk q i p)) (fun _ => rqA b o (qAdd q i p) :: m) := by
  refine Con.body (vs := [.pointer (some ⟨b, o, none⟩), .int .i64 i, .int .i64 p]) (n := 28) Tryz.func44 rfl rfl [(0, .pointer (some ⟨b, o, none⟩)), (1, .int .i64 i), (2, .int .i64 p)] (env_ok 3 rfl) <| J_pick hp <| sr <| ag rfl rfl <| nxx <| mv rfl rfl <| mv rfl rfl <| L_op <| x_call Tryz.func68 nm68 bd68 (.cons rfl (.cons rfl .nil)) rfl (qAtC (q := q) PC) fun _ => ?_
  refine L_pur rfl (p_geq rfl rfl) <| mv rfl rfl <| J_slot (t := 11) (v := .bool (qHas q i)) rfl (by rcases qAt_cases q i with ⟨g1, g2, _⟩ | ⟨k, g1, _, g2, _⟩ <;> rw [g1, g2] <;> simp) ?_
  refine J_gsplit (t := 11) rfl (fun h11 => ?_) (fun h11 => ?_)
  ·
    refine L_op <| G_off rfl rfl rfl rfl rfl rfl <| L_op <| G_off rfl rfl rfl rfl rfl rfl <| L_op <| G_off rfl rfl rfl rfl rfl rfl <| L_pur rfl (p_pick_t rfl rfl) <| nq ?_
    refine C_true rfl <| sr <| ag rfl rfl <| nq <| J_ret <| Q_then_ret <| J_pick (A := rqA b o _) PC ?_
    refine J_asTo (B := rqA b o (qAdd q i p)) (by simp_all [qAdd, qAddOk]) ?_
    refine J_return (()) Tryz.results44 (.tmp rfl .nil) ?_ ?_
    · first | rfl | (simp_all [one, qAddOk]; done) | (simp_all [one, qAddOk] <;> omega) | (simp_all [one, qAddOk] <;> grind)
    · exact SU
  ·
    refine L_op <| G_on rfl rfl rfl <| J_pur (p_move rfl) rfl rfl rfl <| L_op <| G_on rfl rfl rfl <| x_call Tryz.func69 nm69 bd69 (.cons rfl .nil) rfl (qRight) fun _ => L_op <| G_on rfl rfl rfl ?_
    refine J_pur (p_not rfl) rfl rfl rfl <| L_pur rfl (p_pick_f rfl rfl) <| nq ?_
    refine C_split rfl (fun h15 => ?_) (fun h15 => ?_)
    ·
      refine sr <| ag rfl rfl <| nq <| J_ret <| Q_then_ret <| J_pick (A := rqA b o _) PC ?_
      refine J_asTo (B := rqA b o (qAdd q i p)) (by simp_all [qAdd, qAddOk]) ?_
      refine J_return (()) Tryz.results44 (.tmp rfl .nil) ?_ ?_
      · first | rfl | (simp_all [one, qAddOk]; done) | (simp_all [one, qAddOk] <;> omega) | (simp_all [one, qAddOk] <;> grind)
      · exact SU
    ·
      refine J_pick (A := rqA b o q) PC ?_
      refine J_rqO fun v _ => J_skip <| qx <| mv rfl rfl <| mv rfl rfl <| nc rfl rfl <| fa rfl rfl fa80_0 <| L_val rfl (v_loadL rfl ty78 HS rfl (by exact rfl)) ?_
      refine mv rfl rfl <| mv rfl rfl <| L_pur rfl (bld190 (.cons rfl (.cons rfl .nil)) (by repeat constructor)) <| L_op <| x_lit (vals := [_]) Tryz.underlying78 ty190 rfl (.cons rfl .nil) (.agg .nil) (Wf.cons rfl rfl Wf.nil) rfl (by decide) rfl rfl <| JR fun a24 c24 hw24 hl24 hm24 hz24 => L_op <| x_app rfl rfl Tryz.underlying78 ty190 rfl rfl PC (fun w H => sep_reads HS H) (by simp; omega) (by simp; omega) rfl ?_
      refine JE ((q ++ [(i, p)]).map encI) (by simp [encI]) fun a25 c25 hw25 hl25 hm25 hz25 => nc rfl rfl <| fa rfl rfl fa80_0 <| L_op <| x_storeL rfl rfl ty78 rfl SM SM rfl RO rfl PT ?_
      refine nx <| ag rfl rfl <| nq <| J_ret <| J_rqS (b := b) (o := o) (xs := q ++ [(i, p)]) _ PX trivial ?_
      refine J_pick (A := rqA b o _) PC ?_
      refine J_asTo (B := rqA b o (qAdd q i p)) (by simp_all [qAdd, qAddOk]) ?_
      refine J_return (()) Tryz.results44 (.tmp rfl .nil) ?_ ?_
      · first | rfl | (simp_all [one, qAddOk]; done) | (simp_all [one, qAddOk] <;> omega) | (simp_all [one, qAddOk] <;> grind)
      · exact SU

def rgNew (sq cq sb cb : Int) : Rg := ⟨sq, cq, cutI sb 0 3, cutI cb 0 4, 0, 0, []⟩
set_option maxRecDepth 100000 in
set_option maxHeartbeats 4000000 in
theorem ringNew {E : World} {l : List As} {mb : Nat} {sq cq sb cb : Int} :
    Con Tryz.prog 43 #[.pointer (some ⟨mb, 0, none⟩), .int .i64 sq, .int .i64 cq, .int .i64 sb, .int .i64 cb] E l (fun b : Nat => .pointer (some ⟨b, 0, none⟩)) (fun b => rgA b mb (rgNew sq cq sb cb) :: l) := by
  refine Con.body (vs := [.pointer (some ⟨mb, 0, none⟩), .int .i64 sq, .int .i64 cq, .int .i64 sb, .int .i64 cb]) (n := 22) Tryz.func43 rfl rfl [(0, .pointer (some ⟨mb, 0, none⟩)), (1, .int .i64 sq), (2, .int .i64 cq), (3, .int .i64 sb), (4, .int .i64 cb)] (env_ok 5 rfl) <| sr <| ag rfl rfl <| nx <| mv rfl rfl <| mv rfl rfl <| mv rfl rfl <| mv rfl rfl ?_
  refine L_pur rfl (p_max rfl rfl) <| L_pur rfl (p_min rfl rfl) <| mv rfl rfl <| L_pur rfl (p_max rfl rfl) <| L_pur rfl (p_min rfl rfl) <| L_pur rfl (bld167 (.cons rfl (.cons rfl (.cons rfl (.cons rfl (.cons rfl .nil))))) (by repeat constructor)) <| L_op <| x_box rfl rfl rfl fun b21 => ?_
  refine ag rfl rfl <| nq <| J_ret <| J_nil (el := 165) (sz := 4) <| J_rgS (b := b21) (mb := mb) (r := rgNew sq cq sb cb) (.slice none 0 0) (.cons (.there .here) (.cons .here .nil)) trivial ?_
  refine J_return (b21) Tryz.results43 (.tmp rfl .nil) ?_ ?_
  · rfl
  · exact SU

def zrow : List Int := List.replicate 512 0
theorem memF_push {v : Value} : memF (v, zrow) = row 5 1 v (List.replicate 512 [.int .u8 0]) := by unfold memF zrow; rw [List.map_replicate]; rfl
theorem cut64 : ((64 : Nat) : Int) = 64 := rfl
set_option maxRecDepth 100000 in
set_option maxHeartbeats 4000000 in
theorem memNew {E : World} {l : List As} :
    Con Tryz.prog 21 #[.int .i64 64] E l (fun b : Nat => .pointer (some ⟨b, 0, none⟩)) (fun b => memA b (List.replicate 64 zrow) :: l) := by
  refine Con.body (vs := [.int .i64 64]) (n := 23) Tryz.func21 rfl rfl [(0, .int .i64 64)] (env_ok 1 rfl) <| sr <| ag rfl rfl <| nx <| L_pur rfl (bld141 .nil (by repeat constructor)) <| L_op <| x_box rfl rfl rfl fun b5 => J_nil (el := 142) (sz := 1) ?_
  refine J_eachNil memF <| J_memS (b := b5) (ms := []) (.slice none 0 0) [] (.cons (.there (.there .here)) (.cons (.there .here) (.cons .here .nil))) rfl <| ag rfl rfl <| nxx <| mv rfl rfl <| L_pur rfl (p_max rfl rfl) <| L_pur rfl (p_min rfl rfl) <| J_slot (t := 8) (v := .int .i64 64) rfl rfl ?_
  refine mv rfl rfl <| nq <| J_block <| J_loop (α := Nat) (fun i => i ≤ 64) (fun i => memA b5 (List.replicate i zrow) :: l) (fun i => [(9, .int .i64 (i : Int)), (8, .int .i64 64), (3, .pointer (some ⟨b5, 0, none⟩))]) (fun i => 64 - i) 0 (by omega) SU KE ?_
  intro i hi
  refine sr <| L_pur rfl (p_lss rfl rfl) <| nq <| J_seq ?_
  refine C_dec rfl (fun h10 => ?_) (fun h10 => ?_)
  ·
    refine J_pick (A := memA b5 _) PC ?_
    refine J_memO fun v xs hxs => ?_
    have hxl : xs.length = i := by have := congrArg List.length hxs; simpa using this
    refine J_row (.there .here) fun hwv av cv hvv h1v h2v h3v => ?_
    subst hvv
    have hml : (xs.map fun x : Value × List Int => [x.1]).length = xs.length := List.length_map _
    refine J_skip <| Q_then <| J_seq <| J_block <| J_drawL (some 7) mixed <| ip 0 rfl rfl rfl rfl (p_move rfl) <| ip 1 rfl rfl rfl rfl (p_move rfl) <| ip 2 rfl rfl rfl rfl (p_nilCheck rfl) ?_
    refine ip 3 rfl rfl rfl rfl (p_fieldAddr rfl fa141_0) <| iv 4 rfl rfl rfl rfl (fun _ => v_load rfl ty139 HS (by exact rfl)) ?_
    refine i1 5 rfl <| x_make (len := 512) rfl rfl Tryz.underlying142 ty5 rfl rfl (by simp) (by simp) rfl rfl <| JE (List.replicate 512 [.int .u8 0]) (by rfl) fun a16 c16 hw16 hl16 hm16 hz16 => i1 6 rfl <| x_lit (vals := [_]) Tryz.underlying139 ty142 rfl (.cons rfl .nil) (.one rfl .nil) (Wf.cons rfl rfl Wf.nil) rfl (by decide) rfl rfl <| JE ([[.slice a16 512 c16]]) (by rfl) fun a17 c17 hw17 hl17 hm17 hz17 => i1 7 rfl <| x_app rfl rfl Tryz.underlying139 ty142 rfl rfl PC (fun w H => sep_reads HS H) (by simp; omega) (by simp; omega) rfl ?_
    refine JE ((xs ++ [(Value.slice a16 512 c16, zrow)]).map fun x : Value × List Int => [x.1]) (by simp) fun a18 c18 hw18 hl18 hm18 hz18 => ip 8 rfl rfl rfl rfl (p_nilCheck rfl) <| ip 9 rfl rfl rfl rfl (p_fieldAddr rfl fa141_0) <| i1 10 rfl <| x_store rfl rfl ty139 rfl SM SM RO PT ?_
    refine J_pick (A := each memF xs) PC ?_
    refine J_pick (A := row 5 1 (.slice a16 _ c16) _) PC ?_
    refine J_asTo (B := memF (Value.slice a16 512 c16, zrow)) (by rw [memF_push, List.length_replicate]) <| J_pick (A := each memF xs) PC ?_
    refine J_pick (A := memF (Value.slice a16 512 c16, zrow)) PC ?_
    refine J_eachPush <| J_memS (b := b5) (ms := List.replicate (i + 1) zrow) _ (xs ++ [(Value.slice a16 512 c16, zrow)]) PX (by show List.map Prod.snd (xs ++ [_]) = _; rw [List.map_append, hxs, List.replicate_succ']; rfl) ?_
    refine i0 <| Q_blk_normal <| qr <| L_pur rfl (p_add64 rfl rfl (by omega)) <| mv rfl rfl <| nq ?_
    exact J_again (i + 1) (by omega) (by omega) SU KE
  ·
    have hi64 : i = 64 := by omega
    subst hi64
    refine J_exit <| Q_then_exit <| Q_then_exit <| Q_blk_this <| qx <| mv rfl rfl <| ag rfl rfl <| nq ?_
    refine J_ret ?_
    refine J_return (b5) Tryz.results21 (.tmp rfl .nil) ?_ ?_
    · rfl
    · exact SU

end Go.Pse
