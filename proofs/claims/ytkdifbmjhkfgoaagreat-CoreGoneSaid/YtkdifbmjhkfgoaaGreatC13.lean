/-
  Who may run first; numbers, one by one; how it begins.
-/
import Derived.Test.YtkdifbmjhkfgoaaGreatC12
namespace Go.Pse
open Go.RowKit Go.Proofs

def qMost (q : List (Int × Int)) : Int := q.foldl (fun m c => if c.2 > m then c.2 else m) (-1)
theorem qMost_take {q : List (Int × Int)} {i : Nat} {c : Int × Int} (h : q[i]? = some c) : qMost (q.take (i + 1)) = if c.2 > qMost (q.take i) then c.2 else qMost (q.take i) := by
  unfold qMost
  rw [List.take_add_one, h, Option.toList_some, List.foldl_append]; rfl
def qSel (q : List (Int × Int)) (c : Int × Int) : Bool := decide (c.2 = qMost q)
def qReady (q : List (Int × Int)) : List Int := (q.filter (qSel q)).map Prod.fst
set_option maxRecDepth 100000 in
set_option maxHeartbeats 4000000 in
theorem qReadyC {E : World} {l m : List As} {b o : Nat} {q : List ID} (hp : Pick (rqA b o q) l m) (hb : q.length ≤ 100000) :
  Con Tryz.prog 14 #[.pointer (some ⟨b, o, none⟩)] E l (fun v : Value => v) (fun v => row 3 1 v ((qReady q).map encN) :: rqA b o q :: m) := by
 refine Con.body (vs := [.pointer (some ⟨b, o, none⟩)]) (n := 43) Tryz.func14 rfl rfl [(0, .pointer (some ⟨b, o, none⟩))] (env_ok 1 rfl) <| J_pick hp <| J_rqO fun v _ => J_row (.there .here) fun hw a cap hv h1 h2 h3 => ?_
 subst hv
 have hm : cap ≤ 9223372036854775807 := h2
 have hml : (q.map encI).length = q.length := List.length_map _
 refine sr <| ag rfl rfl <| nx <| ag rfl rfl <| nxx <| mv rfl rfl <| nc rfl rfl <| fa rfl rfl fa152_0 ?_
 refine L_val rfl (v_loadL rfl ty150 HS rfl (by exact rfl)) ?_
 refine L_pur rfl (p_len rfl Tryz.underlying150) <| mv rfl rfl <| nq <| J_block <| J_loop (α := Nat) (fun i => i ≤ q.length) (fun i => fld b o [.slice a (q.map encI).length cap] :: row 187 2 (.slice a (q.map encI).length cap) (q.map encI) :: m) (fun i => [(14, .int .i64 (i : Int)), (3, .int .i64 (qMost (q.take i))), (12, .slice a (q.map encI).length cap), (13, .int .i64 ((q.map encI).length : Int)), (0, .pointer (some ⟨b, o, none⟩))]) (fun i => q.length - i) 0 (by omega) SU KE ?_
 intro i hi
 refine sr <| L_pur rfl (p_lss rfl rfl) <| nq <| J_seq ?_
 refine C_dec rfl (fun h15 => ?_) (fun h15 => ?_)
 ·
  have hlt : i < q.length := by omega
  obtain ⟨bx, ox, rfl⟩ := h3 (by intro h; rw [h] at hml; simp at hml; omega)
  obtain ⟨c, hcc⟩ : ∃ c, q[i]? = some c := ⟨_, List.getElem?_eq_getElem hlt⟩
  refine J_skip <| Q_then <| J_seq <| J_block <| sr <| L_pur rfl (p_indexAddr rfl rfl Tryz.underlying150 ty187 (by omega) (by omega)) ?_
  refine L_val rfl (v_loadE rfl ty187 HS (by first | (simp only [Int.toNat_natCast, List.getElem?_map, hcc]; rfl) | (simp only [Int.toNat_natCast, List.getElem?_map, hcd]; rfl) | simp | rfl)) ?_
  refine L_op <| x_alloc ty187 rfl fun b5 => L_op <| x_store rfl rfl ty187 rfl SM SM RO PT ?_
  refine ny <| mv rfl rfl <| fa rfl rfl fa187_1 <| L_val rfl (v_load rfl ty3 HS (by exact rfl)) ?_
  refine L_pur rfl (p_max rfl rfl) <| J_slot (t := 21) (v := .int .i64 (qMost (q.take (i + 1)))) rfl (by rw [qMost_take hcc]) <| ag rfl rfl <| L_nil <| Q_blk_normal <| qr <| L_pur rfl (p_add64 rfl rfl (by omega)) <| mv rfl rfl ?_
  refine nq ?_
  exact J_again (i + 1) (by omega) (by omega) SU KE
 ·
  have hiq : i = q.length := by omega
  subst hiq
  refine J_slot (t := 3) (v := .int .i64 (qMost q)) rfl (by rw [List.take_length]) <| J_exit <| Q_then_exit <| Q_then_exit <| Q_blk_this <| qx <| ag rfl rfl <| J_nil (el := 3) (sz := 1) ?_
  refine nxx <| mv rfl rfl <| nc rfl rfl <| fa rfl rfl fa152_0 <| L_val rfl (v_loadL rfl ty150 HS rfl (by exact rfl)) ?_
  refine L_pur rfl (p_len rfl Tryz.underlying150) <| mv rfl rfl <| nq <| J_block <| J_loop2 (fun k v => k ≤ q.length) (fun k v => row 3 1 v ((((q.take k).filter (qSel q)).map Prod.fst).map encN) :: fld b o [.slice a (q.map encI).length cap] :: row 187 2 (.slice a (q.map encI).length cap) (q.map encI) :: m) (fun k v => [(28, .int .i64 (k : Int)), (6, v), (3, .int .i64 (qMost q)), (26, .slice a (q.map encI).length cap), (27, .int .i64 ((q.map encI).length : Int)), (0, .pointer (some ⟨b, o, none⟩))]) (fun k v => q.length - k) 0 _ (by omega) SU KE ?_
  intro k v hk
  refine sr <| L_pur rfl (p_lss rfl rfl) <| nq <| J_seq ?_
  refine C_dec rfl (fun h29 => ?_) (fun h29 => ?_)
  ·
   have hlt : k < q.length := by omega
   obtain ⟨bx, ox, rfl⟩ := h3 (by intro h; rw [h] at hml; simp at hml; omega)
   obtain ⟨c, hcc⟩ : ∃ c, q[k]? = some c := ⟨_, List.getElem?_eq_getElem hlt⟩
   refine J_skip <| Q_then <| J_seq <| J_block <| sr <| L_pur rfl (p_indexAddr rfl rfl Tryz.underlying150 ty187 (by omega) (by omega)) ?_
   refine L_val rfl (v_loadE rfl ty187 HS (by first | (simp only [Int.toNat_natCast, List.getElem?_map, hcc]; rfl) | (simp only [Int.toNat_natCast, List.getElem?_map, hcd]; rfl) | simp | rfl)) ?_
   refine L_op <| x_alloc ty187 rfl fun b8 => L_op <| x_store rfl rfl ty187 rfl SM SM RO PT ?_
   refine nx <| fa rfl rfl fa187_1 <| L_val rfl (v_load rfl ty3 HS (by exact rfl)) ?_
   refine mv rfl rfl <| L_pur rfl (p_eql rfl rfl) <| nq ?_
   refine C_dec rfl (fun h35 => ?_) (fun h35 => ?_)
   ·
    refine J_region <| mv rfl rfl <| fa rfl rfl fa187_0 <| L_val rfl (v_load rfl ty3 HS (by exact rfl)) ?_
    refine L_op <| x_lit (vals := [_]) Tryz.underlying22 ty3 rfl (.cons rfl .nil) (.one rfl .nil) (Wf.cons rfl rfl Wf.nil) rfl (by decide) rfl rfl <| JR fun a39 c39 hw39 hl39 hm39 hz39 => L_op <| x_app rfl rfl Tryz.underlying22 ty3 rfl rfl PC (fun w H => sep_reads HS H) (by have := List.length_filter_le (qSel q) (q.take k); rw [List.length_take] at this; simp only [List.length_map, List.length_cons, List.length_nil]; omega) (by have := List.length_filter_le (qSel q) (q.take k); rw [List.length_take] at this; simp only [List.length_map, List.length_cons, List.length_nil]; omega) rfl <| JE (((((q.take (k + 1)).filter (qSel q)).map Prod.fst).map encN)) (by rw [List.take_add_one, hcc]; simp [h35, encN, qSel]) fun a40 c40 hw40 hl40 hm40 hz40 => ag rfl rfl <| J_nil (el := 3) (sz := 1) ?_
    refine L_nil <| Q_blk_normal <| qr <| L_pur rfl (p_add64 rfl rfl (by omega)) <| mv rfl rfl <| nq ?_
    
    exact J_again2 (k + 1) _ (by omega) (by omega) SU KE
   ·
    refine J_skip <| Q_blk_normal <| qr <| L_pur rfl (p_add64 rfl rfl (by omega)) <| mv rfl rfl <| nq <| J_pick (A := row 3 1 _ _) PC ?_
    refine J_rowEq (ys := ((((q.take (k + 1)).filter (qSel q)).map Prod.fst).map encN)) (by rw [List.take_add_one, hcc]; simp [h35, qSel]) ?_
    exact J_again2 (k + 1) _ (by omega) (by omega) SU KE
  ·
   have hkq : k = q.length := by omega
   subst hkq
   refine J_pick (A := row 3 1 v ((((q.take q.length).filter (qSel q)).map Prod.fst).map encN)) PC ?_
   refine J_rowEq (ys := (qReady q).map encN) (by rw [List.take_length]; rfl) <| J_exit <| Q_then_exit <| Q_then_exit <| Q_blk_this <| qx <| mv rfl rfl <| ag rfl rfl ?_
   refine nq <| J_ret <| J_rqS (b := b) (o := o) (xs := q) _ PX trivial ?_
   exact J_return (_) Tryz.results14 (.tmp rfl .nil) rfl SU

def seqAt (zs : List Int) (k : Nat) : Int := (zs[k]?).getD 0
abbrev encZ (z : Int) : List Value := [.int .i64 z]
set_option maxRecDepth 100000 in
set_option maxHeartbeats 4000000 in
theorem seqNext {E : World} {l m : List As} {v : Value} {zs : List Int} {bq at_ : Nat} {b : Int} (hp : Pick (blk bq 29 [v, .int .i64 (at_ : Int)]) l m) (hr : ∀ w, Sep E w m → Reads w 1 v (zs.map encZ)) (hb : 0 < b ∧ b ≤ 1000000) (ha : at_ ≤ 1000000) (hz : zs.length ≤ 1000000) :
    Con Tryz.prog 52 #[.pointer (some ⟨bq, 0, none⟩), .int .i64 b] E l (fun _ : Unit => .int .i64 ((num (seqAt zs at_) b : Nat) : Int)) (fun _ => blk bq 29 [v, .int .i64 ((at_ + 1 : Nat) : Int)] :: m) := by
  refine Con.body (vs := [.pointer (some ⟨bq, 0, none⟩), .int .i64 b]) (n := 37) Tryz.func52 rfl rfl [(0, .pointer (some ⟨bq, 0, none⟩)), (1, .int .i64 b)] (env_ok 2 rfl) <| J_pick hp <| J_readsB (fun w H => hr w (Sub.sep (.drop .refl) H)) fun hw a cap hv h1 h2 h3 => ?_
  subst hv
  have hm : cap ≤ 9223372036854775807 := h2
  have hml : (zs.map encZ).length = zs.length := List.length_map _
  refine sr <| ag rfl rfl <| nx <| ag rfl rfl <| nq <| J_seq <| J_seq <| J_drawS mixed (by kernel_rfl) ?_
  refine sm rfl rfl <| sp rfl (p_nilCheck rfl) <| sp rfl (p_fieldAddr rfl fa29_1) <| S_val rfl (v_load rfl ty3 HS (by exact rfl)) ?_
  refine sm rfl rfl <| sp rfl (p_nilCheck rfl) <| sp rfl (p_fieldAddr rfl fa29_0) <| S_val rfl (v_load rfl ty22 HS (by exact rfl)) ?_
  refine sp rfl (p_len rfl Tryz.underlying22) <| sp rfl (p_lss rfl rfl) <| sq ?_
  refine C_dec rfl (fun h15 => ?_) (fun h15 => ?_)
  ·
    have hlt : at_ < zs.length := by omega
    obtain ⟨bx, ox, rfl⟩ := h3 (by intro h; rw [h] at hml; simp at hml; omega)
    obtain ⟨c, hcc⟩ : ∃ c, zs[at_]? = some c := ⟨_, List.getElem?_eq_getElem hlt⟩
    refine J_drawS mixed (by kernel_rfl) <| sm rfl rfl <| sp rfl (p_nilCheck rfl) <| sp rfl (p_fieldAddr rfl fa29_0) <| S_val rfl (v_load rfl ty22 HS (by exact rfl)) ?_
    refine sm rfl rfl <| sp rfl (p_nilCheck rfl) <| sp rfl (p_fieldAddr rfl fa29_1) <| S_val rfl (v_load rfl ty3 HS (by exact rfl)) ?_
    refine sp rfl (p_indexAddr rfl rfl Tryz.underlying22 ty3 (by omega) (by omega)) ?_
    refine S_val rfl (by first | exact v_loadE1 rfl ty3 HS (by first | (simp only [Int.toNat_natCast, List.getElem?_map, hcc]; rfl) | (simp only [Int.toNat_natCast, List.getElem?_map, hcd]; rfl) | simp | rfl) | exact v_loadR1 rfl ty3 (fun w H => hr w (Sub.sep (.drop .refl) H)) (by first | (simp only [Int.toNat_natCast, List.getElem?_map, hcc]; rfl) | (simp only [Int.toNat_natCast, List.getElem?_map, hcd]; rfl) | simp | rfl)) ?_
    refine J_slot (t := 25) (v := .int .i64 (seqAt zs at_)) rfl (by unfold seqAt; rw [hcc]; rfl) <| sp rfl (p_assign rfl) <| sq <| sr <| mv rfl rfl <| mv rfl rfl <| nc rfl rfl <| fa rfl rfl fa29_1 ?_
    refine L_val rfl (v_load rfl ty3 HS (by exact rfl)) ?_
    refine L_pur rfl (p_add64 rfl rfl (by omega)) <| J_slot (t := 31) (v := .int .i64 ((at_ + 1 : Nat) : Int)) rfl (by simp) <| nc rfl rfl <| fa rfl rfl fa29_1 <| L_op <| x_store rfl rfl ty3 rfl SM SM RO PT ?_
    refine nx <| mv rfl rfl <| mv rfl rfl <| L_op <| x_call Tryz.func25 nm25 bd25 (.cons rfl (.cons rfl .nil)) rfl (number (by omega) (by omega)) fun _ => ag rfl rfl <| nq <| J_ret ?_
    refine J_return (()) Tryz.results52 (.tmp rfl .nil) ?_ ?_
    · rfl
    · exact SU
  ·
    have hge : zs[at_]? = none := List.getElem?_eq_none (by omega)
    refine J_slot (t := 5) (v := .int .i64 (seqAt zs at_)) rfl (by unfold seqAt; rw [hge]; rfl) <| J_skip <| qx <| mv rfl rfl <| mv rfl rfl <| nc rfl rfl <| fa rfl rfl fa29_1 <| L_val rfl (v_load rfl ty3 HS (by exact rfl)) ?_
    refine L_pur rfl (p_add64 rfl rfl (by omega)) <| J_slot (t := 31) (v := .int .i64 ((at_ + 1 : Nat) : Int)) rfl (by simp) <| nc rfl rfl <| fa rfl rfl fa29_1 <| L_op <| x_store rfl rfl ty3 rfl SM SM RO PT ?_
    refine nx <| mv rfl rfl <| mv rfl rfl <| L_op <| x_call Tryz.func25 nm25 bd25 (.cons rfl (.cons rfl .nil)) rfl (number (by omega) (by omega)) fun _ => ag rfl rfl <| nq <| J_ret ?_
    refine J_return (()) Tryz.results52 (.tmp rfl .nil) ?_ ?_
    · rfl
    · exact SU

set_option maxRecDepth 100000 in
set_option maxHeartbeats 4000000 in
theorem confC {E : World} {l m : List As} {v : Value} {zs : List Int} {bq : Nat} (hp : Pick (blk bq 29 [v, .int .i64 ((0 : Nat) : Int)]) l m) (hr : ∀ w, Sep E w m → Reads w 1 v (zs.map encZ)) (hz : zs.length ≤ 1000000) :
    Con Tryz.prog 7 #[.pointer (some ⟨bq, 0, none⟩)] E l (fun _ : Unit => .agg ((encG (1 + ((num (seqAt zs 0) 3 : Nat) : Int)) (1 + ((num (seqAt zs 1) 12 : Nat) : Int)) ((num (seqAt zs 2) 4 : Nat) : Int) ((num (seqAt zs 3) 5 : Nat) : Int) (decide (((num (seqAt zs 4) 4 : Nat) : Int) > 0)))).toArray) (fun _ => m) := by
  refine Con.body (vs := [.pointer (some ⟨bq, 0, none⟩)]) (n := 17) Tryz.func7 rfl rfl [(0, .pointer (some ⟨bq, 0, none⟩))] (env_ok 1 rfl) <| J_pick hp <| sr <| L_op <| x_alloc ty25 rfl fun b2 => nx <| mv rfl rfl <| L_op <| x_call Tryz.func52 nm52 bd52 (.cons rfl (.cons rfl .nil)) rfl (seqNext (at_ := 0) (b := 3) (zs := zs) PC (fun w H => hr w (Sub.sep SU H)) (by omega) (by omega) hz) fun _ => ?_
  have hn4 := num_lt (x := seqAt zs 0) (b := 3) (by omega)
  refine J_pick (A := blk bq _ _) PC ?_
  refine J_asTo (B := blk bq 29 [v, .int .i64 ((1 : Nat) : Int)]) (by rfl) <| L_pur rfl (p_add64 rfl rfl (by omega)) <| mv rfl rfl <| L_op <| x_call Tryz.func52 nm52 bd52 (.cons rfl (.cons rfl .nil)) rfl (seqNext (at_ := 1) (b := 12) (zs := zs) PC (fun w H => hr w (Sub.sep SU H)) (by omega) (by omega) hz) fun _ => ?_
  have hn7 := num_lt (x := seqAt zs 1) (b := 12) (by omega)
  refine J_pick (A := blk bq _ _) PC ?_
  refine J_asTo (B := blk bq 29 [v, .int .i64 ((2 : Nat) : Int)]) (by rfl) <| L_pur rfl (p_add64 rfl rfl (by omega)) <| mv rfl rfl <| L_op <| x_call Tryz.func52 nm52 bd52 (.cons rfl (.cons rfl .nil)) rfl (seqNext (at_ := 2) (b := 4) (zs := zs) PC (fun w H => hr w (Sub.sep SU H)) (by omega) (by omega) hz) fun _ => ?_
  have hn10 := num_lt (x := seqAt zs 2) (b := 4) (by omega)
  refine J_pick (A := blk bq _ _) PC ?_
  refine J_asTo (B := blk bq 29 [v, .int .i64 ((3 : Nat) : Int)]) (by rfl) <| mv rfl rfl <| L_op <| x_call Tryz.func52 nm52 bd52 (.cons rfl (.cons rfl .nil)) rfl (seqNext (at_ := 3) (b := 5) (zs := zs) PC (fun w H => hr w (Sub.sep SU H)) (by omega) (by omega) hz) fun _ => ?_
  have hn12 := num_lt (x := seqAt zs 3) (b := 5) (by omega)
  refine J_pick (A := blk bq _ _) PC ?_
  refine J_asTo (B := blk bq 29 [v, .int .i64 ((4 : Nat) : Int)]) (by rfl) <| mv rfl rfl <| L_op <| x_call Tryz.func52 nm52 bd52 (.cons rfl (.cons rfl .nil)) rfl (seqNext (at_ := 4) (b := 4) (zs := zs) PC (fun w H => hr w (Sub.sep SU H)) (by omega) (by omega) hz) fun _ => ?_
  have hn14 := num_lt (x := seqAt zs 4) (b := 4) (by omega)
  refine J_pick (A := blk bq _ _) PC ?_
  refine J_asTo (B := blk bq 29 [v, .int .i64 ((5 : Nat) : Int)]) (by rfl) <| L_pur rfl (p_gtr rfl rfl) <| L_pur rfl (bld25 (.cons rfl (.cons rfl (.cons rfl (.cons rfl (.cons rfl .nil))))) (by repeat constructor)) <| L_op <| x_store rfl rfl ty25 rfl SM SM RO PT ?_
  refine nq <| J_ret ?_
  refine J_return (()) Tryz.results7 (.cellA rfl ty25 HS CT .nil) ?_ ?_
  · rfl
  · exact SU

end Go.Pse
