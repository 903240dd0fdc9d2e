/-
  What was decided of a ring: contracts.
-/
import Derived.Test.YthjgdlhkdjgjpaaGreatC24
namespace Go.Pse
open Go.RowKit Go.Proofs

/-! ### plain: what was decided of a ring, what is open -/
def ofR (r : Int) (d : Deed) : Bool := decide (d.1.1 = r)
def isGone (d : Deed) : Bool := d.2.2.2.2.2
def jOf (xs : List Deed) (r : Int) : List Deed := xs.filter (ofR r)
def jWent (xs : List Deed) (r : Int) : Nat := (jOf xs r).countP isGone
theorem take_filter_succ {α : Type} {p : α → Bool} {xs : List α} {k : Nat} {c : α} (h : xs[k]? = some c) : (xs.take (k + 1)).filter p = (xs.take k).filter p ++ if p c then [c] else [] := by
  rw [List.take_add_one, h, List.filter_append]
  by_cases hp : p c = true <;> simp [hp]
theorem take_count_succ {α : Type} {p : α → Bool} {xs : List α} {k : Nat} {c : α} (h : xs[k]? = some c) : (xs.take (k + 1)).countP p = (xs.take k).countP p + if p c then 1 else 0 := by
  rw [List.take_add_one, h, List.countP_append]
  by_cases hp : p c = true <;> simp [hp]
theorem jOf_len (xs : List Deed) (r : Int) : (jOf xs r).length ≤ xs.length := List.length_filter_le _ _
theorem jWent_le (xs : List Deed) (r : Int) : jWent xs r ≤ (jOf xs r).length := List.countP_le_length
def dOf (s : KS) (r : Int) : Int := ((jOf s.jn r).length : Int) - ((jWent s.jn r : Nat) : Int)
/-- Whether a ring's entries are counted. -/
def ringOk (s : KS) (u : Int) : Bool := match look s.rg u with
  | none => true
  | some (_, r) => decide ((look s.tk u).getD 0 = dOf s u + (ofQ s.rt u).length + (jWent s.jn u : Nat)) && decide (r.over.length ≤ 24) && decide (r.tail + r.over.length = dOf s u)
def kRingsOk (s : KS) : Bool := (sortZ (s.rg.map Prod.fst)).all (ringOk s)
set_option maxRecDepth 100000 in
set_option maxHeartbeats 4000000 in
theorem jnlOf {E : World} {l m : List As} {b o : Nat} {xs : List Deed} (hp : Pick (jnlA b o xs) l m) (hb : xs.length ≤ 200000) {r : Int} :
  Con Tryz.prog 45 #[.pointer (some ⟨b, o, none⟩), .int .i64 r] E l (fun v : Value => v) (fun v => row 38 7 v ((jOf xs r).map encD) :: jnlA b o xs :: m) := by
 refine Con.body (vs := [.pointer (some ⟨b, o, none⟩), .int .i64 r]) (n := 28) Tryz.func45 rfl rfl [(0, .pointer (some ⟨b, o, none⟩)), (1, .int .i64 r)] (env_ok 2 rfl) <| J_pick hp <| J_jnlO fun v _ => J_row (.there .here) fun hw a cap hv h1 h2 h3 => ?_
 subst hv
 have hm : cap ≤ 9223372036854775807 := h2
 have hml : (xs.map encD).length = xs.length := List.length_map _
 refine sr <| ag rfl rfl <| nx <| ag rfl rfl <| nxx <| mv rfl rfl <| nc rfl rfl <| fa rfl rfl fa89_0 ?_
 refine L_val rfl (v_loadL rfl ty87 HS rfl (by exact rfl)) ?_
 refine L_pur rfl (p_len rfl Tryz.underlying87) <| mv rfl rfl <| nq <| J_block <| J_nil (el := 38) (sz := 7) <| J_loop2 (fun k v => k ≤ xs.length) (fun k v => row 38 7 v (((xs.take k).filter (ofR r)).map encD) :: fld b o [.slice a (xs.map encD).length cap] :: row 38 7 (.slice a (xs.map encD).length cap) (xs.map encD) :: m) (fun k v => [(13, .int .i64 (k : Int)), (5, v), (1, .int .i64 r), (11, .slice a (xs.map encD).length cap), (12, .int .i64 (xs.map encD).length)]) (fun k v => xs.length - k) 0 (.slice none 0 0) (by omega) SU KE ?_
 intro k v hk
 refine sr <| L_pur rfl (p_lss rfl rfl) <| nq <| J_seq ?_
 refine C_dec rfl (fun h14 => ?_) (fun h14 => ?_)
 ·
  have hlt : k < xs.length := by omega
  obtain ⟨bx, ox, rfl⟩ := h3 (by intro h; rw [h] at hml; simp at hml; omega)
  obtain ⟨c, hcc⟩ : ∃ c, xs[k]? = some c := ⟨_, List.getElem?_eq_getElem hlt⟩
  have hsucc := take_filter_succ (p := ofR r) hcc
  have hfl : ((xs.take k).filter (ofR r)).length ≤ xs.length := Nat.le_trans (List.length_filter_le _ _) (by simp; omega)
  refine J_skip <| Q_then <| J_seq <| J_block <| sr <| L_pur rfl (p_indexAddr rfl rfl Tryz.underlying87 ty38 (by omega) (by omega)) ?_
  refine L_val rfl (v_loadE rfl ty38 HS (by simp only [Int.toNat_natCast, List.getElem?_map, hcc]; rfl)) ?_
  refine L_op <| x_alloc ty38 rfl fun b7 => L_op <| x_store rfl rfl ty38 rfl SM SM RO PT ?_
  refine nx <| fa rfl rfl fa38_0 <| fa rfl rfl fa35_0 <| L_val rfl (v_load rfl ty3 HS (by exact rfl)) ?_
  refine mv rfl rfl <| L_pur rfl (p_eql rfl rfl) <| nq ?_
  refine C_split rfl (fun h21 => ?_) (fun h21 => ?_)
  ·
   refine J_region <| mv rfl rfl <| L_val rfl (v_loadA rfl ty38 HS CT) ?_
   refine L_op <| x_lit (vals := [_]) Tryz.underlying87 ty38 rfl (.cons rfl .nil) (.agg .nil) (Wf.cons rfl rfl Wf.nil) rfl (by decide) rfl rfl <| JR fun a24 c24 hw24 hl24 hm24 hz24 => L_op <| x_app rfl rfl Tryz.underlying87 ty38 rfl rfl PC (fun w H => sep_reads HS H) (by simp; omega) (by simp; omega) rfl <| JE (((xs.take (k + 1)).filter (ofR r)).map encD) (by rw [hsucc, if_pos (by simpa [ofR] using h21)]; simp) fun a25 c25 hw25 hl25 hm25 hz25 => ag rfl rfl <| L_nil ?_
   refine Q_blk_normal <| qr <| L_pur rfl (p_add64 rfl rfl (by omega)) <| mv rfl rfl <| nq ?_
   
   exact J_again2 (k + 1) _ (by omega) (by omega) SU KE
  ·
   refine J_skip <| Q_blk_normal <| qr <| L_pur rfl (p_add64 rfl rfl (by omega)) <| mv rfl rfl <| nq <| J_pick (A := row 38 7 v (((xs.take k).filter (ofR r)).map encD)) PC ?_
   refine J_rowEq (ys := ((xs.take (k + 1)).filter (ofR r)).map encD) (by rw [hsucc, if_neg (by simp [ofR] at h21 ⊢; exact h21)]; simp) ?_
   exact J_again2 (k + 1) _ (by omega) (by omega) SU KE
 ·
  have hkx : k = xs.length := by omega
  subst hkx
  refine J_rowEq (ys := (jOf xs r).map encD) (by rw [List.take_length]; rfl) <| J_exit <| Q_then_exit <| Q_then_exit <| Q_blk_this <| qx <| mv rfl rfl <| ag rfl rfl ?_
  refine nq <| J_ret <| J_jnlS (b := b) (o := o) (xs := xs) _ PX trivial ?_
  exact J_return (_) Tryz.results45 (.tmp rfl .nil) rfl SU

set_option maxRecDepth 100000 in
set_option maxHeartbeats 4000000 in
theorem jnlCounts {E : World} {l m : List As} {b o : Nat} {xs : List Deed} (hp : Pick (jnlA b o xs) l m) (hb : xs.length ≤ 200000) {r : Int} :
    Con Tryz.prog 23 #[.pointer (some ⟨b, o, none⟩), .int .i64 r] E l (fun _ : Unit => .tuple #[.int .i64 (((jOf xs r).length : Int) - ((jWent xs r : Nat) : Int)), .int .i64 ((jWent xs r : Nat) : Int)]) (fun _ => jnlA b o xs :: m) := by
  refine Con.body (vs := [.pointer (some ⟨b, o, none⟩), .int .i64 r]) (n := 29) Tryz.func23 rfl rfl [(0, .pointer (some ⟨b, o, none⟩)), (1, .int .i64 r)] (env_ok 2 rfl) <| sr <| ag rfl rfl <| ag rfl rfl <| nx <| ag rfl rfl <| nx <| mv rfl rfl ?_
  refine mv rfl rfl <| L_op <| x_call Tryz.func45 nm45 bd45 (.cons rfl (.cons rfl .nil)) rfl (jnlOf (xs := xs) (r := r) hp hb) fun _ => ?_
  obtain ⟨ys, hys⟩ : ∃ ys, ys = jOf xs r := ⟨_, rfl⟩
  rw [← hys]
  have hyl : ys.length ≤ 200000 := by rw [hys]; exact Nat.le_trans (jOf_len xs r) hb
  refine J_row .here fun hw a cap hv h1 h2 h3 => ?_
  subst hv
  have hml : (ys.map encD).length = ys.length := List.length_map _
  have hm : cap ≤ 9223372036854775807 := h2
  refine ag rfl rfl <| nxx <| mv rfl rfl <| L_pur rfl (p_len rfl Tryz.underlying87) <| mv rfl rfl <| nq <| J_block <| J_loop (α := Nat) (fun k => k ≤ ys.length) (fun k => row 38 7 (.slice a (ys.map encD).length cap) (ys.map encD) :: jnlA b o xs :: m) (fun k => [(15, .int .i64 (k : Int)), (6, .int .i64 (((ys.take k).countP isGone : Nat) : Int)), (7, .slice a (ys.map encD).length cap), (13, .slice a (ys.map encD).length cap), (14, .int .i64 (ys.map encD).length)]) (fun k => ys.length - k) 0 (by omega) SU KE ?_
  intro k hk
  refine sr <| L_pur rfl (p_lss rfl rfl) <| nq <| J_seq ?_
  refine C_dec rfl (fun h16 => ?_) (fun h16 => ?_)
  ·
    have hlt : k < ys.length := by omega
    obtain ⟨bx, ox, rfl⟩ := h3 (by intro h; rw [h] at hml; simp at hml; omega)
    obtain ⟨c, hcc⟩ : ∃ c, ys[k]? = some c := ⟨_, List.getElem?_eq_getElem hlt⟩
    have hsucc := take_count_succ (p := isGone) hcc
    have hcl : (ys.take k).countP isGone ≤ ys.length := Nat.le_trans List.countP_le_length (by simp; omega)
    refine J_skip <| Q_then <| J_seq <| J_block <| sr <| L_pur rfl (p_indexAddr rfl rfl Tryz.underlying87 ty38 (by omega) (by omega)) ?_
    refine L_val rfl (v_loadE rfl ty38 HS (by simp only [Int.toNat_natCast, List.getElem?_map, hcc]; rfl)) ?_
    refine L_op <| x_alloc ty38 rfl fun b9 => L_op <| x_store rfl rfl ty38 rfl SM SM RO PT ?_
    refine nx <| fa rfl rfl fa38_5 <| L_val rfl (v_load rfl ty4 HS (by exact rfl)) ?_
    refine nq ?_
    refine C_split rfl (fun h20 => ?_) (fun h20 => ?_)
    ·
      refine J_region <| mv rfl rfl <| L_pur rfl (p_add64 rfl rfl (by omega)) <| ag rfl rfl <| L_nil <| Q_blk_normal <| qr <| L_pur rfl (p_add64 rfl rfl (by omega)) ?_
      refine mv rfl rfl <| nq <| J_slot (t := 6) (v := .int .i64 (((ys.take (k + 1)).countP isGone : Nat) : Int)) rfl (by have h20' : isGone c = _ := h20; rw [hsucc, h20']; simp) ?_
      exact J_again (k + 1) (by omega) (by omega) SU KE
    ·
      refine J_skip <| Q_blk_normal <| qr <| L_pur rfl (p_add64 rfl rfl (by omega)) <| mv rfl rfl <| nq <| J_slot (t := 6) (v := .int .i64 (((ys.take (k + 1)).countP isGone : Nat) : Int)) rfl (by have h20' : isGone c = _ := h20; rw [hsucc, h20']; simp) ?_
      exact J_again (k + 1) (by omega) (by omega) SU KE
  ·
    have hkx : k = ys.length := by omega
    subst hkx
    have hcl : (ys.take ys.length).countP isGone ≤ ys.length := Nat.le_trans List.countP_le_length (by simp)
    have hwn : (ys.take ys.length).countP isGone = jWent xs r := by rw [List.take_length, hys]; rfl
    have hjl : jWent xs r ≤ ys.length := by rw [← hwn]; exact hcl
    refine J_exit <| Q_then_exit <| Q_then_exit <| Q_blk_this <| qx <| mv rfl rfl <| L_pur rfl (p_len rfl Tryz.underlying87) <| mv rfl rfl ?_
    refine L_pur rfl (p_sub64 rfl rfl (by omega)) <| mv rfl rfl <| ag rfl rfl <| ag rfl rfl <| nq <| J_ret ?_
    refine J_return (()) Tryz.results23 (.tmp rfl (.tmp rfl .nil)) ?_ ?_
    · simp only [one]; rw [hwn, hml, hys]
    · exact SU

end Go.Pse
