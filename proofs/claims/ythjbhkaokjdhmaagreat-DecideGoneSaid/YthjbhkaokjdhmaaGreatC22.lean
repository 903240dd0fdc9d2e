/-
  Memory, rings: contracts.
-/
import Derived.Test.YthjbhkaokjdhmaaGreatC21
import Derived.Test.YthjbhkaokjdhmaaGreatIns
namespace Go.Pse
open Go.RowKit Go.Proofs

theorem lset_same {α : Type} {xs : List α} {i : Nat} {y : α} (h : xs[i]? = some y) : xs.set i y = xs := by
  obtain ⟨hl, rfl⟩ := List.getElem?_eq_some_iff.1 h
  exact List.set_getElem_self hl
theorem snd_at {xs : List (Value × List Int)} {ms : List (List Int)} {u : Nat} {r : List Int} (h : xs.map Prod.snd = ms) (hr : ms[u]? = some r) : ∃ v, xs[u]? = some (v, r) := by
  subst h
  rw [List.getElem?_map] at hr
  obtain ⟨⟨v, x⟩, h1, rfl⟩ := Option.map_eq_some_iff.1 hr
  exact ⟨v, h1⟩
theorem fst_set {xs : List (Value × List Int)} {u : Nat} {v : Value} {r r' : List Int} (h : xs[u]? = some (v, r)) : ((xs.set u (v, r')).map fun x => [x.1]) = xs.map fun x => [x.1] := by
  rw [List.map_set]
  exact lset_same (by rw [List.getElem?_map, h]; rfl)
set_option maxRecDepth 100000 in
set_option maxHeartbeats 4000000 in
theorem partC {E : World} {l : List As} {b u off n br orr len cr : Nat} {v : Value} {ms : List Int} {xs : List (Value × List Int)} (hb : Has (blk b 155 [v]) l) (hv : Has (row 156 1 v (xs.map fun x => [x.1])) l) (hx : xs[u]? = some (.slice (some ⟨br, orr, none⟩) len cr, ms)) (hxl : xs.length ≤ 64) (ho : off + n ≤ 512) (hc : 512 ≤ cr) :
    Con Tryz.prog 147 #[.pointer (some ⟨b, 0, none⟩), .int .i64 ((u : Int) + 1), .int .i64 (off : Int), .int .i64 (n : Int)] E l (fun _ : Unit => .tuple #[.slice (if cr = off then some ⟨br, orr, none⟩ else (some (⟨br, orr, none⟩ : Addr)).map (·.add (off * 1))) n (cr - off), .bool true]) (fun _ => l) := by
  refine Con.body (vs := [.pointer (some ⟨b, 0, none⟩), .int .i64 ((u : Int) + 1), .int .i64 (off : Int), .int .i64 (n : Int)]) (n := 52) Tryz.func147 rfl rfl [(0, .pointer (some ⟨b, 0, none⟩)), (1, .int .i64 ((u : Int) + 1)), (2, .int .i64 (off : Int)), (3, .int .i64 (n : Int))] (env_ok 4 rfl) ?_
  have hxu := (List.getElem?_eq_some_iff.1 hx).1
  refine J_row hv fun hw a cap hv' h1 h2 h3 => ?_
  have hml : (xs.map fun x : Value × List Int => [x.1]).length = xs.length := List.length_map _
  obtain ⟨bx, ox, rfl⟩ := h3 (by intro h; rw [h] at hml; simp at hml; omega)
  subst hv'
  have hm : cap ≤ 9223372036854775807 := h2
  refine sr <| ag rfl rfl <| ag rfl rfl <| nxx <| mv rfl rfl <| L_pur rfl (p_lss rfl rfl) <| mv rfl rfl <| J_bool (t := 12) (c := false) rfl (by first | (simp; omega) | simp) ?_
  refine L_op <| G_on rfl rfl rfl <| J_pur (p_move rfl) rfl rfl rfl <| L_op <| G_on rfl rfl rfl <| J_pur (p_move rfl) rfl rfl rfl <| L_op <| G_on rfl rfl rfl ?_
  refine J_pur (p_nilCheck rfl) rfl rfl rfl <| L_op <| G_on rfl rfl rfl <| J_pur (p_fieldAddr rfl fa155_0) rfl rfl rfl <| L_op <| G_on rfl rfl rfl <| J_val (v_load rfl ty153 HS (by exact rfl)) rfl rfl rfl ?_
  refine L_op <| G_on rfl rfl rfl <| J_pur (p_len rfl Tryz.underlying153) rfl rfl rfl <| L_op <| G_on rfl rfl rfl <| J_pur (p_gtr rfl rfl) rfl rfl rfl <| L_pur rfl (p_pick_f rfl rfl) <| mv rfl rfl ?_
  refine J_bool (t := 21) (c := false) rfl (by first | (simp; omega) | simp) <| L_op <| G_on rfl rfl rfl <| J_pur (p_move rfl) rfl rfl rfl <| L_op <| G_on rfl rfl rfl <| J_pur (p_lss rfl rfl) rfl rfl rfl <| L_pur rfl (p_pick_f rfl rfl) ?_
  refine mv rfl rfl <| J_bool (t := 25) (c := false) rfl (by first | (simp; omega) | simp) <| L_op <| G_on rfl rfl rfl <| J_pur (p_move rfl) rfl rfl rfl <| L_op <| G_on rfl rfl rfl <| J_pur (p_lss rfl rfl) rfl rfl rfl ?_
  refine L_pur rfl (p_pick_f rfl rfl) <| mv rfl rfl <| J_bool (t := 29) (c := false) rfl (by first | (simp; omega) | simp) <| L_op <| G_on rfl rfl rfl <| J_pur (p_move rfl) rfl rfl rfl <| L_op <| G_on rfl rfl rfl ?_
  refine J_pur (p_gtr rfl rfl) rfl rfl rfl <| L_pur rfl (p_pick_f rfl rfl) <| mv rfl rfl <| J_bool (t := 33) (c := false) rfl (by first | (simp; omega) | simp) <| L_op <| G_on rfl rfl rfl <| J_pur (p_move rfl) rfl rfl rfl <| L_op <| G_on rfl rfl rfl ?_
  refine J_pur (p_move rfl) rfl rfl rfl <| L_op <| G_on rfl rfl rfl <| J_pur (p_sub64 rfl rfl (by omega)) rfl rfl rfl <| L_op <| G_on rfl rfl rfl <| J_pur (p_gtr rfl rfl) rfl rfl rfl <| L_pur rfl (p_pick_f rfl rfl) ?_
  refine nq <| J_bool (t := 38) (c := false) rfl (by first | (simp; omega) | simp) <| C_false rfl <| J_skip <| qx <| mv rfl rfl <| nc rfl rfl <| fa rfl rfl fa155_0 ?_
  refine L_val rfl (v_load rfl ty153 HS (by exact rfl)) ?_
  refine mv rfl rfl <| L_pur rfl (p_sub64 rfl rfl (by omega)) <| L_pur rfl (p_indexAddr rfl rfl Tryz.underlying153 ty156 (by omega) (by simp; omega)) ?_
  refine L_val rfl (v_loadE1 rfl ty156 hv (by rw [show ((u : Int) + 1 - 1).toNat = u by omega, List.getElem?_map, hx]; rfl)) ?_
  refine mv rfl rfl <| mv rfl rfl <| mv rfl rfl <| L_pur rfl (p_add64 rfl rfl (by omega)) <| L_pur rfl (p_slice rfl Tryz.underlying156 ty5 rfl rfl (by omega) (by omega) (by omega)) <| J_slot (t := 51) (v := .slice (if cr = off then some ⟨br, orr, none⟩ else (some (⟨br, orr, none⟩ : Addr)).map (·.add (off * 1))) n (cr - off)) rfl (by rw [show ((off : Int) + (n : Int)).toNat = off + n by omega, show ((off : Int)).toNat = off by omega, Nat.add_sub_cancel_left]) <| ag rfl rfl <| ag rfl rfl ?_
  refine nq <| J_ret ?_
  refine J_return (()) Tryz.results147 (.tmp rfl (.tmp rfl .nil)) ?_ ?_
  · rfl
  · exact SU

set_option maxRecDepth 100000 in
set_option maxHeartbeats 4000000 in
theorem readC {E : World} {l m : List As} {b u : Nat} {ms : List (List Int)} {r : List Int} (hp : Pick (memA b ms) l m) (hms : ms.length = 64) (hu : ms[u]? = some r) (hrl : r.length = 512) {off n : Nat} (ho : off + n ≤ 512) :
  Con Tryz.prog 153 #[.pointer (some ⟨b, 0, none⟩), .int .i64 ((u : Int) + 1), .int .i64 (off : Int), .int .i64 (n : Int)] E l (fun v : Value => .tuple #[v, .bool true]) (fun v => row 5 1 v (((r.drop off).take n).map encU) :: memA b ms :: m) := by
 refine Con.body (vs := [.pointer (some ⟨b, 0, none⟩), .int .i64 ((u : Int) + 1), .int .i64 (off : Int), .int .i64 (n : Int)]) (n := 23) Tryz.func153 rfl rfl [(0, .pointer (some ⟨b, 0, none⟩)), (1, .int .i64 ((u : Int) + 1)), (2, .int .i64 (off : Int)), (3, .int .i64 (n : Int))] (env_ok 4 rfl) <| J_pick hp <| J_memO fun v xs hxs => ?_
 have hxl : xs.length = 64 := by rw [← hms, ← show xs.map Prod.snd = ms from hxs, List.length_map]
 obtain ⟨vr, hx⟩ := snd_at hxs hu
 have hxu := (List.getElem?_eq_some_iff.1 hx).1
 refine J_pick (A := each memF xs) PC ?_
 refine J_eachOut hx <| J_asTo (B := row 5 1 vr (r.map encU)) (by rfl) <| J_row .here fun hwr ar cr hvr hr1 hr2 hr3 => ?_
 have hlr : (r.map encU).length = 512 := by rw [List.length_map]; exact hrl
 obtain ⟨br, orr, rfl⟩ := hr3 (by intro h; rw [h] at hlr; simp at hlr)
 subst hvr
 have hcr : cr ≤ 9223372036854775807 := hr2
 refine sr <| ag rfl rfl <| ag rfl rfl <| nx <| mv rfl rfl <| mv rfl rfl <| mv rfl rfl <| mv rfl rfl ?_
 refine L_op <| x_call Tryz.func147 nm147 bd147 (.cons rfl (.cons rfl (.cons rfl (.cons rfl .nil)))) rfl (partC (len := (r.map encU).length) HS HS hx (by omega) ho (by omega)) fun _ => ?_
 refine mv rfl rfl <| L_pur rfl (p_extract rfl rfl) <| L_pur rfl (p_extract rfl rfl) <| ag rfl rfl <| ag rfl rfl <| nx <| mv rfl rfl <| L_op <| x_call Tryz.func166 nm166 bd166 (.cons rfl .nil) rfl (clone166 (xs := (((r.map encU).drop off).take n)) (fun w H => ((sep_reads (xs := r.map encU) HS H).drop (lo := off) (by omega)).take (i := n) (by simp; omega)) (by simp; omega)) ?_
 refine JE (((r.drop off).take n).map encU) (by rw [List.map_take, List.map_drop]) fun a21 c21 hw21 hl21 hm21 hz21 => mv rfl rfl <| ag rfl rfl <| ag rfl rfl <| nq <| J_ret <| J_pick (A := row 5 1 (.slice (some ⟨br, orr, none⟩) (r.map encU).length cr) _) PC ?_
 refine J_asTo (B := memF (.slice (some ⟨br, orr, none⟩) (r.map encU).length cr, r)) (by rfl) <| J_pick (A := each memF _) PC ?_
 refine J_pick (A := memF _) PC ?_
 refine J_eachIn (.slice (some ⟨br, orr, none⟩) (r.map encU).length cr, r) hxu ?_
 skip
 refine J_pick (A := row 156 1 v _) PC ?_
 refine J_rowEq (ys := (xs.set u (.slice (some ⟨br, orr, none⟩) (r.map encU).length cr, r)).map fun x : Value × List Int => [x.1]) (fst_set hx).symm <| J_memS (b := b) (ms := (ms.set u r)) v (xs.set u (.slice (some ⟨br, orr, none⟩) (r.map encU).length cr, r)) PX (by show List.map Prod.snd _ = _; rw [List.map_set, show xs.map Prod.snd = ms from hxs]) ?_
 refine J_asTo (B := memA b ms) (by rw [lset_same hu]) ?_
 exact J_return (_) Tryz.results153 (.tmp rfl (.tmp rfl .nil)) rfl SU

set_option maxRecDepth 100000 in
set_option maxHeartbeats 4000000 in
theorem writeC {E : World} {l m : List As} {b u : Nat} {ms : List (List Int)} {r : List Int} (hp : Pick (memA b ms) l m) (hms : ms.length = 64) (hu : ms[u]? = some r) (hrl : r.length = 512) {off : Nat} {ys : List Int} {v' : Value} (hr : ∀ w, Sep E w m → Reads w 1 v' (ys.map encU)) (ho : off + ys.length ≤ 512) :
    Con Tryz.prog 128 #[.pointer (some ⟨b, 0, none⟩), .int .i64 ((u : Int) + 1), .int .i64 (off : Int), v'] E l (fun _ : Unit => .bool true) (fun _ => memA b (ms.set u (putB r off ys)) :: m) := by
  refine Con.body (vs := [.pointer (some ⟨b, 0, none⟩), .int .i64 ((u : Int) + 1), .int .i64 (off : Int), v']) (n := 24) Tryz.func128 rfl rfl [(0, .pointer (some ⟨b, 0, none⟩)), (1, .int .i64 ((u : Int) + 1)), (2, .int .i64 (off : Int)), (3, v')] (env_ok 4 rfl) <| J_readsB (fun w H => hr w (H.pick hp).tail) fun hw' a' cap' hv' h1' h2' h3' => ?_
  subst hv'
  refine J_pick hp <| J_memO fun v xs hxs => ?_
  have hxl : xs.length = 64 := by rw [← hms, ← show xs.map Prod.snd = ms from hxs, List.length_map]
  obtain ⟨vr, hx⟩ := snd_at hxs hu
  have hxu := (List.getElem?_eq_some_iff.1 hx).1
  refine J_pick (A := each memF xs) PC ?_
  refine J_eachOut hx <| J_asTo (B := row 5 1 vr (r.map encU)) (by rfl) <| J_row .here fun hwr ar cr hvr hr1 hr2 hr3 => ?_
  have hlr : (r.map encU).length = 512 := by rw [List.length_map]; exact hrl
  obtain ⟨br, orr, rfl⟩ := hr3 (by intro h; rw [h] at hlr; simp at hlr)
  subst hvr
  have hcr : cr ≤ 9223372036854775807 := hr2
  refine sr <| ag rfl rfl <| nx <| mv rfl rfl <| mv rfl rfl <| mv rfl rfl <| mv rfl rfl <| L_pur rfl (p_len rfl Tryz.underlying156) ?_
  refine J_slot (t := 16) (v := .int .i64 (ys.length : Int)) rfl (by simp) <| L_op <| x_call Tryz.func147 nm147 bd147 (.cons rfl (.cons rfl (.cons rfl (.cons rfl .nil)))) rfl (partC (len := (r.map encU).length) (n := ys.length) HS HS hx (by omega) ho (by omega)) fun _ => ?_
  refine mv rfl rfl <| L_pur rfl (p_extract rfl rfl) <| L_pur rfl (p_extract rfl rfl) <| ag rfl rfl <| ag rfl rfl <| nx <| mv rfl rfl <| mv rfl rfl ?_
  refine L_op <| x_copyTo (k0 := off) (len := (r.map encU).length) (xs := r.map encU) (ys := ys.map encU) rfl rfl Tryz.underlying156 ty5 PC (fun w H => hr w (Sub.sep SU H)) (by simp) (by simp; omega) rfl ?_
  refine J_rowEq (ys := (putB r off ys).map encU) (by simp [putB]) <| nx <| mv rfl rfl <| ag rfl rfl <| nq <| J_ret <| J_pick (A := row 5 1 (.slice (some ⟨br, orr, none⟩) (r.map encU).length cr) _) PC ?_
  refine J_asTo (B := memF (.slice (some ⟨br, orr, none⟩) (r.map encU).length cr, putB r off ys)) (by rfl) <| J_pick (A := each memF _) PC ?_
  refine J_pick (A := memF _) PC ?_
  refine J_eachIn (.slice (some ⟨br, orr, none⟩) (r.map encU).length cr, putB r off ys) hxu ?_
  skip
  refine J_pick (A := row 156 1 v _) PC ?_
  refine J_rowEq (ys := (xs.set u (.slice (some ⟨br, orr, none⟩) (r.map encU).length cr, putB r off ys)).map fun x : Value × List Int => [x.1]) (fst_set hx).symm <| J_memS (b := b) (ms := (ms.set u (putB r off ys))) v (xs.set u (.slice (some ⟨br, orr, none⟩) (r.map encU).length cr, putB r off ys)) PX (by show List.map Prod.snd _ = _; rw [List.map_set, show xs.map Prod.snd = ms from hxs]) ?_
  refine J_return (()) Tryz.results128 (.tmp rfl .nil) ?_ ?_
  · rfl
  · exact SU

def rowAt (ms : List (List Int)) (u : Int) : List Int := (ms[(u - 1).toNat]?).getD []
structure MemOk (ms : List (List Int)) : Prop where
  len : ms.length = 64
  rows : ∀ r ∈ ms, r.length = 512 ∧ Bytes r
structure RgOk (r : Rg) : Prop where
  sq : 1 ≤ r.sq ∧ r.sq ≤ 64
  cq : 1 ≤ r.cq ∧ r.cq ≤ 64
  cb : 0 ≤ r.cb ∧ r.cb ≤ 4
  tail : 0 ≤ r.tail ∧ r.tail < 4294967296
theorem MemOk.at {ms : List (List Int)} (h : MemOk ms) {u : Int} (hu : 1 ≤ u ∧ u ≤ 64) : ms[(u - 1).toNat]? = some (rowAt ms u) ∧ (rowAt ms u).length = 512 ∧ Bytes (rowAt ms u) := by
  have hl : (u - 1).toNat < ms.length := by rw [h.len]; omega
  have e := List.getElem?_eq_getElem hl
  have e2 : rowAt ms u = ms[(u - 1).toNat] := by unfold rowAt; rw [e]; rfl
  exact ⟨by rw [e2]; exact e, by rw [e2]; exact h.rows _ (List.getElem_mem hl)⟩
theorem MemOk.put {ms : List (List Int)} (h : MemOk ms) {u : Nat} {r : List Int} (hr : r.length = 512 ∧ Bytes r) : MemOk (ms.set u r) := ⟨by rw [List.length_set, h.len], fun x hx => by
  rcases List.mem_or_eq_of_mem_set hx with h1 | h1
  · exact h.rows x h1
  · rw [h1]; exact hr⟩
/-- How far a ring's tail is from the head that stands in memory. -/
def rgFar (r : Rg) (ms : List (List Int)) : Int := IntKind.u32.wrap (r.tail - getN (rowAt ms r.cq) 0 4)
def rgRoom (r : Rg) (ms : List (List Int)) : Int := if rgFar r ms > 2 ^ r.cb.toNat then 0 else 2 ^ r.cb.toNat - rgFar r ms
def rgWrOk (r : Rg) (ms : List (List Int)) : Bool := decide (rgFar r ms < 2 ^ r.cb.toNat)
def rgRow (r : Rg) (ms : List (List Int)) (c : Cqe) : List Int := putB (putB (rowAt ms r.cq) (16 + r.tail % 2 ^ r.cb.toNat * 16).toNat (bytesX c)) 4 (le4 (IntKind.u32.wrap (r.tail + 1)))
def rgUp (r : Rg) : Rg := { r with tail := IntKind.u32.wrap (r.tail + 1) }
def postOk (r : Rg) (ms : List (List Int)) : Bool := r.over.isEmpty && rgWrOk r ms
def postR (r : Rg) (ms : List (List Int)) (c : Cqe) : Rg := if postOk r ms then rgUp r else { r with over := r.over ++ [c] }
def postM (r : Rg) (ms : List (List Int)) (c : Cqe) : List (List Int) := if postOk r ms then ms.set (r.cq - 1).toNat (rgRow r ms c) else ms
theorem wrap32_in (n : Int) : 0 ≤ IntKind.u32.wrap n ∧ IntKind.u32.wrap n < 4294967296 := by
  have : IntKind.u32.wrap n = n % 4294967296 := by simp [IntKind.wrap, IntKind.bits, IntKind.signed]
  rw [this]; omega
theorem RgOk.up {r : Rg} (h : RgOk r) : RgOk (rgUp r) := ⟨h.sq, h.cq, h.cb, wrap32_in _⟩
theorem pow_cb {k : Int} (h : 0 ≤ k ∧ k ≤ 4) : (1 : Int) ≤ 2 ^ k.toNat ∧ (2 : Int) ^ k.toNat ≤ 16 ∧ IntKind.u32.wrap (1 * 2 ^ k.toNat) = 2 ^ k.toNat := by
  have : k = 0 ∨ k = 1 ∨ k = 2 ∨ k = 3 ∨ k = 4 := by omega
  rcases this with rfl | rfl | rfl | rfl | rfl <;> decide
theorem place_in {r : Rg} (h : RgOk r) : 0 ≤ r.tail % 2 ^ r.cb.toNat ∧ r.tail % 2 ^ r.cb.toNat ≤ 15 := by
  have h2 := pow_cb h.cb
  have h3 := Int.emod_nonneg r.tail (b := 2 ^ r.cb.toNat) (by omega)
  have h4 := Int.emod_lt_of_pos r.tail (b := 2 ^ r.cb.toNat) (by omega)
  omega
theorem rgRow_ok {r : Rg} {ms : List (List Int)} (h : RgOk r) (hM : MemOk ms) (c : Cqe) : (rgRow r ms c).length = 512 ∧ Bytes (rgRow r ms c) := by
  obtain ⟨h1, h2, h3⟩ := hM.at h.cq
  have h4 := place_in h
  have h5 : (putB (rowAt ms r.cq) (16 + r.tail % 2 ^ r.cb.toNat * 16).toNat (bytesX c)).length = 512 := by rw [putB_len (by rw [bytesX_len]; omega), h2]
  exact ⟨by unfold rgRow; rw [putB_len (by simp [le4]; omega), h5], putB_bytes (putB_bytes h3 (bytesX_bytes c)) (le4_bytes _)⟩
theorem postM_ok {r : Rg} {ms : List (List Int)} (h : RgOk r) (hM : MemOk ms) (c : Cqe) : MemOk (postM r ms c) := by
  unfold postM; split
  · exact hM.put (rgRow_ok h hM c)
  · exact hM
theorem postR_ok {r : Rg} {ms : List (List Int)} (h : RgOk r) (c : Cqe) : RgOk (postR r ms c) := by
  unfold postR; split
  · exact h.up
  · exact ⟨h.sq, h.cq, h.cb, h.tail⟩
set_option maxRecDepth 100000 in
set_option maxHeartbeats 4000000 in
theorem ringWord {E : World} {l m : List As} {b mb : Nat} {v : Value} {r : Rg} {ms : List (List Int)} (hp : Picks [blk b 138 [.pointer (some ⟨mb, 0, none⟩), .int .i64 r.sq, .int .i64 r.cq, .int .i64 r.sb, .int .i64 r.cb, .int .u32 r.head, .int .u32 r.tail, v], memA mb ms] l m) {x : List Int} {u : Nat} (hms : ms.length = 64) (hu : ms[u]? = some x) (hxl : x.length = 512) (hB : Bytes x) :
    Con Tryz.prog 146 #[.pointer (some ⟨b, 0, none⟩), .int .i64 ((u : Int) + 1), .int .i64 0] E l (fun _ : Unit => .int .u32 (getN x 0 4)) (fun _ => blk b 138 [.pointer (some ⟨mb, 0, none⟩), .int .i64 r.sq, .int .i64 r.cq, .int .i64 r.sb, .int .i64 r.cb, .int .u32 r.head, .int .u32 r.tail, v] :: memA mb ms :: m) := by
  refine Con.body (vs := [.pointer (some ⟨b, 0, none⟩), .int .i64 ((u : Int) + 1), .int .i64 0]) (n := 21) Tryz.func146 rfl rfl [(0, .pointer (some ⟨b, 0, none⟩)), (1, .int .i64 ((u : Int) + 1)), (2, .int .i64 0)] (env_ok 3 rfl) <| J_picks2 hp <| sr <| ag rfl rfl <| nx <| mv rfl rfl <| nc rfl rfl <| fa rfl rfl fa138_0 ?_
  refine L_val rfl (v_load rfl ty86 HS (by exact rfl)) ?_
  refine mv rfl rfl <| mv rfl rfl <| L_op <| x_call Tryz.func153 nm153 bd153 (.cons rfl (.cons rfl (.cons rfl (.cons rfl .nil)))) rfl (readC (ms := ms) (u := u) (off := 0) (n := 4) PC hms hu hxl (by omega)) fun x16 => ?_
  refine mv rfl rfl <| L_pur rfl (p_extract rfl rfl) <| L_pur rfl (p_extract rfl rfl) <| ag rfl rfl <| ag rfl rfl <| nx <| mv rfl rfl <| L_op <| x_call Tryz.func154 nm154 bd154 (.cons rfl (.cons rfl .nil)) rfl (u32C (a := 0) (bs := (x.drop 0).take 4) (fun w H => sep_reads (xs := ((x.drop 0).take 4).map encU) HS H) (by simp; omega) (by simp; omega) (part_bytes hB)) fun _ => ?_
  refine J_slot (t := 20) (v := .int .u32 (getN x 0 4)) rfl (by rw [getN_part]) <| ag rfl rfl <| nq <| J_ret ?_
  refine J_return (()) Tryz.results146 (.tmp rfl .nil) ?_ ?_
  · rfl
  · exact SU

set_option maxRecDepth 100000 in
set_option maxHeartbeats 4000000 in
theorem ringPuts {E : World} {l m : List As} {b mb : Nat} {v : Value} {r : Rg} {ms : List (List Int)} (hp : Picks [blk b 138 [.pointer (some ⟨mb, 0, none⟩), .int .i64 r.sq, .int .i64 r.cq, .int .i64 r.sb, .int .i64 r.cb, .int .u32 r.head, .int .u32 r.tail, v], memA mb ms] l m) {x : List Int} {n : Int} {u : Nat} (hms : ms.length = 64) (hu : ms[u]? = some x) (hxl : x.length = 512)  :
    Con Tryz.prog 131 #[.pointer (some ⟨b, 0, none⟩), .int .i64 ((u : Int) + 1), .int .i64 4, .int .u32 n] E l (fun _ : Unit => .tuple #[]) (fun _ => blk b 138 [.pointer (some ⟨mb, 0, none⟩), .int .i64 r.sq, .int .i64 r.cq, .int .i64 r.sb, .int .i64 r.cb, .int .u32 r.head, .int .u32 r.tail, v] :: memA mb (ms.set u (putB x 4 (le4 n))) :: m) := by
  refine Con.body (vs := [.pointer (some ⟨b, 0, none⟩), .int .i64 ((u : Int) + 1), .int .i64 4, .int .u32 n]) (n := 18) Tryz.func131 rfl rfl [(0, .pointer (some ⟨b, 0, none⟩)), (1, .int .i64 ((u : Int) + 1)), (2, .int .i64 4), (3, .int .u32 n)] (env_ok 4 rfl) <| J_picks2 hp <| J_drawL (some 9) mixed <| ip 0 rfl rfl rfl rfl (p_move rfl) <| ip 1 rfl rfl rfl rfl (p_nilCheck rfl) <| ip 2 rfl rfl rfl rfl (p_fieldAddr rfl fa138_0) <| iv 3 rfl rfl rfl rfl (fun _ => v_load rfl ty86 HS (by exact rfl)) ?_
  refine ip 4 rfl rfl rfl rfl (p_move rfl) <| ip 5 rfl rfl rfl rfl (p_move rfl) <| ip 7 rfl rfl rfl rfl (p_move rfl) <| i1 6 rfl <| x_make (len := 4) rfl rfl Tryz.underlying156 ty5 rfl rfl (by simp) (by simp) rfl rfl <| JE ((List.replicate 4 0).map encU) (by rfl) fun a14 c14 hw14 hl14 hm14 hz14 => i1 8 rfl <| x_call Tryz.func149 nm149 bd149 (.cons rfl (.cons rfl (.cons rfl .nil))) rfl (put32C (a := 0) (bs := List.replicate 4 0) (fun w H => sep_reads (xs := (List.replicate 4 (0 : Int)).map encU) HS H) (by decide) (by decide)) ?_
  refine JE ((le4 n).map encU) (by rfl) fun a16 c16 hw16 hl16 hm16 hz16 => i1 9 rfl <| x_call Tryz.func128 nm128 bd128 (.cons rfl (.cons rfl (.cons rfl (.cons rfl .nil)))) rfl (writeC (ms := ms) (u := u) (r := x) (off := 4) (ys := le4 n) PC hms hu hxl (fun w H => sep_reads (xs := (le4 n).map encU) HS H) (by simp [le4])) fun _ => ?_
  refine i0 <| J_endnormal ?_
  exact J_return (()) Tryz.results131 .nil rfl SU

set_option maxRecDepth 100000 in
set_option maxHeartbeats 4000000 in
theorem ringRoom {E : World} {l m : List As} {b mb : Nat} {v : Value} {r : Rg} {ms : List (List Int)} (hp : Picks [blk b 138 [.pointer (some ⟨mb, 0, none⟩), .int .i64 r.sq, .int .i64 r.cq, .int .i64 r.sb, .int .i64 r.cb, .int .u32 r.head, .int .u32 r.tail, v], memA mb ms] l m) (hR : RgOk r) (hM : MemOk ms) :
    Con Tryz.prog 127 #[.pointer (some ⟨b, 0, none⟩)] E l (fun _ : Unit => .tuple #[.int .i64 (rgRoom r ms), .bool (!decide (rgFar r ms > 2 ^ r.cb.toNat))]) (fun _ => blk b 138 [.pointer (some ⟨mb, 0, none⟩), .int .i64 r.sq, .int .i64 r.cq, .int .i64 r.sb, .int .i64 r.cb, .int .u32 r.head, .int .u32 r.tail, v] :: memA mb ms :: m) := by
  refine Con.body (vs := [.pointer (some ⟨b, 0, none⟩)]) (n := 29) Tryz.func127 rfl rfl [(0, .pointer (some ⟨b, 0, none⟩))] (env_ok 1 rfl) <| J_picks2 hp ?_
  obtain ⟨hu, hxl, hB⟩ := hM.at hR.cq
  obtain ⟨x, hx⟩ : ∃ x, x = rowAt ms r.cq := ⟨_, rfl⟩
  obtain ⟨u, huq⟩ : ∃ u : Nat, r.cq = (u : Int) + 1 := ⟨(r.cq - 1).toNat, by have := hR.cq; omega⟩
  have hu1 : (r.cq - 1).toNat = u := by omega
  rw [← hx, hu1] at hu
  rw [← hx] at hxl hB
  have hcb := pow_cb hR.cb
  have hcr := hR.cb
  refine sr <| ag rfl rfl <| ag rfl rfl <| nq <| J_seq <| J_drawL none mixed <| ip 0 rfl rfl rfl rfl (p_move rfl) <| ip 1 rfl rfl rfl rfl (p_nilCheck rfl) ?_
  refine ip 2 rfl rfl rfl rfl (p_fieldAddr rfl fa138_6) <| iv 3 rfl rfl rfl rfl (fun _ => v_load rfl ty37 HS (by exact rfl)) ?_
  refine ip 4 rfl rfl rfl rfl (p_move rfl) <| ip 5 rfl rfl rfl rfl (p_move rfl) <| ip 6 rfl rfl rfl rfl (p_nilCheck rfl) <| ip 7 rfl rfl rfl rfl (p_fieldAddr rfl fa138_2) <| iv 8 rfl rfl rfl rfl (fun _ => v_load rfl ty3 HS (by exact rfl)) ?_
  refine J_slot (t := 14) (v := .int .i64 ((u : Int) + 1)) rfl (by rw [huq]) <| ip 11 rfl rfl rfl rfl (p_move rfl) <| ip 12 rfl rfl rfl rfl (p_nilCheck rfl) <| ip 13 rfl rfl rfl rfl (p_fieldAddr rfl fa138_4) <| iv 14 rfl rfl rfl rfl (fun _ => v_load rfl ty3 HS (by exact rfl)) ?_
  refine ip 15 rfl rfl rfl rfl (p_shl rfl rfl (by omega) (by have : (IntKind.u32.bits : Int) = 32 := rfl; omega)) <| J_slot (t := 21) (v := .int .u32 (2 ^ r.cb.toNat)) rfl (by rw [hcb.2.2]) <| i1 9 rfl <| x_call Tryz.func146 nm146 bd146 (.cons rfl (.cons rfl (.cons rfl .nil))) rfl (ringWord (r := r) (ms := ms) (x := x) (u := u) PX hM.len hu hxl hB) fun _ => ?_
  refine i1 10 rfl <| x_call Tryz.func145 nm145 bd145 (.cons rfl (.cons rfl .nil)) rfl (distC) fun _ => J_slot (t := 16) (v := .int .u32 (rgFar r ms)) rfl (by unfold rgFar; rw [← hx]) <| ip 16 rfl rfl rfl rfl (p_assign rfl) <| ip 17 rfl rfl rfl rfl (p_assign rfl) <| i0 <| Q_then <| J_seq ?_
  refine sr <| mv rfl rfl <| mv rfl rfl <| L_pur rfl (p_gtr rfl rfl) <| nq ?_
  refine C_dec rfl (fun h24 => ?_) (fun h24 => ?_)
  ·
    refine sr <| ag rfl rfl <| ag rfl rfl <| nq <| J_ret <| Q_then_ret ?_
    refine J_return (()) Tryz.results127 (.tmp rfl (.tmp rfl .nil)) ?_ ?_
    · simp [one, rgRoom, h24]
    · exact SU
  ·
    have hfar := wrap32_in (r.tail - getN (rowAt ms r.cq) 0 4)
    have hfe : rgFar r ms = IntKind.u32.wrap (r.tail - getN (rowAt ms r.cq) 0 4) := rfl
    refine J_skip <| qx <| mv rfl rfl <| mv rfl rfl <| L_pur rfl (p_sub rfl rfl) <| L_pur rfl (p_conv rfl Tryz.underlying37 Tryz.underlying3) <| J_slot (t := 28) (v := .int .i64 (2 ^ r.cb.toNat - rgFar r ms)) rfl (by rw [wrap32u_of (by omega), wrap64_of (by omega)]) <| ag rfl rfl ?_
    refine ag rfl rfl <| nq <| J_ret ?_
    refine J_return (()) Tryz.results127 (.tmp rfl (.tmp rfl .nil)) ?_ ?_
    · simp [one, rgRoom, h24]
    · exact SU

set_option maxRecDepth 100000 in
set_option maxHeartbeats 4000000 in
theorem ringWrites {E : World} {l m : List As} {b mb : Nat} {v : Value} {r : Rg} {ms : List (List Int)} (hp : Picks [blk b 138 [.pointer (some ⟨mb, 0, none⟩), .int .i64 r.sq, .int .i64 r.cq, .int .i64 r.sb, .int .i64 r.cb, .int .u32 r.head, .int .u32 r.tail, v], memA mb ms] l m) {c : Cqe} (hR : RgOk r) (hM : MemOk ms) :
    Con Tryz.prog 97 #[.pointer (some ⟨b, 0, none⟩), .agg (encX c).toArray] E l (fun _ : Unit => .bool (rgWrOk r ms)) (fun _ => blk b 138 [.pointer (some ⟨mb, 0, none⟩), .int .i64 (if rgWrOk r ms then rgUp r else r).sq, .int .i64 (if rgWrOk r ms then rgUp r else r).cq, .int .i64 (if rgWrOk r ms then rgUp r else r).sb, .int .i64 (if rgWrOk r ms then rgUp r else r).cb, .int .u32 (if rgWrOk r ms then rgUp r else r).head, .int .u32 (if rgWrOk r ms then rgUp r else r).tail, v] :: memA mb (if rgWrOk r ms then ms.set (r.cq - 1).toNat (rgRow r ms c) else ms) :: m) := by
  refine Con.body (vs := [.pointer (some ⟨b, 0, none⟩), .agg (encX c).toArray]) (n := 55) Tryz.func97 rfl rfl [(0, .pointer (some ⟨b, 0, none⟩)), (1, .agg (encX c).toArray)] (env_ok 2 rfl) <| J_picks2 hp ?_
  obtain ⟨hu, hxl, hB⟩ := hM.at hR.cq
  obtain ⟨x, hx⟩ : ∃ x, x = rowAt ms r.cq := ⟨_, rfl⟩
  obtain ⟨u, huq⟩ : ∃ u : Nat, r.cq = (u : Int) + 1 := ⟨(r.cq - 1).toNat, by have := hR.cq; omega⟩
  have hu1 : (r.cq - 1).toNat = u := by omega
  rw [← hx, hu1] at hu
  rw [← hx] at hxl hB
  have hcb := pow_cb hR.cb
  have hcr := hR.cb
  refine sr <| L_op <| x_box rfl rfl rfl fun b3 => ag rfl rfl <| nxx <| mv rfl rfl <| L_op <| x_call Tryz.func127 nm127 bd127 (.cons rfl .nil) rfl (ringRoom (r := r) (ms := ms) PX hR hM) fun _ => ?_
  refine mv rfl rfl <| L_pur rfl (p_extract rfl rfl) <| L_pur rfl (p_extract rfl rfl) <| ag rfl rfl <| ag rfl rfl <| nx <| mv rfl rfl <| L_pur rfl (p_not rfl) ?_
  refine mv rfl rfl ?_
  refine J_gsplit (t := 14) rfl (fun h14 => ?_) (fun h14 => ?_)
  ·
    have hno : rgWrOk r ms = false := by unfold rgWrOk; simp at h14 ⊢; omega
    refine L_op <| G_off rfl rfl rfl rfl rfl rfl <| L_op <| G_off rfl rfl rfl rfl rfl rfl <| L_pur rfl (p_pick_t rfl rfl) <| nq <| C_true rfl <| sr ?_
    refine ag rfl rfl <| nq <| J_ret <| Q_then_ret <| J_pick (A := blk b _ _) PC ?_
    refine J_asTo (B := blk b 138 [.pointer (some ⟨mb, 0, none⟩), .int .i64 (if rgWrOk r ms then rgUp r else r).sq, .int .i64 (if rgWrOk r ms then rgUp r else r).cq, .int .i64 (if rgWrOk r ms then rgUp r else r).sb, .int .i64 (if rgWrOk r ms then rgUp r else r).cb, .int .u32 (if rgWrOk r ms then rgUp r else r).head, .int .u32 (if rgWrOk r ms then rgUp r else r).tail, v]) (by rw [hno, if_neg (by decide)]) <| J_pick (A := memA mb _) PC ?_
    refine J_asTo (B := memA mb (if rgWrOk r ms then ms.set (r.cq - 1).toNat (rgRow r ms c) else ms)) (by rw [hno, if_neg (by decide)]) ?_
    refine J_return (()) Tryz.results97 (.tmp rfl .nil) ?_ ?_
    · simp [one, hno]
    · exact SU
  ·
    refine L_op <| G_on rfl rfl rfl <| J_pur (p_move rfl) rfl rfl rfl <| L_op <| G_on rfl rfl rfl <| J_pur (p_lss rfl rfl) rfl rfl rfl <| L_pur rfl (p_pick_f rfl rfl) <| nq ?_
    refine C_dec rfl (fun h17 => ?_) (fun h17 => ?_)
    ·
      have hno : rgWrOk r ms = false := by unfold rgWrOk rgRoom at *; simp at h14 h17 ⊢; split at h17 <;> omega
      refine sr <| ag rfl rfl <| nq <| J_ret <| Q_then_ret <| J_pick (A := blk b _ _) PC ?_
      refine J_asTo (B := blk b 138 [.pointer (some ⟨mb, 0, none⟩), .int .i64 (if rgWrOk r ms then rgUp r else r).sq, .int .i64 (if rgWrOk r ms then rgUp r else r).cq, .int .i64 (if rgWrOk r ms then rgUp r else r).sb, .int .i64 (if rgWrOk r ms then rgUp r else r).cb, .int .u32 (if rgWrOk r ms then rgUp r else r).head, .int .u32 (if rgWrOk r ms then rgUp r else r).tail, v]) (by rw [hno, if_neg (by decide)]) <| J_pick (A := memA mb _) PC ?_
      refine J_asTo (B := memA mb (if rgWrOk r ms then ms.set (r.cq - 1).toNat (rgRow r ms c) else ms)) (by rw [hno, if_neg (by decide)]) ?_
      refine J_return (()) Tryz.results97 (.tmp rfl .nil) ?_ ?_
      · simp [one, hno]
      · exact SU
    ·
      have hyes : rgWrOk r ms = true := by unfold rgWrOk rgRoom at *; simp at h14 h17 ⊢; split at h17 <;> omega
      have hpl := place_in hR
      obtain ⟨off, hoff⟩ : ∃ off : Nat, 16 + r.tail % 2 ^ r.cb.toNat * 16 = (off : Int) := ⟨(16 + r.tail % 2 ^ r.cb.toNat * 16).toNat, by omega⟩
      obtain ⟨y, hy⟩ : ∃ y, y = putB x off (bytesX c) := ⟨_, rfl⟩
      have hyl : y.length = 512 := by rw [hy, putB_len (by rw [bytesX_len]; omega), hxl]
      have hul : u < ms.length := (List.getElem?_eq_some_iff.1 hu).1
      have hrow : rgRow r ms c = putB y 4 (le4 (IntKind.u32.wrap (r.tail + 1))) := by unfold rgRow; rw [← hx, hoff, Int.toNat_natCast, ← hy]
      refine J_skip <| Q_then <| J_seq <| J_drawL (some 19) mixed <| ip 0 rfl rfl rfl rfl (p_move rfl) <| ip 1 rfl rfl rfl rfl (p_nilCheck rfl) <| ip 2 rfl rfl rfl rfl (p_fieldAddr rfl fa138_0) <| iv 3 rfl rfl rfl rfl (fun _ => v_load rfl ty86 HS (by exact rfl)) ?_
      refine ip 4 rfl rfl rfl rfl (p_move rfl) <| ip 5 rfl rfl rfl rfl (p_nilCheck rfl) <| ip 6 rfl rfl rfl rfl (p_fieldAddr rfl fa138_2) <| iv 7 rfl rfl rfl rfl (fun _ => v_load rfl ty3 HS (by exact rfl)) ?_
      refine J_slot (t := 25) (v := .int .i64 ((u : Int) + 1)) rfl (by rw [huq]) <| ip 8 rfl rfl rfl rfl (p_move rfl) <| ip 9 rfl rfl rfl rfl (p_nilCheck rfl) <| ip 10 rfl rfl rfl rfl (p_fieldAddr rfl fa138_6) <| iv 11 rfl rfl rfl rfl (fun _ => v_load rfl ty37 HS (by exact rfl)) ?_
      refine ip 12 rfl rfl rfl rfl (p_move rfl) <| ip 13 rfl rfl rfl rfl (p_nilCheck rfl) <| ip 14 rfl rfl rfl rfl (p_fieldAddr rfl fa138_4) <| iv 15 rfl rfl rfl rfl (fun _ => v_load rfl ty3 HS (by exact rfl)) ?_
      refine J_slot (t := 33) (v := .int .i64 (r.cb.toNat : Int)) rfl (by rw [Int.toNat_of_nonneg hcr.1]) <| iv 17 rfl rfl rfl rfl (fun _ => v_loadA rfl ty175 HS CT) ?_
      refine i1 16 rfl <| x_call Tryz.func129 nm129 bd129 (.cons rfl (.cons rfl (.cons rfl .nil))) rfl (placeC (k := r.cb.toNat) (n := r.tail) (by omega) hR.tail) fun _ => J_slot (t := 34) (v := .int .i64 (off : Int)) rfl (by rw [← hoff]) <| i1 18 rfl <| x_call Tryz.func130 nm130 bd130 (.cons rfl .nil) rfl (bytesC) <| JR fun a36 c36 hw36 hl36 hm36 hz36 => i1 19 rfl ?_
      refine x_call Tryz.func128 nm128 bd128 (.cons rfl (.cons rfl (.cons rfl (.cons rfl .nil)))) rfl (writeC (ms := ms) (u := u) (r := x) (off := off) (ys := bytesX c) PC hM.len hu hxl (fun w H => sep_reads (xs := (bytesX c).map encU) HS H) (by rw [bytesX_len]; omega)) fun _ => ?_
      refine J_pick (A := memA mb _) PC ?_
      refine J_asTo (B := memA mb (ms.set u y)) (by rw [hy]) <| i0 <| qx <| mv rfl rfl <| nc rfl rfl <| fa rfl rfl fa138_6 <| L_val rfl (v_load rfl ty37 HS (by exact rfl)) ?_
      refine L_pur rfl (p_add rfl rfl) <| J_slot (t := 42) (v := .int .u32 (rgUp r).tail) rfl rfl <| nc rfl rfl <| fa rfl rfl fa138_6 <| L_op <| x_store rfl rfl ty37 rfl SM SM RO PT ?_
      refine J_pick (A := blk b _ _) PC ?_
      refine J_asTo (B := blk b 138 [.pointer (some ⟨mb, 0, none⟩), .int .i64 (rgUp r).sq, .int .i64 (rgUp r).cq, .int .i64 (rgUp r).sb, .int .i64 (rgUp r).cb, .int .u32 (rgUp r).head, .int .u32 (rgUp r).tail, v]) (by rfl) <| nq <| J_seq <| J_drawT 9 mixed (by kernel_rfl) <| sm rfl rfl <| sm rfl rfl <| sp rfl (p_nilCheck rfl) <| sp rfl (p_fieldAddr rfl fa138_2) ?_
      refine S_val rfl (v_load rfl ty3 HS (by exact rfl)) ?_
      refine J_slot (t := 49) (v := .int .i64 ((u : Int) + 1)) rfl (by rw [← huq]; rfl) <| sm rfl rfl <| sp rfl (p_nilCheck rfl) <| sp rfl (p_fieldAddr rfl fa138_6) <| S_val rfl (v_load rfl ty37 HS (by exact rfl)) ?_
      refine S_nil ?_
      refine L_op (x_call Tryz.func131 nm131 bd131 (.cons rfl (.cons rfl (.cons rfl (.cons rfl .nil)))) rfl (ringPuts (r := rgUp r) (ms := ms.set u y) (x := y) (u := u) (n := (rgUp r).tail) PX (by rw [List.length_set, hM.len]) (by rw [List.getElem?_set_self hul]) hyl) fun _ => ?_)
      refine J_pick (A := memA mb _) PC ?_
      refine J_asTo (B := memA mb (ms.set u (rgRow r ms c))) (by rw [List.set_set, hrow]; rfl) <| nx <| ag rfl rfl <| nq <| J_ret <| J_pick (A := blk b _ _) PC ?_
      refine J_asTo (B := blk b 138 [.pointer (some ⟨mb, 0, none⟩), .int .i64 (if rgWrOk r ms then rgUp r else r).sq, .int .i64 (if rgWrOk r ms then rgUp r else r).cq, .int .i64 (if rgWrOk r ms then rgUp r else r).sb, .int .i64 (if rgWrOk r ms then rgUp r else r).cb, .int .u32 (if rgWrOk r ms then rgUp r else r).head, .int .u32 (if rgWrOk r ms then rgUp r else r).tail, v]) (by rw [hyes, if_pos rfl]) <| J_pick (A := memA mb _) PC ?_
      refine J_asTo (B := memA mb (if rgWrOk r ms then ms.set (r.cq - 1).toNat (rgRow r ms c) else ms)) (by rw [hyes, if_pos rfl, hu1]) ?_
      refine J_return (()) Tryz.results97 (.tmp rfl .nil) ?_ ?_
      · simp [one, hyes]
      · exact SU

end Go.Pse
