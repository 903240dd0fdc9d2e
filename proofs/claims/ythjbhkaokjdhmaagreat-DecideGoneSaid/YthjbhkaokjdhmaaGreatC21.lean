/-
  Words in bytes, completions as bytes: contracts.
-/
import Derived.Test.YthjbhkaokjdhmaaGreatC20
import Derived.Laws.BitsAllLaws
namespace Go.Pse
open Go.RowKit Go.Proofs

/-! ### plain: numbers in bytes -/
def le4 (n : Int) : List Int := [n % 256, n / 256 % 256, n / 65536 % 256, n / 16777216 % 256]
def putB (bs : List Int) (a : Nat) (ys : List Int) : List Int := bs.take a ++ ys ++ bs.drop (a + ys.length)
def byteAt (bs : List Int) (k : Nat) : Int := (bs[k]?).getD 0
def getN (bs : List Int) (a : Nat) : Nat → Int
  | 0 => 0
  | i + 1 => getN bs a i + byteAt bs (a + i) * 2 ^ (8 * i)
def Bytes (bs : List Int) : Prop := ∀ x ∈ bs, 0 ≤ x ∧ x ≤ 255
theorem byteAt_is {bs : List Int} (h : Bytes bs) (k : Nat) : 0 ≤ byteAt bs k ∧ byteAt bs k ≤ 255 := by
  unfold byteAt
  cases hk : bs[k]? with
  | none => simp
  | some x => exact h x (List.mem_of_getElem? hk)
theorem getN_is {bs : List Int} (h : Bytes bs) (a : Nat) : ∀ i, 0 ≤ getN bs a i ∧ getN bs a i < 2 ^ (8 * i)
  | 0 => by simp [getN]
  | i + 1 => by
    have h1 := getN_is h a i
    have h2 := byteAt_is h (a + i)
    have h3 : (2 : Int) ^ (8 * (i + 1)) = 256 * 2 ^ (8 * i) := by rw [show 8 * (i + 1) = 8 * i + 8 by omega, Int.pow_add]; omega
    have h4 : (0 : Int) < 2 ^ (8 * i) := Int.pow_pos (by omega)
    have h5 : byteAt bs (a + i) * 2 ^ (8 * i) ≤ 255 * 2 ^ (8 * i) := Int.mul_le_mul_of_nonneg_right h2.2 (by omega)
    have h6 : 0 ≤ byteAt bs (a + i) * 2 ^ (8 * i) := Int.mul_nonneg h2.1 (by omega)
    rw [getN, h3]
    omega
theorem or_nat {x y : Nat} (k : Nat) (hx : x < 2 ^ k) (hs : y * 2 ^ k < 4294967296) (hxs : x < 4294967296) : bits .or .u32 (x : Int) ((y * 2 ^ k : Nat) : Int) = ((x + y * 2 ^ k : Nat) : Int) := by
  rw [u32_or_nat x _ hxs hs, Nat.or_comm, Nat.mul_comm y, ← Nat.two_pow_add_eq_or_of_lt hx, Nat.add_comm]
theorem or_step {x y : Int} {i : Nat} (hi : i < 4) (hx : 0 ≤ x ∧ x < 2 ^ (8 * i)) (hy : 0 ≤ y ∧ y ≤ 255) : bits .or .u32 x (IntKind.u32.wrap (IntKind.u32.wrap y * 2 ^ (8 * (i : Int)).toNat)) = x + y * 2 ^ (8 * i) := by
  obtain ⟨h1, h2⟩ := hx
  obtain ⟨X, rfl⟩ := Int.eq_ofNat_of_zero_le h1
  obtain ⟨Y, rfl⟩ := Int.eq_ofNat_of_zero_le hy.1
  rw [show (8 * (i : Int)).toNat = 8 * i by omega, wrap32u_of (a := (Y : Int)) (by omega)]
  have hX : X < 2 ^ (8 * i) := by exact_mod_cast h2
  have e : ((Y : Int) * 2 ^ (8 * i)) = ((Y * 2 ^ (8 * i) : Nat) : Int) := by push_cast; rfl
  rw [e]
  have hb : Y * 2 ^ (8 * i) < 4294967296 ∧ X < 4294967296 := by
    have : i = 0 ∨ i = 1 ∨ i = 2 ∨ i = 3 := by omega
    rcases this with rfl | rfl | rfl | rfl <;> simp at hX ⊢ <;> omega
  rw [wrap32u_of (by omega), or_nat _ hX hb.1 hb.2]
  push_cast; rfl
theorem putB_nil {bs : List Int} {a : Nat} : putB bs a [] = bs := by simp [putB]
theorem putB_len {bs ys : List Int} {a : Nat} (h : a + ys.length ≤ bs.length) : (putB bs a ys).length = bs.length := by
  simp [putB]; omega
theorem putB_snoc {bs ys : List Int} {a : Nat} {y : Int} (h : a + ys.length < bs.length) : (putB bs a ys).set (a + ys.length) y = putB bs a (ys ++ [y]) := by
  unfold putB
  rw [List.drop_eq_getElem_cons h, List.set_append_right _ _ (by simp; omega), show a + ys.length - (List.take a bs ++ ys).length = 0 by simp; omega, List.set_cons_zero]
  simp [Nat.add_assoc]
theorem putB_bytes {bs ys : List Int} {a : Nat} (h : Bytes bs) (hy : Bytes ys) : Bytes (putB bs a ys) := fun x hx => by
  unfold putB at hx
  rcases List.mem_append.1 hx with h1 | h1
  · rcases List.mem_append.1 h1 with h2 | h2
    · exact h x (List.mem_of_mem_take h2)
    · exact hy x h2
  · exact h x (List.mem_of_mem_drop h1)
theorem le4_bytes (n : Int) : Bytes (le4 n) := fun x hx => by
  simp [le4] at hx
  rcases hx with rfl | rfl | rfl | rfl <;> omega
theorem le4_at (n : Int) {i : Nat} (h : i < 4) : (le4 n)[i]? = some (n / 2 ^ (8 * i) % 256) := by
  have : i = 0 ∨ i = 1 ∨ i = 2 ∨ i = 3 := by omega
  rcases this with rfl | rfl | rfl | rfl <;> simp [le4]
theorem wrap_u8 (n : Int) : IntKind.u8.wrap n = n % 256 := by simp [IntKind.wrap, IntKind.bits, IntKind.signed]
theorem put_step {bs : List Int} {a i : Nat} {n : Int} (hi : i < 4) (ha : a + 4 ≤ bs.length) :
    ((putB bs a ((le4 n).take i)).map encU).set ((a : Int) + (i : Int)).toNat [.int .u8 (IntKind.u8.wrap (n / 2 ^ (8 * (i : Int)).toNat))] = (putB bs a ((le4 n).take (i + 1))).map encU := by
  have hl : ((le4 n).take i).length = i := by simp [le4]; omega
  rw [List.take_add_one, le4_at n hi, Option.toList_some, ← putB_snoc (by omega), List.map_set, hl, show ((a : Int) + (i : Int)).toNat = a + i by omega, show (8 * (i : Int)).toNat = 8 * i by omega, wrap_u8]
  rfl
theorem getN_part {bs : List Int} {a : Nat} : getN ((bs.drop a).take 4) 0 4 = getN bs a 4 := by
  have h : ∀ k, k < 4 → byteAt ((bs.drop a).take 4) (0 + k) = byteAt bs (a + k) := fun k hk => by
    unfold byteAt; rw [List.getElem?_take_of_lt (by omega), List.getElem?_drop]; simp
  simp only [getN, h 0 (by omega), h 1 (by omega), h 2 (by omega), h 3 (by omega)]
theorem part_bytes {bs : List Int} {a n : Nat} (h : Bytes bs) : Bytes ((bs.drop a).take n) := fun x hx => h x (List.mem_of_mem_drop (List.mem_of_mem_take hx))
set_option maxRecDepth 100000 in
set_option maxHeartbeats 4000000 in
theorem clone166 {E : World} {l : List As} {v : Value} {xs : List (List Value)} (hr : ∀ w, Sep E w l → Reads w 1 v xs) (hb : xs.length ≤ 1000000) :
  Con Tryz.prog 166 #[v] E l (fun v' : Value => v') (fun v' => row 5 1 v' xs :: l) := by
 refine Con.body (vs := [v]) (n := 8) Tryz.func166 rfl rfl [(0, v)] (env_ok 1 rfl) <| J_reads hr fun hw a cap hv h1 h2 h3 => ?_
 subst hv
 refine sr <| ag rfl rfl <| nxx <| mv rfl rfl <| L_pur rfl (p_eqnil Tryz.underlying156 rfl) <| nq ?_
 refine C_split rfl (fun h4 => ?_) (fun h4 => ?_)
 ·
  obtain rfl : a = none := by simpa using h4
  obtain ⟨rfl, rfl⟩ := h3 rfl
  refine J_nil (el := 5) (sz := 1) <| sr <| ag rfl rfl <| nq <| J_ret <| Q_then_ret ?_
  exact J_return (_) Tryz.results166 (.tmp rfl .nil) rfl SU
 ·
  refine J_skip <| qx <| L_op <| x_lit (vals := []) Tryz.underlying156 ty5 rfl .nil .nil Wf.nil rfl (by decide) rfl rfl <| JR fun a5 c5 hw5 hl5 hm5 hz5 => mv rfl rfl <| L_op <| x_app rfl rfl Tryz.underlying156 ty5 rfl rfl PC (fun w H => hr w H.tail) (OM) (OM) rfl ?_
  refine JR fun a7 c7 hw7 hl7 hm7 hz7 => ag rfl rfl <| nq <| J_ret ?_
  exact J_return (_) Tryz.results166 (.tmp rfl .nil) rfl SU

set_option maxRecDepth 100000 in
set_option maxHeartbeats 4000000 in
theorem getC {E : World} {l : List As} {v : Value} {bs : List Int} {a : Nat} (hr : ∀ w, Sep E w l → Reads w 1 v (bs.map encU)) (ha : a + 4 ≤ bs.length) (hl : bs.length ≤ 1000000) (hB : Bytes bs) :
    Con Tryz.prog 167 #[v, .int .i64 (a : Int), .int .i64 4] E l (fun _ : Unit => .int .u32 (getN bs a 4)) (fun _ => l) := by
  refine Con.body (vs := [v, .int .i64 (a : Int), .int .i64 4]) (n := 39) Tryz.func167 rfl rfl [(0, v), (1, .int .i64 (a : Int)), (2, .int .i64 4)] (env_ok 3 rfl) <| J_readsB hr fun hw ad cap hv h1 h2 h3 => ?_
  subst hv
  have hm : cap ≤ 9223372036854775807 := h2
  have hml : (bs.map encU).length = bs.length := List.length_map _
  refine sr <| ag rfl rfl <| nx <| ag rfl rfl <| nxx <| mv rfl rfl <| mv rfl rfl <| nq ?_
  refine J_block <| J_loop (α := Nat) (fun i => i ≤ 4) (fun _ => l) (fun i => [(10, .int .i64 (i : Int)), (9, .int .i64 4), (7, .int .u32 (getN bs a i)), (0, .slice ad (bs.map encU).length cap), (1, .int .i64 (a : Int))]) (fun i => 4 - i) 0 (by omega) SU KE ?_
  intro i hi
  refine sr <| L_pur rfl (p_lss rfl rfl) <| nq <| J_seq ?_
  refine C_dec rfl (fun h11 => ?_) (fun h11 => ?_)
  ·
    have hlt : a + i < bs.length := by omega
    obtain ⟨bx, ox, rfl⟩ := h3 (by intro h; rw [h] at hml; simp at hml; omega)
    obtain ⟨c, hcc⟩ : ∃ c, bs[a + i]? = some c := ⟨_, List.getElem?_eq_getElem hlt⟩
    have hcB := hB c (List.mem_of_getElem? hcc)
    have hgN := getN_is hB a i
    refine J_skip <| Q_then <| J_seq <| J_block <| sr <| mv rfl rfl <| ag rfl rfl <| nx ?_
    refine mv rfl rfl <| mv rfl rfl <| L_pur rfl (p_neg64 rfl (by omega)) <| L_pur rfl (p_geq rfl rfl) <| mv rfl rfl <| J_bool (t := 17) (c := true) rfl (by first | (simp; omega) | simp) <| L_op <| G_on rfl rfl rfl ?_
    refine J_pur (p_move rfl) rfl rfl rfl <| L_op <| G_on rfl rfl rfl <| J_pur (p_move rfl) rfl rfl rfl <| L_op <| G_on rfl rfl rfl <| J_pur (p_len rfl Tryz.underlying156) rfl rfl rfl <| L_op <| G_on rfl rfl rfl ?_
    refine J_pur (p_move rfl) rfl rfl rfl <| L_op <| G_on rfl rfl rfl <| J_pur (p_sub64 rfl rfl (by omega)) rfl rfl rfl <| L_op <| G_on rfl rfl rfl <| J_pur (p_lss rfl rfl) rfl rfl rfl <| L_pur rfl (p_pick_t rfl rfl) ?_
    refine nq <| J_bool (t := 24) (c := true) rfl (by first | (simp; omega) | simp) <| C_true rfl <| J_region <| mv rfl rfl <| mv rfl rfl <| mv rfl rfl <| mv rfl rfl ?_
    refine L_pur rfl (p_add64 rfl rfl (by omega)) <| L_pur rfl (p_indexAddr rfl rfl Tryz.underlying156 ty5 (by omega) (by simp; omega)) ?_
    refine L_val rfl (v_loadR1 rfl ty5 (fun w H => hr w H) (by rw [show ((a : Int) + (i : Int)).toNat = a + i by omega, List.getElem?_map, hcc]; rfl)) ?_
    refine L_pur rfl (p_conv rfl Tryz.underlying5 Tryz.underlying37) <| mv rfl rfl <| L_pur rfl (p_mul64 rfl rfl (by omega)) <| L_pur rfl (p_shl rfl rfl (by omega) (by have : (IntKind.u32.bits : Int) = 32 := rfl; omega)) <| L_pur rfl (p_or rfl rfl) <| J_slot (t := 36) (v := .int .u32 (getN bs a (i + 1))) rfl (by rw [or_step (by omega) hgN hcB, getN, byteAt, hcc]; rfl) <| ag rfl rfl <| L_nil ?_
    refine Q_blk_normal <| qr <| L_pur rfl (p_add64 rfl rfl (by omega)) <| mv rfl rfl <| nq ?_
    exact J_again (i + 1) (by omega) (by omega) SU KE
  ·
    have hi4 : i = 4 := by omega
    subst hi4
    refine J_exit <| Q_then_exit <| Q_then_exit <| Q_blk_this <| qx <| mv rfl rfl <| ag rfl rfl <| nq ?_
    refine J_ret ?_
    refine J_return (()) Tryz.results167 (.tmp rfl .nil) ?_ ?_
    · rfl
    · exact SU

set_option maxRecDepth 100000 in
set_option maxHeartbeats 4000000 in
theorem putC {E : World} {l : List As} {v : Value} {bs : List Int} {a : Nat} (hr : ∀ w, Sep E w l → Reads w 1 v (bs.map encU)) (ha : a + 4 ≤ bs.length) (hl : bs.length ≤ 1000000) {n : Int} :
  Con Tryz.prog 156 #[v, .int .i64 (a : Int), .int .i64 4, .int .u32 n] E l (fun v' : Value => v') (fun v' => row 5 1 v' ((putB bs a (le4 n)).map encU) :: l) := by
 refine Con.body (vs := [v, .int .i64 (a : Int), .int .i64 4, .int .u32 n]) (n := 41) Tryz.func156 rfl rfl [(0, v), (1, .int .i64 (a : Int)), (2, .int .i64 4), (3, .int .u32 n)] (env_ok 4 rfl) <| J_readsB hr fun hw ad cap hv h1 h2 h3 => ?_
 subst hv
 have hm : cap ≤ 9223372036854775807 := h2
 have hml : (bs.map encU).length = bs.length := List.length_map _
 refine sr <| ag rfl rfl <| nx <| mv rfl rfl <| L_op <| x_call Tryz.func166 nm166 bd166 (.cons rfl .nil) rfl (clone166 (xs := bs.map encU) (fun w H => hr w H) (by simpa using hl)) <| JR fun a12 c12 hw12 hl12 hm12 hz12 => ?_
 obtain ⟨bq, oq, rfl⟩ := hz12 (by intro h; rw [h] at hml; simp at hml; omega)
 have hmq : c12 ≤ 9223372036854775807 := hm12
 refine ag rfl rfl <| nxx <| mv rfl rfl <| mv rfl rfl <| J_pick (A := row 5 1 _ _) PC ?_
 refine J_rowEq (ys := (putB bs a ((le4 n).take 0)).map encU) (by rw [List.take_zero, putB_nil]) <| nq <| J_block <| J_loop (α := Nat) (fun i => i ≤ 4) (fun i => row 5 1 (.slice (some ⟨bq, oq, none⟩) (bs.map encU).length c12) ((putB bs a ((le4 n).take i)).map encU) :: l) (fun i => [(14, .int .i64 (i : Int)), (13, .int .i64 4), (9, .slice (some ⟨bq, oq, none⟩) (bs.map encU).length c12), (0, .slice ad (bs.map encU).length cap), (1, .int .i64 (a : Int)), (3, .int .u32 n)]) (fun i => 4 - i) 0 (by omega) SU KE ?_
 intro i hi
 refine sr <| L_pur rfl (p_lss rfl rfl) <| nq <| J_seq ?_
 refine C_dec rfl (fun h15 => ?_) (fun h15 => ?_)
 ·
  have hpl : ((putB bs a ((le4 n).take i)).map encU).length = bs.length := by rw [List.length_map, putB_len (by simp [le4]; omega)]
  refine J_skip <| Q_then <| J_seq <| J_block <| sr <| mv rfl rfl <| ag rfl rfl <| nx ?_
  refine mv rfl rfl <| mv rfl rfl <| L_pur rfl (p_neg64 rfl (by omega)) <| L_pur rfl (p_geq rfl rfl) <| mv rfl rfl <| J_bool (t := 21) (c := true) rfl (by first | (simp; omega) | simp) <| L_op <| G_on rfl rfl rfl ?_
  refine J_pur (p_move rfl) rfl rfl rfl <| L_op <| G_on rfl rfl rfl <| J_pur (p_move rfl) rfl rfl rfl <| L_op <| G_on rfl rfl rfl <| J_pur (p_len rfl Tryz.underlying156) rfl rfl rfl <| L_op <| G_on rfl rfl rfl ?_
  refine J_pur (p_move rfl) rfl rfl rfl <| L_op <| G_on rfl rfl rfl <| J_pur (p_sub64 rfl rfl (by omega)) rfl rfl rfl <| L_op <| G_on rfl rfl rfl <| J_pur (p_lss rfl rfl) rfl rfl rfl <| L_pur rfl (p_pick_t rfl rfl) ?_
  refine nq <| J_bool (t := 28) (c := true) rfl (by first | (simp; omega) | simp) <| C_true rfl <| J_region <| mv rfl rfl <| mv rfl rfl <| mv rfl rfl <| L_pur rfl (p_add64 rfl rfl (by omega)) ?_
  refine mv rfl rfl <| mv rfl rfl <| L_pur rfl (p_mul64 rfl rfl (by omega)) <| L_pur rfl (p_shr rfl rfl (by omega) (by have : (IntKind.u32.bits : Int) = 32 := rfl; omega)) <| L_pur rfl (p_conv rfl Tryz.underlying37 Tryz.underlying5) <| L_pur rfl (p_indexAddr rfl rfl Tryz.underlying156 ty5 (by omega) (by simp; omega)) <| L_op <| x_storeE rfl rfl ty5 rfl SM SM PC (by omega) ?_
  refine J_rowEq (ys := (putB bs a ((le4 n).take (i + 1))).map encU) (put_step (by omega) ha) <| L_nil <| Q_blk_normal <| qr <| L_pur rfl (p_add64 rfl rfl (by omega)) <| mv rfl rfl <| nq ?_
  exact J_again (i + 1) (by omega) (by omega) SU KE
 ·
  have hi4 : i = 4 := by omega
  subst hi4
  refine J_pick (A := row 5 1 _ _) PC ?_
  refine J_rowEq (ys := (putB bs a (le4 n)).map encU) (by rfl) <| J_exit <| Q_then_exit <| Q_then_exit <| Q_blk_this <| qx <| mv rfl rfl <| ag rfl rfl ?_
  refine nq <| J_ret ?_
  exact J_return (_) Tryz.results156 (.tmp rfl .nil) rfl SU

set_option maxRecDepth 100000 in
set_option maxHeartbeats 4000000 in
theorem u32C {E : World} {l : List As} {v : Value} {bs : List Int} {a : Nat} (hr : ∀ w, Sep E w l → Reads w 1 v (bs.map encU)) (ha : a + 4 ≤ bs.length) (hl : bs.length ≤ 1000000) (hB : Bytes bs) :
    Con Tryz.prog 154 #[v, .int .i64 (a : Int)] E l (fun _ : Unit => .int .u32 (getN bs a 4)) (fun _ => l) := by
  refine Con.body (vs := [v, .int .i64 (a : Int)]) (n := 8) Tryz.func154 rfl rfl [(0, v), (1, .int .i64 (a : Int))] (env_ok 2 rfl) <| sr <| ag rfl rfl <| nx <| mv rfl rfl <| mv rfl rfl <| L_op <| x_call Tryz.func167 nm167 bd167 (.cons rfl (.cons rfl (.cons rfl .nil))) rfl (getC hr ha hl hB) fun _ => ?_
  refine ag rfl rfl <| nq <| J_ret ?_
  exact J_return (()) Tryz.results154 (.tmp rfl .nil) rfl SU

set_option maxRecDepth 100000 in
set_option maxHeartbeats 4000000 in
theorem put32C {E : World} {l : List As} {v : Value} {bs : List Int} {a : Nat} (hr : ∀ w, Sep E w l → Reads w 1 v (bs.map encU)) (ha : a + 4 ≤ bs.length) (hl : bs.length ≤ 1000000) {n : Int} :
    Con Tryz.prog 149 #[v, .int .i64 (a : Int), .int .u32 n] E l (fun v' : Value => v') (fun v' => row 5 1 v' ((putB bs a (le4 n)).map encU) :: l) := by
  refine Con.body (vs := [v, .int .i64 (a : Int), .int .u32 n]) (n := 11) Tryz.func149 rfl rfl [(0, v), (1, .int .i64 (a : Int)), (2, .int .u32 n)] (env_ok 3 rfl) <| sr <| ag rfl rfl <| nx <| mv rfl rfl <| mv rfl rfl <| mv rfl rfl <| L_op <| x_call Tryz.func156 nm156 bd156 (.cons rfl (.cons rfl (.cons rfl (.cons rfl .nil)))) rfl (putC hr ha hl) ?_
  refine JR fun a10 c10 hw10 hl10 hm10 hz10 => ag rfl rfl <| nq <| J_ret ?_
  exact J_return (_) Tryz.results149 (.tmp rfl .nil) rfl SU

theorem shl32_small : ∀ k : Nat, k ≤ 8 → IntKind.u32.wrap (1 * 2 ^ (k : Int).toNat) = 2 ^ k ∧ IntKind.u32.wrap ((2 : Int) ^ k - 1) = 2 ^ k - 1 := by decide
theorem and_mask {n : Int} {k : Nat} (hk : k ≤ 8) (hn : 0 ≤ n ∧ n < 4294967296) : bits .and .u32 n (2 ^ k - 1) = n % 2 ^ k := by
  obtain ⟨X, rfl⟩ := Int.eq_ofNat_of_zero_le hn.1
  have h2 : 1 ≤ 2 ^ k ∧ 2 ^ k ≤ 256 := ⟨Nat.one_le_two_pow, by have : (2 : Nat) ^ k ≤ 2 ^ 8 := Nat.pow_le_pow_right (by omega) hk; omega⟩
  have e : ((2 : Int) ^ k - 1) = ((2 ^ k - 1 : Nat) : Int) := by rw [Int.ofNat_sub h2.1]; push_cast; rfl
  rw [e, u32_and_nat X _ (by omega) (by omega), Nat.and_two_pow_sub_one_eq_mod]
  push_cast; rfl
set_option maxRecDepth 100000 in
set_option maxHeartbeats 4000000 in
theorem maskC {E : World} {l : List As} {k : Nat} (hk : k ≤ 8) :
    Con Tryz.prog 155 #[.int .i64 0, .int .i64 (k : Int)] E l (fun _ : Unit => .int .u32 (2 ^ k - 1)) (fun _ => l) := by
  refine Con.body (vs := [.int .i64 0, .int .i64 (k : Int)]) (n := 21) Tryz.func155 rfl rfl [(0, .int .i64 0), (1, .int .i64 (k : Int))] (env_ok 2 rfl) <| sr <| ag rfl rfl <| nxx <| mv rfl rfl <| L_pur rfl (p_lss rfl rfl) <| mv rfl rfl <| J_bool (t := 7) (c := false) rfl (rfl) ?_
  refine L_op <| G_on rfl rfl rfl <| J_pur (p_move rfl) rfl rfl rfl <| L_op <| G_on rfl rfl rfl <| J_pur (p_geq rfl rfl) rfl rfl rfl <| L_pur rfl (p_pick_f rfl rfl) <| mv rfl rfl ?_
  refine J_bool (t := 11) (c := false) rfl (rfl) <| L_op <| G_on rfl rfl rfl <| J_pur (p_move rfl) rfl rfl rfl <| L_op <| G_on rfl rfl rfl <| J_pur (p_lss rfl rfl) rfl rfl rfl <| L_pur rfl (p_pick_f rfl rfl) ?_
  refine nq ?_
  refine C_split rfl (fun h14 => ?_) (fun h14 => ?_)
  ·
    obtain rfl : k = 0 := by simp at h14; omega
    refine sr <| ag rfl rfl <| nq <| J_ret <| Q_then_ret ?_
    refine J_return (()) Tryz.results155 (.tmp rfl .nil) ?_ ?_
    · rfl
    · exact SU
  ·
    have hk1 : 1 ≤ k := by simp at h14; omega
    refine J_skip <| qx <| mv rfl rfl <| mv rfl rfl <| L_pur rfl (p_sub64 rfl rfl (by omega)) <| L_pur rfl (p_min rfl rfl) <| J_slot (t := 18) (v := .int .i64 (k : Int)) rfl (by congr 1; simp; omega) <| L_pur rfl (p_shl rfl rfl (by omega) (by have : (IntKind.u32.bits : Int) = 32 := rfl; omega)) ?_
    refine J_slot (t := 19) (v := .int .u32 (2 ^ k)) rfl (by rw [(shl32_small k hk).1]) <| L_pur rfl (p_sub rfl rfl) <| J_slot (t := 20) (v := .int .u32 (2 ^ k - 1)) rfl (by rw [(shl32_small k hk).2]) <| ag rfl rfl <| nq <| J_ret ?_
    refine J_return (()) Tryz.results155 (.tmp rfl .nil) ?_ ?_
    · rfl
    · exact SU

set_option maxRecDepth 100000 in
set_option maxHeartbeats 4000000 in
theorem fieldC {E : World} {l : List As} {n : Int} {k : Nat} (hk : k ≤ 8) (hn : 0 ≤ n ∧ n < 4294967296) :
    Con Tryz.prog 148 #[.int .u32 n, .int .i64 0, .int .i64 (k : Int)] E l (fun _ : Unit => .int .u32 (n % 2 ^ k)) (fun _ => l) := by
  refine Con.body (vs := [.int .u32 n, .int .i64 0, .int .i64 (k : Int)]) (n := 18) Tryz.func148 rfl rfl [(0, .int .u32 n), (1, .int .i64 0), (2, .int .i64 (k : Int))] (env_ok 3 rfl) <| sr <| ag rfl rfl <| nx <| mv rfl rfl <| mv rfl rfl <| L_op <| x_call Tryz.func155 nm155 bd155 (.cons rfl (.cons rfl .nil)) rfl (maskC hk) fun _ => ?_
  refine ag rfl rfl <| nxx <| mv rfl rfl <| L_pur rfl (p_eql rfl rfl) <| nq ?_
  refine C_dec rfl (fun h12 => ?_) (fun h12 => ?_)
  ·
    have hk0 : n % 2 ^ k = 0 := by
      have : (2 : Int) ^ k = 1 := by omega
      rw [this]; omega
    refine sr <| ag rfl rfl <| nq <| J_ret <| Q_then_ret ?_
    refine J_return (()) Tryz.results148 (.tmp rfl .nil) ?_ ?_
    · rw [hk0]; rfl
    · exact SU
  ·
    refine J_skip <| qx <| mv rfl rfl <| mv rfl rfl <| L_pur rfl (p_shr rfl rfl (by omega) (by decide)) <| J_slot (t := 15) (v := .int .u32 n) rfl (by simp) <| mv rfl rfl <| L_pur rfl (p_and rfl rfl) ?_
    refine J_slot (t := 17) (v := .int .u32 (n % 2 ^ k)) rfl (by rw [and_mask hk hn]) <| ag rfl rfl <| nq <| J_ret ?_
    refine J_return (()) Tryz.results148 (.tmp rfl .nil) ?_ ?_
    · rfl
    · exact SU

theorem mod_small {n : Int} {k : Nat} (hk : k ≤ 4) : 0 ≤ n % 2 ^ k ∧ n % 2 ^ k ≤ 15 := by
  have h2 : (1 : Int) ≤ 2 ^ k ∧ (2 : Int) ^ k ≤ 16 := by
    have : k = 0 ∨ k = 1 ∨ k = 2 ∨ k = 3 ∨ k = 4 := by omega
    rcases this with rfl | rfl | rfl | rfl | rfl <;> decide
  have h3 := Int.emod_nonneg n (b := 2 ^ k) (by omega)
  have h4 := Int.emod_lt_of_pos n (b := 2 ^ k) (by omega)
  omega
set_option maxRecDepth 100000 in
set_option maxHeartbeats 4000000 in
theorem placeC {E : World} {l : List As} {n : Int} {k : Nat} (hk : k ≤ 4) (hn : 0 ≤ n ∧ n < 4294967296) :
    Con Tryz.prog 129 #[.int .u32 n, .int .i64 (k : Int), .int .i64 16] E l (fun _ : Unit => .int .i64 (16 + n % 2 ^ k * 16)) (fun _ => l) := by
  refine Con.body (vs := [.int .u32 n, .int .i64 (k : Int), .int .i64 16]) (n := 14) Tryz.func129 rfl rfl [(0, .int .u32 n), (1, .int .i64 (k : Int)), (2, .int .i64 16)] (env_ok 3 rfl) <| sr <| ag rfl rfl <| nx <| mv rfl rfl <| mv rfl rfl <| L_op <| x_call Tryz.func148 nm148 bd148 (.cons rfl (.cons rfl (.cons rfl .nil))) rfl (fieldC (k := k) (n := n) (by omega) hn) fun _ => ?_
  have hms := mod_small (n := n) hk
  refine L_pur rfl (p_conv rfl Tryz.underlying37 Tryz.underlying3) <| J_slot (t := 10) (v := .int .i64 (n % 2 ^ k)) rfl (by rw [wrap64_of (by omega)]) <| mv rfl rfl <| L_pur rfl (p_mul64 rfl rfl (by omega)) <| L_pur rfl (p_add64 rfl rfl (by omega)) <| ag rfl rfl <| nq <| J_ret ?_
  refine J_return (()) Tryz.results129 (.tmp rfl .nil) ?_ ?_
  · rfl
  · exact SU

set_option maxRecDepth 100000 in
set_option maxHeartbeats 4000000 in
theorem distC {E : World} {l : List As} {x y : Int} :
    Con Tryz.prog 145 #[.int .u32 x, .int .u32 y] E l (fun _ : Unit => .int .u32 (IntKind.u32.wrap (x - y))) (fun _ => l) := by
  refine Con.body (vs := [.int .u32 x, .int .u32 y]) (n := 8) Tryz.func145 rfl rfl [(0, .int .u32 x), (1, .int .u32 y)] (env_ok 2 rfl) <| sr <| ag rfl rfl <| nx <| mv rfl rfl <| mv rfl rfl <| L_pur rfl (p_sub rfl rfl) <| ag rfl rfl ?_
  refine nq <| J_ret ?_
  refine J_return (()) Tryz.results145 (.tmp rfl .nil) ?_ ?_
  · rfl
  · exact SU

def bytesX (c : Cqe) : List Int := le4 c.1 ++ le4 (IntKind.u32.wrap c.2.1) ++ le4 c.2.2.1 ++ le4 c.2.2.2
def z16 : List Int := List.replicate 16 0
theorem bytesX_len (c : Cqe) : (bytesX c).length = 16 := rfl
theorem bytesX_bytes (c : Cqe) : Bytes (bytesX c) := fun x hx => by
  simp only [bytesX, List.mem_append] at hx
  rcases hx with ((h | h) | h) | h <;> exact le4_bytes _ x h
theorem bytesX_put (c : Cqe) : putB (putB (putB (putB z16 0 (le4 c.1)) 4 (le4 (IntKind.u32.wrap c.2.1))) 8 (le4 c.2.2.1)) 12 (le4 c.2.2.2) = bytesX c := rfl
def ofD (d : Deed) : Cqe := (d.2.1, IntKind.i32.wrap d.2.2.2.1, d.2.2.2.2.1, IntKind.u32.wrap d.1.2)
set_option maxRecDepth 100000 in
set_option maxHeartbeats 4000000 in
theorem bytesC {E : World} {l : List As} {c : Cqe} :
    Con Tryz.prog 130 #[.agg (encX c).toArray] E l (fun v : Value => v) (fun v => row 5 1 v ((bytesX c).map encU) :: l) := by
  refine Con.body (vs := [.agg (encX c).toArray]) (n := 21) Tryz.func130 rfl rfl [(0, .agg (encX c).toArray)] (env_ok 1 rfl) <| sr <| L_op <| x_box rfl rfl rfl fun b1 => ag rfl rfl <| nq <| J_seq <| J_drawL none mixed ?_
  refine ip 1 rfl rfl rfl rfl (p_fieldAddr rfl fa175_0) <| iv 2 rfl rfl rfl rfl (fun _ => v_load rfl ty37 HS (by exact rfl)) ?_
  refine i1 0 rfl <| x_make (len := 16) rfl rfl Tryz.underlying156 ty5 rfl rfl (by simp) (by simp) rfl rfl <| JE (z16.map encU) (by rfl) fun a4 c4 hw4 hl4 hm4 hz4 => i1 3 rfl <| x_call Tryz.func149 nm149 bd149 (.cons rfl (.cons rfl (.cons rfl .nil))) rfl (put32C (a := 0) (bs := z16) (fun w H => sep_reads (xs := z16.map encU) HS H) (show 4 ≤ 16 by decide) (show 16 ≤ 1000000 by decide)) <| JR fun a7 c7 hw7 hl7 hm7 hz7 => ip 4 rfl rfl rfl rfl (p_assign rfl) <| i0 ?_
  refine qx <| mv rfl rfl <| fa rfl rfl fa175_1 <| L_val rfl (v_load rfl ty21 HS (by exact rfl)) ?_
  refine L_pur rfl (p_conv rfl Tryz.underlying21 Tryz.underlying37) <| L_op <| x_call Tryz.func149 nm149 bd149 (.cons rfl (.cons rfl (.cons rfl .nil))) rfl (put32C (a := 4) (bs := (putB z16 0 (le4 c.1))) (fun w H => sep_reads (xs := (putB z16 0 (le4 c.1)).map encU) HS H) (show 8 ≤ 16 by decide) (show 16 ≤ 1000000 by decide)) <| JR fun a12 c12 hw12 hl12 hm12 hz12 => ag rfl rfl <| nx <| mv rfl rfl <| fa rfl rfl fa175_2 ?_
  refine L_val rfl (v_load rfl ty37 HS (by exact rfl)) ?_
  refine L_op <| x_call Tryz.func149 nm149 bd149 (.cons rfl (.cons rfl (.cons rfl .nil))) rfl (put32C (a := 8) (bs := (putB (putB z16 0 (le4 c.1)) 4 (le4 (IntKind.u32.wrap c.2.1)))) (fun w H => sep_reads (xs := (putB (putB z16 0 (le4 c.1)) 4 (le4 (IntKind.u32.wrap c.2.1))).map encU) HS H) (show 12 ≤ 16 by decide) (show 16 ≤ 1000000 by decide)) <| JR fun a16 c16 hw16 hl16 hm16 hz16 => ag rfl rfl <| nx <| mv rfl rfl <| fa rfl rfl fa175_3 <| L_val rfl (v_load rfl ty37 HS (by exact rfl)) ?_
  refine L_op <| x_call Tryz.func149 nm149 bd149 (.cons rfl (.cons rfl (.cons rfl .nil))) rfl (put32C (a := 12) (bs := (putB (putB (putB z16 0 (le4 c.1)) 4 (le4 (IntKind.u32.wrap c.2.1))) 8 (le4 c.2.2.1))) (fun w H => sep_reads (xs := (putB (putB (putB z16 0 (le4 c.1)) 4 (le4 (IntKind.u32.wrap c.2.1))) 8 (le4 c.2.2.1)).map encU) HS H) (show 16 ≤ 16 by decide) (show 16 ≤ 1000000 by decide)) <| JE ((bytesX c).map encU) (by rw [bytesX_put]) fun a20 c20 hw20 hl20 hm20 hz20 => ag rfl rfl <| nq <| J_ret ?_
  exact J_return (_) Tryz.results130 (.tmp rfl .nil) rfl SU

set_option maxRecDepth 100000 in
set_option maxHeartbeats 4000000 in
theorem compOfC {E : World} {l : List As} {d : Deed} :
    Con Tryz.prog 66 #[.agg (encD d).toArray] E l (fun _ : Unit => .agg (encX (ofD d)).toArray) (fun _ => l) := by
  refine Con.body (vs := [.agg (encD d).toArray]) (n := 15) Tryz.func66 rfl rfl [(0, .agg (encD d).toArray)] (env_ok 1 rfl) <| sr <| L_op <| x_box rfl rfl rfl fun b1 => L_op <| x_alloc ty175 rfl fun b2 => nx <| fa rfl rfl fa50_1 ?_
  refine L_val rfl (v_load rfl ty37 HS (by exact rfl)) ?_
  refine fa rfl rfl fa50_3 <| L_val rfl (v_load rfl ty3 HS (by exact rfl)) ?_
  refine L_pur rfl (p_conv rfl Tryz.underlying3 Tryz.underlying21) <| fa rfl rfl fa50_4 <| L_val rfl (v_load rfl ty37 HS (by exact rfl)) ?_
  refine fa rfl rfl fa50_0 <| fa rfl rfl fa36_1 <| L_val rfl (v_load rfl ty3 HS (by exact rfl)) ?_
  refine L_pur rfl (p_conv rfl Tryz.underlying3 Tryz.underlying37) <| L_pur rfl (bld175 (.cons rfl (.cons rfl (.cons rfl (.cons rfl .nil)))) (by repeat constructor)) <| L_op <| x_store rfl rfl ty175 rfl SM SM RO PT ?_
  refine nq <| J_ret ?_
  refine J_return (()) Tryz.results66 (.cellA rfl ty175 HS CT .nil) ?_ ?_
  · rfl
  · exact SU

end Go.Pse
