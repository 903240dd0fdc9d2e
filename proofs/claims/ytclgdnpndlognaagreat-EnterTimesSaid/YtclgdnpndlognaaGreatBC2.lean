/-
  Own texts, merged: C21, Ins, C22, C23, C90, C91a, C91, C24, C25.
-/
import Derived.Test.YtclgdnpndlognaaGreatBC1
import Derived.Laws.BitsAllLaws
import Derived.Test.YtclgdnpndlognaaGreatBC0
import Derived.Lib.Overlaps
set_option linter.unusedVariables false
set_option linter.unusedSimpArgs false
set_option maxRecDepth 100000
set_option maxHeartbeats 4000000
namespace Go.Pse
open Go.RowKit Go.Proofs
/-! ### plain: numbers in bytes -/
def le4 (n : Int) : List Int := [n % 256, n / 256 % 256, n / 65536 % 256, n / 16777216 % 256]
def putB (bs : List Int) (a : Nat) (ys : List Int) : List Int := bs.take a ++ ys ++ bs.drop (a + ys.length)
def byteAt (bs : List Int) (k : Nat) : Int := (bs[k]?).getD 0
def getN (bs : List Int) (a : Nat) : Nat → Int
  | 0 => 0
  | i + 1 => getN bs a i + byteAt bs (a + i) * 2 ^ (8 * i)
def Bytes (bs : List Int) : Prop := ∀ x ∈ bs, 0 ≤ x ∧ x ≤ 255
variable {bs : List Int}
theorem byteAt_is (h : Bytes bs) (k : Nat) : 0 ≤ byteAt bs k ∧ byteAt bs k ≤ 255 := by
  unfold byteAt
  cases hk : bs[k]? with
  | none => simp
  | some x => exact h x (List.mem_of_getElem? hk)
theorem getN_is {bs : List Int} (h : Bytes bs) (a : Nat) : ∀ i, 0 ≤ getN bs a i ∧ getN bs a i < 2 ^ (8 * i)
  | 0 => by simp [getN]
  | i + 1 => by
    have h1 := getN_is h a i
    have h2 := byteAt_is h (a + i)
    have h3 : (2 : Int) ^ (8 * (i + 1)) = 256 * 2 ^ (8 * i) := by rw [show 8 * (i + 1) = 8 * i + 8 by omega, Int.pow_add]; omega
    have h4 : (0 : Int) < 2 ^ (8 * i) := Int.pow_pos (by omega)
    have h5 : byteAt bs (a + i) * 2 ^ (8 * i) ≤ 255 * 2 ^ (8 * i) := Int.mul_le_mul_of_nonneg_right h2.2 (by omega)
    have h6 : 0 ≤ byteAt bs (a + i) * 2 ^ (8 * i) := Int.mul_nonneg h2.1 (by omega)
    rw [getN, h3]
    omega
theorem or_nat {x y : Nat} (k : Nat) (hx : x < 2 ^ k) (hs : y * 2 ^ k < 4294967296) (hxs : x < 4294967296) : bits .or .u32 (x : Int) ((y * 2 ^ k : Nat) : Int) = ((x + y * 2 ^ k : Nat) : Int) := by
  rw [u32_or_nat x _ hxs hs, Nat.or_comm, Nat.mul_comm y, ← Nat.two_pow_add_eq_or_of_lt hx, Nat.add_comm]
variable {x y : Int}
theorem or_step {i : Nat} (hi : i < 4) (hx : 0 ≤ x ∧ x < 2 ^ (8 * i)) (hy : 0 ≤ y ∧ y ≤ 255) : bits .or .u32 x (IntKind.u32.wrap (IntKind.u32.wrap y * 2 ^ (8 * (i : Int)).toNat)) = x + y * 2 ^ (8 * i) := by
  obtain ⟨h1, h2⟩ := hx
  obtain ⟨X, rfl⟩ := Int.eq_ofNat_of_zero_le h1
  obtain ⟨Y, rfl⟩ := Int.eq_ofNat_of_zero_le hy.1
  rw [show (8 * (i : Int)).toNat = 8 * i by omega, wrap32u_of (a := (Y : Int)) (by omega)]
  have hX : X < 2 ^ (8 * i) := by exact_mod_cast h2
  have e : ((Y : Int) * 2 ^ (8 * i)) = ((Y * 2 ^ (8 * i) : Nat) : Int) := by push_cast; rfl
  rw [e]
  have hb : Y * 2 ^ (8 * i) < 4294967296 ∧ X < 4294967296 := by
    have : i = 0 ∨ i = 1 ∨ i = 2 ∨ i = 3 := by omega
    rcases this with rfl | rfl | rfl | rfl <;> simp at hX ⊢ <;> omega
  rw [wrap32u_of (by omega), or_nat _ hX hb.1 hb.2]
  push_cast; rfl
variable {a : Nat}
theorem putB_nil : putB bs a [] = bs := by simp [putB]
variable {ys : List Int}
theorem putB_len (h : a + ys.length ≤ bs.length) : (putB bs a ys).length = bs.length := by
  simp [putB]; omega
theorem putB_snoc (h : a + ys.length < bs.length) : (putB bs a ys).set (a + ys.length) y = putB bs a (ys ++ [y]) := by
  unfold putB
  rw [List.drop_eq_getElem_cons h, List.set_append_right _ _ (by simp; omega), show a + ys.length - (List.take a bs ++ ys).length = 0 by simp; omega, List.set_cons_zero]
  simp [Nat.add_assoc]
theorem putB_bytes (h : Bytes bs) (hy : Bytes ys) : Bytes (putB bs a ys) := fun x hx => by
  unfold putB at hx
  rcases List.mem_append.1 hx with h1 | h1
  · rcases List.mem_append.1 h1 with h2 | h2
    · exact h x (List.mem_of_mem_take h2)
    · exact hy x h2
  · exact h x (List.mem_of_mem_drop h1)
theorem le4_bytes (n : Int) : Bytes (le4 n) := fun x hx => by
  simp [le4] at hx
  rcases hx with rfl | rfl | rfl | rfl <;> omega
theorem le4_at (n : Int) {i : Nat} (h : i < 4) : (le4 n)[i]? = some (n / 2 ^ (8 * i) % 256) := by
  have : i = 0 ∨ i = 1 ∨ i = 2 ∨ i = 3 := by omega
  rcases this with rfl | rfl | rfl | rfl <;> simp [le4]
theorem wrap_u8 (n : Int) : IntKind.u8.wrap n = n % 256 := by simp [IntKind.wrap, IntKind.bits, IntKind.signed]
theorem put_step {i : Nat} {n : Int} (hi : i < 4) (ha : a + 4 ≤ bs.length) :
    ((putB bs a ((le4 n).take i)).map encU).set ((a : Int) + (i : Int)).toNat [.int .u8 (IntKind.u8.wrap (n / 2 ^ (8 * (i : Int)).toNat))] = (putB bs a ((le4 n).take (i + 1))).map encU := by
  have hl : ((le4 n).take i).length = i := by simp [le4]; omega
  rw [List.take_add_one, le4_at n hi, Option.toList_some, ← putB_snoc (by omega), List.map_set, hl, show ((a : Int) + (i : Int)).toNat = a + i by omega, show (8 * (i : Int)).toNat = 8 * i by omega, wrap_u8]
  rfl
theorem getN_part : getN ((bs.drop a).take 4) 0 4 = getN bs a 4 := by
  have h : ∀ k, k < 4 → byteAt ((bs.drop a).take 4) (0 + k) = byteAt bs (a + k) := fun k hk => by
    unfold byteAt; rw [List.getElem?_take_of_lt (by omega), List.getElem?_drop]; simp
  simp only [getN, h 0 (by omega), h 1 (by omega), h 2 (by omega), h 3 (by omega)]
theorem part_bytes {a n : Nat} (h : Bytes bs) : Bytes ((bs.drop a).take n) := fun x hx => h x (List.mem_of_mem_drop (List.mem_of_mem_take hx))
variable {E : World} {l : List As} {v : Value}
theorem clone97 {xs : List (List Value)} (hr : ∀ w, Sep E w l → Reads w 1 v xs) (hb : xs.length ≤ 1000000) :
    Con Tryz.prog 97 #[v] E l (fun v' : Value => v') (fun v' => row 5 1 v' xs :: l) := by
  refine Con.body (n := 8) Tryz.func97 Z Z _ (env_ok 1 Z) <| J_reads hr fun hw a cap hv h1 h2 h3 => ?_
  subst hv
  refine sr <| ag Z Z <| nxx <| mv Z Z <| L_pur Z (p_eqnil Tryz.underlying73 Z) <| nq <| C_split Z (fun h4 => ?_) (fun h4 => ?_)
  obtain rfl : a = none := by simpa using h4
  obtain ⟨rfl, rfl⟩ := h3 rfl
  refine J_nil (el := 5) (sz := 1) <| sr <| ag Z Z <| nq <| J_ret <| Q_then_ret ?_
  exact J_return (_) Tryz.results97 (.tmp Z .nil) Z SU
  refine J_skip <| qx <| L_op <| x_lit (vals := []) Tryz.underlying73 ty5 Z .nil .nil Wf.nil Z (by decide) Z Z <| JR fun a5 c5 hw5 hl5 hm5 hz5 => mv Z Z <| L_op <| x_app Z Z Tryz.underlying73 ty5 Z Z PC (fun w H => hr w H.tail) (OM) (OM) Z <| JR fun a7 c7 hw7 hl7 hm7 hz7 => ag Z Z <| nq <| J_ret ?_
  exact J_return (_) Tryz.results97 (.tmp Z .nil) Z SU
theorem getC (hr : ∀ w, Sep E w l → Reads w 1 v (bs.map encU)) (ha : a + 4 ≤ bs.length) (hl : bs.length ≤ 1000000) (hB : Bytes bs) :
    Con Tryz.prog 199 #[v, .int .i64 (a : Int), .int .i64 4] E l (fun _ : Unit => .int .u32 (getN bs a 4)) (fun _ => l) := by
  refine Con.body (n := 39) Tryz.func199 Z Z _ (env_ok 3 Z) <| J_readsB hr fun hw ad cap hv h1 h2 h3 => ?_
  subst hv
  have hm : cap ≤ 9223372036854775807 := h2
  have hml : (bs.map encU).length = bs.length := List.length_map _
  refine sr <| ag Z Z <| nx <| ag Z Z <| nxx <| mv Z Z <| mv Z Z <| nq <| J_block <| J_loop (α := Nat) (fun i => i ≤ 4) (fun _ => l) (fun i => [(10, .int .i64 (i : Int)), (9, .int .i64 4), (7, .int .u32 (getN bs a i)), (0, .slice ad (bs.map encU).length cap), (1, .int .i64 (a : Int))]) (fun i => 4 - i) 0 (by omega) SU KE ?_
  intro i hi
  refine sr <| L_pur Z (p_lss Z Z) <| nq <| J_seq <| C_dec Z (fun h11 => ?_) (fun h11 => ?_)
  have hlt : a + i < bs.length := by omega
  obtain ⟨bx, ox, rfl⟩ := h3 (by intro h; rw [h] at hml; simp at hml; omega)
  obtain ⟨c, hcc⟩ : ∃ c, bs[a + i]? = some c := ⟨_, List.getElem?_eq_getElem hlt⟩
  have hcB := hB c (List.mem_of_getElem? hcc)
  have hgN := getN_is hB a i
  refine J_skip <| Q_then <| J_seq <| J_block <| sr <| mv Z Z <| ag Z Z <| nx <| mv Z Z <| mv Z Z <| L_pur Z (p_neg64 Z (by omega)) <| L_pur Z (p_geq Z Z) <| mv Z Z <| J_bool (t := 17) (c := true) Z (by first | (simp; omega) | simp) <| L_op <| G_on Z Z Z <| J_pur (p_move Z) Z Z Z <| gp Z Z Z (p_move Z) Z <| gp Z Z Z (p_len Z Tryz.underlying73) Z <| L_op <| G_on Z Z Z <| J_pur (p_move Z) Z Z Z <| gp Z Z Z (p_sub64 Z Z (by omega)) Z <| gp Z Z Z (p_lss Z Z) Z <| L_pur Z (p_pick_t Z Z) <| nq <| J_bool (t := 24) (c := true) Z (by first | (simp; omega) | simp) <| C_true Z <| J_region <| mv Z Z <| mv Z Z <| mv Z Z <| mv Z Z <| L_pur Z (p_add64 Z Z (by omega)) <| L_pur Z (p_indexAddr Z Z Tryz.underlying73 ty5 (by omega) (by simp; omega)) <| L_val Z (v_loadR1 Z ty5 (fun w H => hr w H) (by rw [show ((a : Int) + (i : Int)).toNat = a + i by omega, List.getElem?_map, hcc]; rfl)) ?_
  refine L_pur Z (p_conv Z Tryz.underlying5 Tryz.underlying22) <| mv Z Z <| L_pur Z (p_mul64 Z Z (by omega)) <| L_pur Z (p_shl Z Z (by omega) (by have : (IntKind.u32.bits : Int) = 32 := rfl; omega)) <| L_pur Z (p_or Z Z) <| J_slot (t := 36) (v := .int .u32 (getN bs a (i + 1))) Z (by rw [or_step (by omega) hgN hcB, getN, byteAt, hcc]; rfl) <| ag Z Z <| L_nil <| Q_blk_normal <| qr <| L_pur Z (p_add64 Z Z (by omega)) <| mv Z Z <| nq ?_
  exact J_again (i + 1) (by omega) (by omega) SU KE
  have hi4 : i = 4 := by omega
  subst hi4
  refine J_exit <| Q_then_exit <| Q_then_exit <| Q_blk_this <| qx <| mv Z Z <| ag Z Z <| nq <| J_ret <| J_return (()) Tryz.results199 (.tmp Z .nil) ?_ ?_
  · rfl
  · exact SU
theorem putC (hr : ∀ w, Sep E w l → Reads w 1 v (bs.map encU)) (ha : a + 4 ≤ bs.length) (hl : bs.length ≤ 1000000) {n : Int} :
  Con Tryz.prog 306 #[v, .int .i64 (a : Int), .int .i64 4, .int .u32 n] E l (fun v' : Value => v') (fun v' => row 5 1 v' ((putB bs a (le4 n)).map encU) :: l) := by
 refine Con.body (n := 41) Tryz.func306 Z Z _ (env_ok 4 Z) <| J_readsB hr fun hw ad cap hv h1 h2 h3 => ?_
 subst hv
 have hm : cap ≤ 9223372036854775807 := h2
 have hml : (bs.map encU).length = bs.length := List.length_map _
 refine sr <| ag Z Z <| nx <| mv Z Z <| xo fc97 (A1 Z) Z (clone97 (xs := bs.map encU) (fun w H => hr w H) (by simpa using hl)) <| JR fun a12 c12 hw12 hl12 hm12 hz12 => ?_
 obtain ⟨bq, oq, rfl⟩ := hz12 (by intro h; rw [h] at hml; simp at hml; omega)
 have hmq : c12 ≤ 9223372036854775807 := hm12
 refine ag Z Z <| nxx <| mv Z Z <| mv Z Z <| J_pick (A := row 5 1 _ _) PC <| J_rowEq (ys := (putB bs a ((le4 n).take 0)).map encU) (by rw [List.take_zero, putB_nil]) <| nq <| J_block <| J_loop (α := Nat) (fun i => i ≤ 4) (fun i => row 5 1 (.slice (some ⟨bq, oq, none⟩) (bs.map encU).length c12) ((putB bs a ((le4 n).take i)).map encU) :: l) (fun i => [(14, .int .i64 (i : Int)), (13, .int .i64 4), (9, .slice (some ⟨bq, oq, none⟩) (bs.map encU).length c12), (0, .slice ad (bs.map encU).length cap), (1, .int .i64 (a : Int)), (3, .int .u32 n)]) (fun i => 4 - i) 0 (by omega) SU KE ?_
 intro i hi
 refine sr <| L_pur Z (p_lss Z Z) <| nq <| J_seq <| C_dec Z (fun h15 => ?_) (fun h15 => ?_)
 have hpl : ((putB bs a ((le4 n).take i)).map encU).length = bs.length := by rw [List.length_map, putB_len (by simp [le4]; omega)]
 refine J_skip <| Q_then <| J_seq <| J_block <| sr <| mv Z Z <| ag Z Z <| nx <| mv Z Z <| mv Z Z <| L_pur Z (p_neg64 Z (by omega)) <| L_pur Z (p_geq Z Z) <| mv Z Z <| J_bool (t := 21) (c := true) Z (by first | (simp; omega) | simp) <| L_op <| G_on Z Z Z <| J_pur (p_move Z) Z Z Z <| gp Z Z Z (p_move Z) Z <| gp Z Z Z (p_len Z Tryz.underlying73) Z <| L_op <| G_on Z Z Z <| J_pur (p_move Z) Z Z Z <| gp Z Z Z (p_sub64 Z Z (by omega)) Z <| gp Z Z Z (p_lss Z Z) Z <| L_pur Z (p_pick_t Z Z) <| nq <| J_bool (t := 28) (c := true) Z (by first | (simp; omega) | simp) <| C_true Z <| J_region <| mv Z Z <| mv Z Z <| mv Z Z <| L_pur Z (p_add64 Z Z (by omega)) ?_
 refine mv Z Z <| mv Z Z <| L_pur Z (p_mul64 Z Z (by omega)) <| L_pur Z (p_shr Z Z (by omega) (by have : (IntKind.u32.bits : Int) = 32 := rfl; omega)) <| L_pur Z (p_conv Z Tryz.underlying22 Tryz.underlying5) <| L_pur Z (p_indexAddr Z Z Tryz.underlying73 ty5 (by omega) (by simp; omega)) <| L_op <| x_storeE Z Z ty5 Z SM SM PC (by omega) <| J_rowEq (ys := (putB bs a ((le4 n).take (i + 1))).map encU) (put_step (by omega) ha) <| L_nil <| Q_blk_normal <| qr <| L_pur Z (p_add64 Z Z (by omega)) <| mv Z Z <| nq ?_
 exact J_again (i + 1) (by omega) (by omega) SU KE
 have hi4 : i = 4 := by omega
 subst hi4
 refine J_pick (A := row 5 1 _ _) PC <| J_rowEq (ys := (putB bs a (le4 n)).map encU) (by rfl) <| J_exit <| Q_then_exit <| Q_then_exit <| Q_blk_this <| qx <| mv Z Z <| ag Z Z <| nq <| J_ret ?_
 exact J_return (_) Tryz.results306 (.tmp Z .nil) Z SU
theorem u32C (hr : ∀ w, Sep E w l → Reads w 1 v (bs.map encU)) (ha : a + 4 ≤ bs.length) (hl : bs.length ≤ 1000000) (hB : Bytes bs) :
    Con Tryz.prog 139 #[v, .int .i64 (a : Int)] E l (fun _ : Unit => .int .u32 (getN bs a 4)) (fun _ => l) := by
  refine Con.body (n := 8) Tryz.func139 Z Z _ (env_ok 2 Z) <| sr <| ag Z Z <| nx <| mv Z Z <| mv Z Z <| xo fc199 (A3 Z Z Z) Z (getC hr ha hl hB) fun _ => ag Z Z <| nq <| J_ret ?_
  exact J_return (()) Tryz.results139 (.tmp Z .nil) Z SU
theorem put32C (hr : ∀ w, Sep E w l → Reads w 1 v (bs.map encU)) (ha : a + 4 ≤ bs.length) (hl : bs.length ≤ 1000000) {n : Int} :
    Con Tryz.prog 264 #[v, .int .i64 (a : Int), .int .u32 n] E l (fun v' : Value => v') (fun v' => row 5 1 v' ((putB bs a (le4 n)).map encU) :: l) := by
  refine Con.body (n := 11) Tryz.func264 Z Z _ (env_ok 3 Z) <| sr <| ag Z Z <| nx <| mv Z Z <| mv Z Z <| mv Z Z <| xo fc306 (A4 Z Z Z Z) Z (putC hr ha hl) <| JR fun a10 c10 hw10 hl10 hm10 hz10 => ag Z Z <| nq <| J_ret ?_
  exact J_return (_) Tryz.results264 (.tmp Z .nil) Z SU
theorem shl32_small : ∀ k : Nat, k ≤ 8 → IntKind.u32.wrap (1 * 2 ^ (k : Int).toNat) = 2 ^ k ∧ IntKind.u32.wrap ((2 : Int) ^ k - 1) = 2 ^ k - 1 := by decide
variable {k : Nat}
theorem and_mask {n : Int} (hk : k ≤ 8) (hn : 0 ≤ n ∧ n < 4294967296) : bits .and .u32 n (2 ^ k - 1) = n % 2 ^ k := by
  obtain ⟨X, rfl⟩ := Int.eq_ofNat_of_zero_le hn.1
  have h2 : 1 ≤ 2 ^ k ∧ 2 ^ k ≤ 256 := ⟨Nat.one_le_two_pow, by have : (2 : Nat) ^ k ≤ 2 ^ 8 := Nat.pow_le_pow_right (by omega) hk; omega⟩
  have e : ((2 : Int) ^ k - 1) = ((2 ^ k - 1 : Nat) : Int) := by rw [Int.ofNat_sub h2.1]; push_cast; rfl
  rw [e, u32_and_nat X _ (by omega) (by omega), Nat.and_two_pow_sub_one_eq_mod]
  push_cast; rfl
theorem maskC (hk : k ≤ 8) :
    Con Tryz.prog 305 #[.int .i64 0, .int .i64 (k : Int)] E l (fun _ : Unit => .int .u32 (2 ^ k - 1)) (fun _ => l) := by
  refine Con.body (n := 21) Tryz.func305 Z Z _ (env_ok 2 Z) <| sr <| ag Z Z <| nxx <| mv Z Z <| L_pur Z (p_lss Z Z) <| mv Z Z <| J_bool (t := 7) (c := false) Z (rfl) <| gp Z Z Z (p_move Z) Z <| gp Z Z Z (p_geq Z Z) Z <| L_pur Z (p_pick_f Z Z) <| mv Z Z <| J_bool (t := 11) (c := false) Z (rfl) <| gp Z Z Z (p_move Z) Z <| gp Z Z Z (p_lss Z Z) Z <| L_pur Z (p_pick_f Z Z) <| nq <| C_split Z (fun h14 => ?_) (fun h14 => ?_)
  obtain rfl : k = 0 := by simp at h14; omega
  refine sr <| ag Z Z <| nq <| J_ret <| Q_then_ret <| J_return (()) Tryz.results305 (.tmp Z .nil) ?_ ?_
  · rfl
  · exact SU
  have hk1 : 1 ≤ k := by simp at h14; omega
  refine J_skip <| qx <| mv Z Z <| mv Z Z <| L_pur Z (p_sub64 Z Z (by omega)) <| L_pur Z (p_min Z Z) <| J_slot (t := 18) (v := .int .i64 (k : Int)) Z (by congr 1; simp; omega) <| L_pur Z (p_shl Z Z (by omega) (by have : (IntKind.u32.bits : Int) = 32 := rfl; omega)) <| J_slot (t := 19) (v := .int .u32 (2 ^ k)) Z (by rw [(shl32_small k hk).1]) <| L_pur Z (p_sub Z Z) <| J_slot (t := 20) (v := .int .u32 (2 ^ k - 1)) Z (by rw [(shl32_small k hk).2]) <| ag Z Z <| nq <| J_ret <| J_return (()) Tryz.results305 (.tmp Z .nil) ?_ ?_
  · rfl
  · exact SU
theorem fieldC {n : Int} (hk : k ≤ 8) (hn : 0 ≤ n ∧ n < 4294967296) :
    Con Tryz.prog 263 #[.int .u32 n, .int .i64 0, .int .i64 (k : Int)] E l (fun _ : Unit => .int .u32 (n % 2 ^ k)) (fun _ => l) := by
  refine Con.body (n := 18) Tryz.func263 Z Z _ (env_ok 3 Z) <| sr <| ag Z Z <| nx <| mv Z Z <| mv Z Z <| xo fc305 (A2 Z Z) Z (maskC hk) fun _ => ag Z Z <| nxx <| mv Z Z <| L_pur Z (p_eql Z Z) <| nq <| C_dec Z (fun h12 => ?_) (fun h12 => ?_)
  have hk0 : n % 2 ^ k = 0 := by
    have : (2 : Int) ^ k = 1 := by omega
    rw [this]; omega
  refine sr <| ag Z Z <| nq <| J_ret <| Q_then_ret <| J_return (()) Tryz.results263 (.tmp Z .nil) ?_ ?_
  · rw [hk0]; rfl
  · exact SU
  refine J_skip <| qx <| mv Z Z <| mv Z Z <| L_pur Z (p_shr Z Z (by omega) (by decide)) <| J_slot (t := 15) (v := .int .u32 n) Z (by simp) <| mv Z Z <| L_pur Z (p_and Z Z) <| J_slot (t := 17) (v := .int .u32 (n % 2 ^ k)) Z (by rw [and_mask hk hn]) <| ag Z Z <| nq <| J_ret <| J_return (()) Tryz.results263 (.tmp Z .nil) ?_ ?_
  · rfl
  · exact SU
theorem mod_small {n : Int} (hk : k ≤ 4) : 0 ≤ n % 2 ^ k ∧ n % 2 ^ k ≤ 15 := by
  have h2 : (1 : Int) ≤ 2 ^ k ∧ (2 : Int) ^ k ≤ 16 := by
    have : k = 0 ∨ k = 1 ∨ k = 2 ∨ k = 3 ∨ k = 4 := by omega
    rcases this with rfl | rfl | rfl | rfl | rfl <;> decide
  have h3 := Int.emod_nonneg n (b := 2 ^ k) (by omega)
  have h4 := Int.emod_lt_of_pos n (b := 2 ^ k) (by omega)
  omega
theorem placeC {n z : Int} (hz : z = 16 ∨ z = 32) (hk : k ≤ 4) (hn : 0 ≤ n ∧ n < 4294967296) :
    Con Tryz.prog 193 #[.int .u32 n, .int .i64 (k : Int), .int .i64 z] E l (fun _ : Unit => .int .i64 (16 + n % 2 ^ k * z)) (fun _ => l) := by
  refine Con.body (n := 14) Tryz.func193 Z Z _ (env_ok 3 Z) <| sr <| ag Z Z <| nx <| mv Z Z <| mv Z Z <| xo fc263 (A3 Z Z Z) Z (fieldC (k := k) (n := n) (by omega) hn) fun _ => ?_
  have hms := mod_small (n := n) hk
  have hmz : 0 ≤ n % 2 ^ k * z ∧ n % 2 ^ k * z ≤ 480 := by rcases hz with rfl | rfl <;> omega
  refine L_pur Z (p_conv Z Tryz.underlying22 Tryz.underlying3) <| J_slot (t := 10) (v := .int .i64 (n % 2 ^ k)) Z (by rw [wrap64_of (by omega)]) <| mv Z Z <| L_pur Z (p_mul64 Z Z (by omega)) <| L_pur Z (p_add64 Z Z (by omega)) <| ag Z Z <| nq <| J_ret <| J_return (()) Tryz.results193 (.tmp Z .nil) ?_ ?_
  · rfl
  · exact SU
theorem distC :
    Con Tryz.prog 94 #[.int .u32 x, .int .u32 y] E l (fun _ : Unit => .int .u32 (IntKind.u32.wrap (x - y))) (fun _ => l) := by
  refine Con.body (n := 8) Tryz.func94 Z Z _ (env_ok 2 Z) <| sr <| ag Z Z <| nx <| mv Z Z <| mv Z Z <| L_pur Z (p_sub Z Z) <| ag Z Z <| nq <| J_ret <| J_return (()) Tryz.results94 (.tmp Z .nil) ?_ ?_
  · rfl
  · exact SU
def bytesX (c : Cqe) : List Int := le4 c.1 ++ le4 (IntKind.u32.wrap c.2.1) ++ le4 c.2.2.1 ++ le4 c.2.2.2
def z16 : List Int := List.replicate 16 0
theorem bytesX_len (c : Cqe) : (bytesX c).length = 16 := rfl
theorem bytesX_bytes (c : Cqe) : Bytes (bytesX c) := fun x hx => by
  simp only [bytesX, List.mem_append] at hx
  rcases hx with ((h | h) | h) | h <;> exact le4_bytes _ x h
theorem bytesX_put (c : Cqe) : putB (putB (putB (putB z16 0 (le4 c.1)) 4 (le4 (IntKind.u32.wrap c.2.1))) 8 (le4 c.2.2.1)) 12 (le4 c.2.2.2) = bytesX c := rfl
def ofD (d : Deed) : Cqe := (d.2.1, IntKind.i32.wrap d.2.2.2.1, d.2.2.2.2.1, IntKind.u32.wrap d.1.2)
variable {c : Cqe}
theorem bytesC :
    Con Tryz.prog 194 #[.agg (encX c).toArray] E l (fun v : Value => v) (fun v => row 5 1 v ((bytesX c).map encU) :: l) := by
  refine Con.body (n := 21) Tryz.func194 Z Z _ (env_ok 1 Z) <| sr <| L_op <| x_box Z Z Z fun b1 => ag Z Z <| nq <| J_seq <| J_drawL none mixed <| ip 1 Z Z Z Z (p_fieldAddr Z fa93_0) <| iv 2 Z Z Z Z (fun _ => v_load Z ty22 HS (by exact rfl)) <| i1 0 Z <| x_make (len := 16) Z Z Tryz.underlying73 ty5 Z Z (by simp) (by simp) Z Z <| JE (z16.map encU) (by rfl) fun a4 c4 hw4 hl4 hm4 hz4 => i1 3 Z <| xc fc264 (A3 Z Z Z) Z (put32C (a := 0) (bs := z16) (fun w H => sep_reads (xs := z16.map encU) HS H) (show 4 ≤ 16 by decide) (show 16 ≤ 1000000 by decide)) <| JR fun a7 c7 hw7 hl7 hm7 hz7 => ip 4 Z Z Z Z (p_assign Z) <| i0 <| qx <| mv Z Z <| fa Z Z fa93_1 <| L_val Z (v_load Z ty21 HS (by exact rfl)) ?_
  refine L_pur Z (p_conv Z Tryz.underlying21 Tryz.underlying22) <| xo fc264 (A3 Z Z Z) Z (put32C (a := 4) (bs := (putB z16 0 (le4 c.1))) (fun w H => sep_reads (xs := (putB z16 0 (le4 c.1)).map encU) HS H) (show 8 ≤ 16 by decide) (show 16 ≤ 1000000 by decide)) <| JR fun a12 c12 hw12 hl12 hm12 hz12 => ag Z Z <| nx <| mv Z Z <| fa Z Z fa93_2 <| L_val Z (v_load Z ty22 HS (by exact rfl)) <| xo fc264 (A3 Z Z Z) Z (put32C (a := 8) (bs := (putB (putB z16 0 (le4 c.1)) 4 (le4 (IntKind.u32.wrap c.2.1)))) (fun w H => sep_reads (xs := (putB (putB z16 0 (le4 c.1)) 4 (le4 (IntKind.u32.wrap c.2.1))).map encU) HS H) (show 12 ≤ 16 by decide) (show 16 ≤ 1000000 by decide)) <| JR fun a16 c16 hw16 hl16 hm16 hz16 => ag Z Z <| nx <| mv Z Z <| fa Z Z fa93_3 <| L_val Z (v_load Z ty22 HS (by exact rfl)) ?_
  refine xo fc264 (A3 Z Z Z) Z (put32C (a := 12) (bs := (putB (putB (putB z16 0 (le4 c.1)) 4 (le4 (IntKind.u32.wrap c.2.1))) 8 (le4 c.2.2.1))) (fun w H => sep_reads (xs := (putB (putB (putB z16 0 (le4 c.1)) 4 (le4 (IntKind.u32.wrap c.2.1))) 8 (le4 c.2.2.1)).map encU) HS H) (show 16 ≤ 16 by decide) (show 16 ≤ 1000000 by decide)) <| JE ((bytesX c).map encU) (by rw [bytesX_put]) fun a20 c20 hw20 hl20 hm20 hz20 => ag Z Z <| nq <| J_ret ?_
  exact J_return (_) Tryz.results194 (.tmp Z .nil) Z SU
variable {d : Deed}
theorem compOfC :
    Con Tryz.prog 176 #[.agg (encD d).toArray] E l (fun _ : Unit => .agg (encX (ofD d)).toArray) (fun _ => l) := by
  refine Con.body (n := 15) Tryz.func176 Z Z _ (env_ok 1 Z) <| sr <| L_op <| x_box Z Z Z fun b1 => L_op <| x_alloc ty93 Z fun b2 => nx <| fa Z Z fa45_1 <| L_val Z (v_load Z ty22 HS (by exact rfl)) <| fa Z Z fa45_3 <| L_val Z (v_load Z ty3 HS (by exact rfl)) <| L_pur Z (p_conv Z Tryz.underlying3 Tryz.underlying21) <| fa Z Z fa45_4 <| L_val Z (v_load Z ty22 HS (by exact rfl)) <| fa Z Z fa45_0 <| fa Z Z fa36_1 <| L_val Z (v_load Z ty3 HS (by exact rfl)) <| L_pur Z (p_conv Z Tryz.underlying3 Tryz.underlying22) <| L_pur Z (bld93 (.cons Z (.cons Z (.cons Z (.cons Z .nil)))) (by repeat constructor)) <| L_op <| x_store Z Z ty93 Z SM SM RO PT <| nq <| J_ret <| J_return (()) Tryz.results176 (.cellA Z ty93 HS CT .nil) ?_ ?_
  · rfl
  · exact SU
section
variable {P : Program} {ops : Array Oper} {Q : Exit → Act → World → Prop} {E : World} {l l' m : List As} {n : Nat} {F : Env} {K : Act → World → Prop}
variable {d : Nat} {T : TypeId} {p : String} {e : Array Edge} {g : Option (Nat × Bool)} {dst : Option Tmp} {t : TypeId} {x y z : Operand} {u v : Value}
theorem p_cap {a0 : Option Addr} {len cap : Nat} {el : TypeId} (hx : evl F x = some (.slice a0 len cap)) (ht : P.underlying t = some (.slice el)) :
    Pur P ⟨dst, .call { callee := .builtin .cap, args := #[x], argTypes := #[t] }, T, p, e, g⟩ F n (.int .i64 cap) := fun a hF w => by
  simp [execOp, resolve, invoke, builtin, hF.evl hx, Builtin.cap_, run_underlying ht, goInt]
variable {w : World} {o dc sc sz by_ : Nat} {agg : Bool} {zs : List Value}
theorem run_copy_sz {sT ty el : TypeId} {gb dl sl : Nat} {a : Addr} {cur : Array Value} {bt : TypeId} {cs : List Value} (hu : P.underlying sT = some (.slice el)) (hT : Ty P el sz by_ agg zs)
    (hg : w.heap[gb]? = some (.cells cur bt (0, 0))) (hn : cs.length = Nat.min sl dl * sz) (hsrc : ∀ j v, cs[j]? = some v → w.cell? (a.add j) = some v) (hfit : o + cs.length ≤ cur.size) (h1 : ∀ v ∈ cs, v.oneCell' = true) :
    (Builtin.copy_ #[sT, sT] ty #[.slice (some ⟨gb, o, none⟩) dl dc, .slice (some a) sl sc]).run P w =
      .ok (.int .i64 (Nat.min sl dl : Nat)) (w.setRow gb (cur.toList.take o ++ cs ++ cur.toList.drop (o + cs.length)).toArray) := by
  have hl := run_loadCells_list (P := P) w a cs hsrc
  have hst := run_storeCells_at P gb o bt cs 0 cur w hg (by simpa using hfit) h1
  simp only [Nat.add_zero] at hst
  simp [Builtin.copy_, run_underlying hu, Builtin.lenOf, Builtin.firstCells, hT.sizeOf, ← hn, hl, hst, goInt]
theorem run_copy_nothing {sT ty el : TypeId} {dl sl : Nat} {a b : Option Addr} (hu : P.underlying sT = some (.slice el)) (hT : Ty P el sz by_ agg zs) (h0 : Nat.min sl dl = 0) :
    (Builtin.copy_ #[sT, sT] ty #[.slice b dl dc, .slice a sl sc]).run P w = .ok (.int .i64 (0 : Nat)) w := by
  have h0' : min sl dl = 0 := h0
  cases a <;> cases b <;> simp [Builtin.copy_, run_underlying hu, Builtin.lenOf, Builtin.firstCells, hT.sizeOf, h0', loadCells, loadCellsFrom, storeCells, goInt]
theorem copy_op {sT : TypeId} {v2 : Value} {r : Value} {w' : World} (hx : evl F x = some v) (hy : evl F y = some v2) (hd : Nat.blt d n = true) {a : Act} (hF : Fr n F a)
    (hrun : (Builtin.copy_ #[sT, sT] T #[v, v2]).run P w = .ok r w') (hs : Sep E w' l') (k : Jk E l' n ((d, r) :: F) K) :
    if Region.wanted (⟨some d, .call { callee := .builtin .copy, args := #[x, y], argTypes := #[sT, sT] }, T, p, e, none⟩ : Oper) (yielded ops a.tmps) = true then (⟨some d, .call { callee := .builtin .copy, args := #[x, y], argTypes := #[sT, sT] }, T, p, e, none⟩ : Oper).wp P a w K Q else K (a.put (some d) undef) w := by
  have hw : Region.wanted (⟨some d, .call { callee := .builtin .copy, args := #[x, y], argTypes := #[sT, sT] }, T, p, e, none⟩ : Oper) (yielded ops a.tmps) = true := rfl
  rw [if_pos hw]
  unfold Oper.wp
  have : (execOp a.eval ⟨some d, .call { callee := .builtin .copy, args := #[x, y], argTypes := #[sT, sT] }, T, p, e, none⟩).run P w = .ok (.value r) w' := by
    simp [execOp, resolve, invoke, builtin, hF.evl hx, hF.evl hy, hrun]
  rw [this]
  exact k w' _ hs (hF.put hd)
theorem x_copyTo {el sT : TypeId} {b o len cap sz by_ k0 dl dc : Nat} {xs ys : List (List Value)} {v2 : Value} (hx : evl F x = some (.slice (if cap = k0 then some ⟨b, o, none⟩ else (some (⟨b, o, none⟩ : Addr)).map (·.add (k0 * sz))) dl dc)) (hy : evl F y = some v2)
    (ht : P.underlying sT = some (.slice el)) (hT : Ty P el sz by_ agg zs) (hp : Pick (row el sz (.slice (some ⟨b, o, none⟩) len cap) xs) l m) (hr : ∀ w, Sep E w l → Reads w sz v2 ys) (hi : ys.length ≤ dl) (hk : k0 + ys.length ≤ xs.length) (hd : Nat.blt d n = true)
    (k : Jk E (row el sz (.slice (some ⟨b, o, none⟩) len cap) (xs.take k0 ++ ys ++ xs.drop (k0 + ys.length)) :: m) n ((d, .int .i64 (ys.length : Nat)) :: F) K) :
    Jop P ops Q ⟨some d, .call { callee := .builtin .copy, args := #[x, y], argTypes := #[sT, sT] }, T, p, e, none⟩ E l n F K := fun w a H hF => by
  have hrd := hr w H
  obtain ⟨a2, c2, hv2, hc2, hc2', hn2, ha2⟩ := hrd.is
  have H' := H.pick hp
  obtain ⟨S, hS⟩ := H'.head
  obtain ⟨C, hC, hl, hlc, hsz⟩ := row_block hS
  have hyl := hrd.wf.len
  subst hv2
  by_cases h0 : ys = []
  · subst h0
    refine copy_op hx hy hd hF (w' := w) (r := .int .i64 (0 : Nat)) (run_copy_nothing ht hT (by simp)) ?_ k
    simpa using H'
  · have hpos : 0 < ys.length := List.length_pos_iff.2 h0
    have hne : cap ≠ k0 := by omega
    rw [if_neg hne] at hx
    simp only [Option.map_some, Addr.add_lit] at hx
    cases a2 with
    | none => exact absurd (hn2 rfl).1 h0
    | some ad =>
      have hmul : k0 * sz + ys.length * sz ≤ xs.length * sz := by rw [← Nat.add_mul]; exact Nat.mul_le_mul_right _ hk
      have hmul2 : xs.length * sz ≤ cap * sz := Nat.mul_le_mul_right _ (by omega)
      have hrun := run_copy_sz (P := P) (w := w) (ty := T) (o := o + k0 * sz) (dl := dl) (dc := dc) (sl := ys.length) (sc := c2) (a := ad) (cs := ys.flatten) ht hT hC (by rw [hyl]; congr 1; exact (Nat.min_eq_left hi).symm) (ha2 ad rfl).2 (by rw [hyl]; omega) hrd.wf.one
      have hmin : Nat.min ys.length dl = ys.length := Nat.min_eq_left hi
      rw [hmin] at hrun
      exact copy_op hx hy hd hF hrun (H'.rep .here setRow_same (row_splice hC hrd.wf hk)) k
variable {b : Nat}
theorem x_copyUp {el sT : TypeId} {cap k0 : Nat} {xs : List (List Value)} (hx : evl F x = some (.slice (if cap = k0 + 1 then some ⟨b, o, none⟩ else (some (⟨b, o, none⟩ : Addr)).map (·.add ((k0 + 1) * sz))) (xs.length - k0) dc))
    (hy : evl F y = some (.slice (if cap = k0 then some ⟨b, o, none⟩ else (some (⟨b, o, none⟩ : Addr)).map (·.add (k0 * sz))) (xs.length + 1 - k0) sc))
    (ht : P.underlying sT = some (.slice el)) (hT : Ty P el sz by_ agg zs) (hp : Pick (row el sz (.slice (some ⟨b, o, none⟩) xs.length cap) xs) l m) (hk : k0 < xs.length) (hroom : xs.length + 1 ≤ cap) (hd : Nat.blt d n = true)
    (k : Jk E (row el sz (.slice (some ⟨b, o, none⟩) (xs.length + 1) cap) (xs.take (k0 + 1) ++ xs.drop k0) :: m) n ((d, .int .i64 (xs.length - k0 : Nat)) :: F) K) :
    Jop P ops Q ⟨some d, .call { callee := .builtin .copy, args := #[x, y], argTypes := #[sT, sT] }, T, p, e, none⟩ E l n F K := fun w a H hF => by
  have H' := H.pick hp
  obtain ⟨S, hwf, hS⟩ := H'.head
  have hwd : Wf sz (xs.drop k0) := hwf.sub fun y hy => List.mem_of_mem_drop hy
  have hwt : Wf sz (xs.take (k0 + 1)) := hwf.sub fun y hy => List.mem_of_mem_take hy
  rcases hS with ⟨h1, _⟩ | ⟨b', o', cap', C, h1, h2, h3, h4, h5, h6, h7⟩
  · cases h1
  · cases h1
    rw [if_neg (by omega)] at hx hy
    simp only [Option.map_some, Addr.add_lit] at hx hy
    have hdl : (xs.drop k0).flatten.length = (xs.length - k0) * sz := by rw [hwd.len]; simp
    have hcap : (xs.length + 1) * sz ≤ cap * sz := Nat.mul_le_mul_right _ hroom
    have e1 : (k0 + 1) * sz + (xs.length - k0) * sz = (xs.length + 1) * sz := by rw [← Nat.add_mul]; congr 1; omega
    have e2 : k0 * sz + (xs.length - k0) * sz = xs.length * sz := by rw [← Nat.add_mul]; congr 1; omega
    have hCs : C.size = C.toList.length := by simp
    have hmin : Nat.min (xs.length + 1 - k0) (xs.length - k0) = xs.length - k0 := Nat.min_eq_right (by omega)
    have hx1 : (xs.length + 1) * sz = xs.length * sz + sz := by rw [Nat.add_mul]; omega
    have hsrc : ∀ j v, (xs.drop k0).flatten[j]? = some v → w.cell? ((⟨b, o + k0 * sz, none⟩ : Addr).add j) = some v := fun j v hj => by
      have hjl := (List.getElem?_eq_some_iff.1 hj).1
      rw [hdl] at hjl
      rw [Addr.add_lit]
      simp only [World.cell?, h2, Option.isSome_none, Bool.false_eq_true, if_false]
      rw [← drop_flatten hwf, ← h6, List.getElem?_drop, List.getElem?_take, if_pos (by omega), List.getElem?_drop] at hj
      rw [Nat.add_assoc]
      simpa using hj
    have hrun := run_copy_sz (P := P) (w := w) (ty := T) (o := o + (k0 + 1) * sz) (dl := xs.length - k0) (dc := dc) (sl := xs.length + 1 - k0) (sc := sc) (a := ⟨b, o + k0 * sz, none⟩) (cs := (xs.drop k0).flatten) ht hT h2 (by rw [hdl, hmin]) hsrc (by rw [hdl]; omega) hwd.one
    rw [hmin] at hrun
    refine copy_op hx hy hd hF hrun (H'.rep .here setRow_same fun S' hS' => ?_) k
    obtain ⟨_, hS'⟩ := hS'
    have hSb : ∀ k, S' k ↔ k.1 = b := by
      rcases hS' with ⟨h, _⟩ | ⟨b', o', cap', C', h, _, _, _, _, _, h8⟩
      · cases h
      · cases h; exact h8
    have hlen : (xs.take (k0 + 1) ++ xs.drop k0).length = xs.length + 1 := by simp; omega
    refine ⟨⟨S', ⟨hwt.append hwd, .inr ⟨b, o, cap, _, by rw [hlen], setRow_heap w b _ _ el (0, 0) h2, by rw [hlen]; exact hroom, h4, ?_, ?_, hSb⟩⟩, fun _ h => .inl h⟩, fun k _ hk => setRow_out fun h => hk ((hSb k).2 h)⟩
    · simp [hdl]; omega
    · rw [hlen]
      show List.take _ (List.drop o _) = _
      have ht1 : (C.toList.drop o).take ((k0 + 1) * sz) = (xs.take (k0 + 1)).flatten := by
        have := take_take_flatten (i := k0 + 1) hwf
        rw [← this, ← h6, List.take_take, Nat.min_eq_left]
        exact Nat.mul_le_mul_right _ (by omega)
      have hA : ((C.toList.take (o + (k0 + 1) * sz)).drop o).length = (k0 + 1) * sz := by simp; omega
      simp only [List.append_assoc]
      rw [List.drop_append_of_le_length (by simp; omega), List.drop_take, show o + (k0 + 1) * sz - o = (k0 + 1) * sz by omega, ht1, List.flatten_append, ← List.append_assoc]
      have hlt : ((xs.take (k0 + 1)).flatten ++ (xs.drop k0).flatten).length = (xs.length + 1) * sz := by
        rw [List.length_append, hwt.len, hdl]
        have : (xs.take (k0 + 1)).length = k0 + 1 := by simp; omega
        rw [this]; exact e1
      rw [← hlt, List.take_left]
theorem run_append_make {t u ty e : TypeId} {i : TypeInfo} {z : Value} (ht : P.underlying t = some (.slice e)) (hu : P.underlying u = some (.int .i64)) (hi : P.info? e = some i) (hz : i.zero = some z)
    {b : Option Addr} {sLen sCap : Nat} {olds : Array Value} (hold : (Builtin.firstCells i.size sLen (.slice b sLen sCap)).run P w.drew = .ok olds w.drew)
    (hg : sCap < sLen + k) (h0 : 0 < k) (hs0 : 0 < i.size) (h63 : ((sLen + k : Nat) : Int) ≤ 9223372036854775807) (h48 : k * i.bytes ≤ 281474976710656) (hfit : Builtin.nextslicecap (sLen + k) sCap * i.bytes ≤ 281474976710656) :
    (Builtin.append_ #[t, u] ty #[.slice b sLen sCap, .int .i64 (k : Int)]).run P w =
      .ok (.slice (some ⟨w.heap.size, 0, none⟩) (sLen + k) (grownCap w (sLen + k) sCap e))
        (w.drew.alloc (.cells (olds ++ Builtin.zeroCells z.cells k ++ Builtin.zeroCells z.cells (grownCap w (sLen + k) sCap e - (sLen + k))) e)) := by
  have hn : ¬ (sLen + k ≤ sCap) := by omega
  have h63' : ¬ (9223372036854775807 < ((sLen : Int) + (k : Int))) := by omega
  have hfit' : ¬ (281474976710656 < Builtin.nextslicecap (sLen + k) sCap * i.bytes) := by omega
  have hwrap : IntKind.i64.wrap (k : Int) = (k : Int) := wrap64_of (by omega)
  have hk0 : ¬ ((k : Int) < 0) := by omega
  have h48' : ¬ (281474976710656 < (k : Int) * (i.bytes : Int)) := by rw [← Int.natCast_mul]; omega
  have hks : ¬ (k = 0 ∨ i.size = 0) := by omega
  simp [Builtin.append_, run_underlying ht, run_underlying hu, sizeOf, typeInfo, zeroValue, hi, hz, asInt, asIntOf, hwrap, hk0, h48', hn, h63', hfit', Question.forced, hold, newRow, grownCap, hks]
  intro h
  exact absurd h (by have := Nat.mul_pos h0 hs0; omega)
theorem x_appMake {el sT iT : TypeId} {i cap : Nat} {z0 : Nat} {xs : List (List Value)} {a0 : Option Addr} (hx : evl F x = some (.slice a0 i cap)) (hy : evl F y = some (.int .i64 (z0 : Int))) (ht : P.underlying sT = some (.slice el)) (hti : P.underlying iT = some (.int .i64))
    (hT : Ty P el sz by_ agg zs) (hsz : Nat.blt 0 sz = true) (hzl : zs.length = sz) (h1z : ones zs = true) (hr : ∀ w, Sep E w l → Reads w sz (.slice a0 i cap) xs) (hg : cap < i + z0) (h0 : 0 < z0) (hb : (i + z0) * by_ ≤ 140737488355328) (hm : i + z0 ≤ 9223372036854775807) (hd : Nat.blt d n = true)
    (k : ∀ v', Jk E (row el sz v' (xs ++ List.replicate z0 zs) :: l) n ((d, v') :: F) K) :
    Jop P ops Q ⟨some d, .call { callee := .builtin .append, args := #[x, y], argTypes := #[sT, iT] }, T, p, e, none⟩ E l n F K := fun w a H hF => by
  obtain ⟨inf, zv, hi, hi1, hi2, hi3, hi4⟩ := hT.get
  have hrd := hr w H
  obtain ⟨a2, c2, hv2, hc2, hc2', hn2, ha2⟩ := hrd.is
  cases hv2
  have hsz' : 0 < sz := by simpa using hsz
  have hzs : zv.cells.size = sz := by rw [← Array.length_toList, hi4, hzl]
  have hzv : zv.cells = zs.toArray := by rw [← hi4]
  have hmulz : z0 * by_ ≤ (xs.length + z0) * by_ := Nat.mul_le_mul_right _ (by omega)
  have hfit : Builtin.nextslicecap (xs.length + z0) cap * inf.bytes ≤ 281474976710656 := growslice_fits hg (by rw [hi2]; exact hb)
  have hwf : Wf sz (List.replicate z0 zs) := fun y hy => by rw [List.eq_of_mem_replicate hy]; exact ⟨hzl, h1z⟩
  have hold : (Builtin.firstCells inf.size xs.length (.slice a0 xs.length cap)).run P w.drew = .ok xs.flatten.toArray w.drew := by
    cases a0 with
    | none =>
      have : xs = [] := (hn2 rfl).1
      subst this
      simp [Builtin.firstCells]
    | some ad => exact run_firstCells_some w.drew inf.size xs.length ad _ _ xs.flatten (by rw [hi1]; exact hrd.wf.len) (by simpa using (ha2 ad rfl).2)
  have hge := grownCap_ge w (xs.length + z0) cap el
  have hcm : grownCap w (xs.length + z0) cap el ≤ maxLen := grownCap_le_maxLen w (xs.length + z0) cap el (by simpa [maxLen] using hm)
  have hrun := run_append_make (P := P) (w := w) (ty := T) ht hti hi hi3 hold hg h0 (by omega) (by omega) (by rw [hi2]; omega) hfit
  have hw : Region.wanted (⟨some d, .call { callee := .builtin .append, args := #[x, y], argTypes := #[sT, iT] }, T, p, e, none⟩ : Oper) (yielded ops a.tmps) = true := rfl
  rw [if_pos hw]
  unfold Oper.wp
  have hex : (execOp a.eval ⟨some d, .call { callee := .builtin .append, args := #[x, y], argTypes := #[sT, iT] }, T, p, e, none⟩).run P w = .ok (.value (.slice (some ⟨w.heap.size, 0, none⟩) (xs.length + z0) (grownCap w (xs.length + z0) cap el)))
      (w.drew.alloc (.cells (xs.flatten.toArray ++ Builtin.zeroCells zv.cells z0 ++ Builtin.zeroCells zv.cells (grownCap w (xs.length + z0) cap el - (xs.length + z0))) el)) := by
    simp [execOp, resolve, invoke, builtin, hF.evl hx, hF.evl hy, hrun]
  rw [hex]
  have hwa : Wf sz (xs ++ List.replicate z0 zs) := hrd.wf.append hwf
  have hl2 : (xs ++ List.replicate z0 zs).length = xs.length + z0 := by simp
  have hrw := row_new (el := el) (w := w.drew) (C := xs.flatten.toArray ++ Builtin.zeroCells zv.cells z0 ++ Builtin.zeroCells zv.cells (grownCap w (xs.length + z0) cap el - (xs.length + z0))) hwa
    (cap := grownCap w (xs.length + z0) cap el) (by rw [hl2]; exact hge) hcm
    (by simp only [Array.size_append, List.size_toArray, size_zeroCells, hzs, hrd.wf.len, ← Nat.add_mul]; congr 1; omega)
    (by
      have e1 : (Builtin.zeroCells zv.cells z0).toList = (List.replicate z0 zs).flatten := by rw [hzv, zeroCells_flat]
      simp only [Array.toList_append, e1, ← List.flatten_append]
      rw [← hwa.len]; exact List.take_left)
  rw [hl2] at hrw
  exact k _ _ _ (H.drew.add alloc_same (fun _ hb => alloc_old hb) hrw (fun b hb => by omega)) (hF.put hd)
/-! ### two rows lie apart -/
theorem rows_apart {e1 e2 : TypeId} {s1 s2 : Nat} {b1 b2 o1 o2 l1 l2 c1 c2 : Nat} {xs ys : List (List Value)} (H : Sep E w (row e1 s1 (.slice (some ⟨b1, o1, none⟩) l1 c1) xs :: row e2 s2 (.slice (some ⟨b2, o2, none⟩) l2 c2) ys :: l)) : b1 ≠ b2 := by
  obtain ⟨S, S1, S2, ⟨_, h1⟩, ⟨T1, T2, ⟨_, h2⟩, _, _, he2⟩, hd, _⟩ := H.own
  intro e
  subst e
  rcases h1 with ⟨h, _⟩ | ⟨b, o, c, C, h, _, _, _, _, _, g1⟩
  · cases h
  · cases h
    rcases h2 with ⟨h, _⟩ | ⟨b, o, c, C, h, _, _, _, _, _, g2⟩
    · cases h
    · cases h
      exact hd (b1, 0) ((g1 _).2 Z) ((he2 _).2 (.inl ((g2 _).2 Z)))
variable {fn : Func}
theorem x_overlaps {sT tR el : TypeId} {f : FuncId} {ats : Array TypeId} {sz by_ vb vo vl vc b o len cap lb cb ob : Nat} {xs ys : List (List Value)} {m1 m2 : List As} (hf : P.funcs[f]? = some fn) (hname : (fn.name == "runtime.NumGoroutine") = false) (hbn : fn.body.isNone = true) (hnx : Extern.findNext fn = none)
    (hfe : Extern.find fn = some (Extern.SlicesOverlaps.overlaps #[sT, sT] #[tR])) (hx : evl F x = some (.slice (some ⟨vb, vo, none⟩) vl vc)) (hy : evl F y = some (.slice (some ⟨b, ob, none⟩) lb cb)) (ht : P.underlying sT = some (.slice el)) (hT : Ty P el sz by_ agg zs) (hsz : Nat.blt 0 sz = true)
    (hp1 : Pick (row el sz (.slice (some ⟨vb, vo, none⟩) vl vc) ys) l m1) (hp2 : Pick (row el sz (.slice (some ⟨b, o, none⟩) len cap) xs) m1 m2) (hc0 : 0 < cap) (hd : Nat.blt d n = true) (k : Jk E l n ((d, .bool false) :: F) K) :
    Jop P ops Q ⟨some d, .call { callee := .value (.func f), args := #[x, y], argTypes := ats }, T, p, e, none⟩ E l n F K := fun w a H hF => by
  have H1 := H.pick hp1
  have H2 := H1.pick (.there hp2)
  have H3 := H2.pick (.there .here)
  obtain ⟨S1, hS1⟩ := H1.head
  obtain ⟨S2, hS2⟩ := H2.head
  obtain ⟨C1, hC1, _, _, hs1⟩ := row_block hS1
  obtain ⟨C2, hC2, _, _, hs2⟩ := row_block hS2
  have hne : vb ≠ b := rows_apart H3
  have hsz' : 0 < sz := by simpa using hsz
  have hk2 : C2.size ≠ 0 := by have := Nat.mul_pos hc0 hsz'; omega
  have hw : Region.wanted (⟨some d, .call { callee := .value (.func f), args := #[x, y], argTypes := ats }, T, p, e, none⟩ : Oper) (yielded ops a.tmps) = true := rfl
  rw [if_pos hw]
  unfold Oper.wp
  have hov := Lib.run_overlaps_apart (P := P) w sT tR el ht sz (fun w => hT.sizeOf w) ⟨vb, vo, none⟩ ⟨b, ob, none⟩ vl vc lb cb hne el el C1.size C2.size (by simp [World.shape?, hC1]) (by simp [World.shape?, hC2]) hk2 (by simp [World.frozen?, hC1]) (by simp [World.frozen?, hC1])
  have hcf : (callFunc f #[.slice (some ⟨vb, vo, none⟩) vl vc, .slice (some ⟨b, ob, none⟩) lb cb]).run P w = .ok (.value (.bool false)) w := by
    rw [run_callFunc_extern hf hname hbn hnx hfe, hov]; rfl
  have hex : (execOp a.eval ⟨some d, .call { callee := .value (.func f), args := #[x, y], argTypes := ats }, T, p, e, none⟩).run P w = .ok (.value (.bool false)) w := by
    simp only [execOp, resolve, Act.eval, Deferred.ofValue, invoke]
    simp [hF.evl hx, hF.evl hy, hcf]
  rw [hex]
  exact k w _ H (hF.put hd)
end
theorem lset_same {α : Type} {xs : List α} {i : Nat} {y : α} (h : xs[i]? = some y) : xs.set i y = xs := by
  obtain ⟨hl, rfl⟩ := List.getElem?_eq_some_iff.1 h
  exact List.set_getElem_self hl
variable {ms : List (List Int)} {u : Nat}
theorem snd_at {xs : List (Value × List Int)} {r : List Int} (h : xs.map Prod.snd = ms) (hr : ms[u]? = some r) : ∃ v, xs[u]? = some (v, r) := by
  subst h
  rw [List.getElem?_map] at hr
  obtain ⟨⟨v, x⟩, h1, rfl⟩ := Option.map_eq_some_iff.1 hr
  exact ⟨v, h1⟩
theorem fst_set {xs : List (Value × List Int)} {r r' : List Int} (h : xs[u]? = some (v, r)) : ((xs.set u (v, r')).map fun x => [x.1]) = xs.map fun x => [x.1] := by
  rw [List.map_set]
  exact lset_same (by rw [List.getElem?_map, h]; rfl)
theorem partC {b u off n br orr len cr : Nat} {ms : List Int} {xs : List (Value × List Int)} (hb : Has (blk b 292 [v]) l) (hv : Has (row 73 1 v (xs.map fun x => [x.1])) l) (hx : xs[u]? = some (.slice (some ⟨br, orr, none⟩) len cr, ms)) (hxl : xs.length ≤ 64) (ho : off + n ≤ 512) (hc : 512 ≤ cr) :
    Con Tryz.prog 85 #[.pointer (some ⟨b, 0, none⟩), .int .i64 ((u : Int) + 1), .int .i64 (off : Int), .int .i64 (n : Int)] E l (fun _ : Unit => .tuple #[.slice (if cr = off then some ⟨br, orr, none⟩ else (some (⟨br, orr, none⟩ : Addr)).map (·.add (off * 1))) n (cr - off), .bool true]) (fun _ => l) := by
  refine Con.body (n := 52) Tryz.func85 Z Z _ (env_ok 4 Z) ?_
  have hxu := (List.getElem?_eq_some_iff.1 hx).1
  refine J_row hv fun hw a cap hv' h1 h2 h3 => ?_
  have hml : (xs.map fun x : Value × List Int => [x.1]).length = xs.length := List.length_map _
  obtain ⟨bx, ox, rfl⟩ := h3 (by intro h; rw [h] at hml; simp at hml; omega)
  subst hv'
  have hm : cap ≤ 9223372036854775807 := h2
  refine sr <| ag Z Z <| ag Z Z <| nxx <| mv Z Z <| L_pur Z (p_lss Z Z) <| mv Z Z <| J_bool (t := 12) (c := false) Z (by first | (simp; omega) | simp) <| gp Z Z Z (p_move Z) Z <| gp Z Z Z (p_move Z) Z <| L_op <| G_on Z Z Z <| J_pur (p_nilCheck Z) Z Z Z <| gp Z Z Z (p_fieldAddr Z fa292_0) Z <| L_op <| G_on Z Z Z <| J_val (v_load Z ty290 HS (by exact rfl)) Z Z Z <| gp Z Z Z (p_len Z Tryz.underlying290) Z <| gp Z Z Z (p_gtr Z Z) Z <| L_pur Z (p_pick_f Z Z) <| mv Z Z <| J_bool (t := 21) (c := false) Z (by first | (simp; omega) | simp) <| gp Z Z Z (p_move Z) Z <| gp Z Z Z (p_lss Z Z) Z <| L_pur Z (p_pick_f Z Z) <| mv Z Z <| J_bool (t := 25) (c := false) Z (by first | (simp; omega) | simp) <| gp Z Z Z (p_move Z) Z <| gp Z Z Z (p_lss Z Z) Z ?_
  refine L_pur Z (p_pick_f Z Z) <| mv Z Z <| J_bool (t := 29) (c := false) Z (by first | (simp; omega) | simp) <| gp Z Z Z (p_move Z) Z <| L_op <| G_on Z Z Z <| J_pur (p_gtr Z Z) Z Z Z <| L_pur Z (p_pick_f Z Z) <| mv Z Z <| J_bool (t := 33) (c := false) Z (by first | (simp; omega) | simp) <| gp Z Z Z (p_move Z) Z <| L_op <| G_on Z Z Z <| J_pur (p_move Z) Z Z Z <| gp Z Z Z (p_sub64 Z Z (by omega)) Z <| gp Z Z Z (p_gtr Z Z) Z <| L_pur Z (p_pick_f Z Z) <| nq <| J_bool (t := 38) (c := false) Z (by first | (simp; omega) | simp) <| C_false Z <| J_skip <| qx <| mv Z Z <| nc Z Z <| fa Z Z fa292_0 <| L_val Z (v_load Z ty290 HS (by exact rfl)) <| mv Z Z <| L_pur Z (p_sub64 Z Z (by omega)) <| L_pur Z (p_indexAddr Z Z Tryz.underlying290 ty73 (by omega) (by simp; omega)) <| L_val Z (v_loadE1 Z ty73 hv (by rw [show ((u : Int) + 1 - 1).toNat = u by omega, List.getElem?_map, hx]; rfl)) ?_
  refine mv Z Z <| mv Z Z <| mv Z Z <| L_pur Z (p_add64 Z Z (by omega)) <| L_pur Z (p_slice Z Tryz.underlying73 ty5 Z Z (by omega) (by omega) (by omega)) <| J_slot (t := 51) (v := .slice (if cr = off then some ⟨br, orr, none⟩ else (some (⟨br, orr, none⟩ : Addr)).map (·.add (off * 1))) n (cr - off)) Z (by rw [show ((off : Int) + (n : Int)).toNat = off + n by omega, show ((off : Int)).toNat = off by omega, Nat.add_sub_cancel_left]) <| ag Z Z <| ag Z Z <| nq <| J_ret <| J_return (()) Tryz.results85 (.tmp Z (.tmp Z .nil)) ?_ ?_
  · rfl
  · exact SU
variable {m : List As} {b : Nat}
theorem readC {r : List Int} (hp : Pick (memA b ms) l m) (hms : ms.length = 64) (hu : ms[u]? = some r) (hrl : r.length = 512) {off n : Nat} (ho : off + n ≤ 512) :
  Con Tryz.prog 50 #[.pointer (some ⟨b, 0, none⟩), .int .i64 ((u : Int) + 1), .int .i64 (off : Int), .int .i64 (n : Int)] E l (fun v : Value => .tuple #[v, .bool true]) (fun v => row 5 1 v (((r.drop off).take n).map encU) :: memA b ms :: m) := by
 refine Con.body (n := 23) Tryz.func50 Z Z _ (env_ok 4 Z) <| J_pick hp <| J_memO fun v xs hxs => ?_
 have hxl : xs.length = 64 := by rw [← hms, ← show xs.map Prod.snd = ms from hxs, List.length_map]
 obtain ⟨vr, hx⟩ := snd_at hxs hu
 have hxu := (List.getElem?_eq_some_iff.1 hx).1
 refine J_pick (A := each memF xs) PC <| J_eachOut hx <| J_asTo (B := row 5 1 vr (r.map encU)) (by rfl) <| J_row .here fun hwr ar cr hvr hr1 hr2 hr3 => ?_
 have hlr : (r.map encU).length = 512 := by rw [List.length_map]; exact hrl
 obtain ⟨br, orr, rfl⟩ := hr3 (by intro h; rw [h] at hlr; simp at hlr)
 subst hvr
 have hcr : cr ≤ 9223372036854775807 := hr2
 refine sr <| ag Z Z <| ag Z Z <| nx <| mv Z Z <| mv Z Z <| mv Z Z <| mv Z Z <| xo fc85 (A4 Z Z Z Z) Z (partC (len := (r.map encU).length) HS HS hx (by omega) ho (by omega)) fun _ => mv Z Z <| L_pur Z (p_extract Z Z) <| L_pur Z (p_extract Z Z) <| ag Z Z <| ag Z Z <| nx <| mv Z Z <| xo fc97 (A1 Z) Z (clone97 (xs := (((r.map encU).drop off).take n)) (fun w H => ((sep_reads (xs := r.map encU) HS H).drop (lo := off) (by omega)).take (i := n) (by simp; omega)) (by simp; omega)) <| JE (((r.drop off).take n).map encU) (by rw [List.map_take, List.map_drop]) fun a21 c21 hw21 hl21 hm21 hz21 => mv Z Z <| ag Z Z <| ag Z Z <| nq <| J_ret <| J_pick (A := row 5 1 (.slice (some ⟨br, orr, none⟩) (r.map encU).length cr) _) PC <| J_asTo (B := memF (.slice (some ⟨br, orr, none⟩) (r.map encU).length cr, r)) (by rfl) <| J_pick (A := each memF _) PC <| J_pick (A := memF _) PC ?_
 refine J_eachIn (.slice (some ⟨br, orr, none⟩) (r.map encU).length cr, r) hxu ?_
 skip
 refine J_pick (A := row 73 1 v _) PC <| J_rowEq (ys := (xs.set u (.slice (some ⟨br, orr, none⟩) (r.map encU).length cr, r)).map fun x : Value × List Int => [x.1]) (fst_set hx).symm <| J_memS (b := b) (ms := (ms.set u r)) v (xs.set u (.slice (some ⟨br, orr, none⟩) (r.map encU).length cr, r)) PX (by show List.map Prod.snd _ = _; rw [List.map_set, show xs.map Prod.snd = ms from hxs]) <| J_asTo (B := memA b ms) (by rw [lset_same hu]) ?_
 exact J_return (_) Tryz.results50 (.tmp Z (.tmp Z .nil)) Z SU
theorem writeC {r : List Int} (hp : Pick (memA b ms) l m) (hms : ms.length = 64) (hu : ms[u]? = some r) (hrl : r.length = 512) {off : Nat} {v' : Value} (hr : ∀ w, Sep E w m → Reads w 1 v' (ys.map encU)) (ho : off + ys.length ≤ 512) :
    Con Tryz.prog 40 #[.pointer (some ⟨b, 0, none⟩), .int .i64 ((u : Int) + 1), .int .i64 (off : Int), v'] E l (fun _ : Unit => .bool true) (fun _ => memA b (ms.set u (putB r off ys)) :: m) := by
  refine Con.body (n := 24) Tryz.func40 Z Z _ (env_ok 4 Z) <| J_readsB (fun w H => hr w (H.pick hp).tail) fun hw' a' cap' hv' h1' h2' h3' => ?_
  subst hv'
  refine J_pick hp <| J_memO fun v xs hxs => ?_
  have hxl : xs.length = 64 := by rw [← hms, ← show xs.map Prod.snd = ms from hxs, List.length_map]
  obtain ⟨vr, hx⟩ := snd_at hxs hu
  have hxu := (List.getElem?_eq_some_iff.1 hx).1
  refine J_pick (A := each memF xs) PC <| J_eachOut hx <| J_asTo (B := row 5 1 vr (r.map encU)) (by rfl) <| J_row .here fun hwr ar cr hvr hr1 hr2 hr3 => ?_
  have hlr : (r.map encU).length = 512 := by rw [List.length_map]; exact hrl
  obtain ⟨br, orr, rfl⟩ := hr3 (by intro h; rw [h] at hlr; simp at hlr)
  subst hvr
  have hcr : cr ≤ 9223372036854775807 := hr2
  refine sr <| ag Z Z <| nx <| mv Z Z <| mv Z Z <| mv Z Z <| mv Z Z <| L_pur Z (p_len Z Tryz.underlying73) <| J_slot (t := 16) (v := .int .i64 (ys.length : Int)) Z (by simp) <| xo fc85 (A4 Z Z Z Z) Z (partC (len := (r.map encU).length) (n := ys.length) HS HS hx (by omega) ho (by omega)) fun _ => mv Z Z <| L_pur Z (p_extract Z Z) <| L_pur Z (p_extract Z Z) <| ag Z Z <| ag Z Z <| nx <| mv Z Z <| mv Z Z <| L_op <| x_copyTo (k0 := off) (len := (r.map encU).length) (xs := r.map encU) (ys := ys.map encU) Z Z Tryz.underlying73 ty5 PC (fun w H => hr w (Sub.sep SU H)) (by simp) (by simp; omega) Z <| J_rowEq (ys := (putB r off ys).map encU) (by simp [putB]) <| nx <| mv Z Z <| ag Z Z <| nq <| J_ret <| J_pick (A := row 5 1 (.slice (some ⟨br, orr, none⟩) (r.map encU).length cr) _) PC ?_
  refine J_asTo (B := memF (.slice (some ⟨br, orr, none⟩) (r.map encU).length cr, putB r off ys)) (by rfl) <| J_pick (A := each memF _) PC <| J_pick (A := memF _) PC <| J_eachIn (.slice (some ⟨br, orr, none⟩) (r.map encU).length cr, putB r off ys) hxu ?_
  skip
  refine J_pick (A := row 73 1 v _) PC <| J_rowEq (ys := (xs.set u (.slice (some ⟨br, orr, none⟩) (r.map encU).length cr, putB r off ys)).map fun x : Value × List Int => [x.1]) (fst_set hx).symm <| J_memS (b := b) (ms := (ms.set u (putB r off ys))) v (xs.set u (.slice (some ⟨br, orr, none⟩) (r.map encU).length cr, putB r off ys)) PX (by show List.map Prod.snd _ = _; rw [List.map_set, show xs.map Prod.snd = ms from hxs]) <| J_return (()) Tryz.results40 (.tmp Z .nil) ?_ ?_
  · rfl
  · exact SU
def rowAt (ms : List (List Int)) (u : Int) : List Int := (ms[(u - 1).toNat]?).getD []
structure MemOk (ms : List (List Int)) : Prop where
  len : ms.length = 64
  rows : ∀ r ∈ ms, r.length = 512 ∧ Bytes r
structure RgOk (r : Rg) : Prop where
  sq : 1 ≤ r.sq ∧ r.sq ≤ 64
  cq : 1 ≤ r.cq ∧ r.cq ≤ 64
  cb : 0 ≤ r.cb ∧ r.cb ≤ 4
  tail : 0 ≤ r.tail ∧ r.tail < 4294967296
  sb : 0 ≤ r.sb ∧ r.sb ≤ 3
  head : 0 ≤ r.head ∧ r.head < 4294967296
theorem MemOk.at (h : MemOk ms) {u : Int} (hu : 1 ≤ u ∧ u ≤ 64) : ms[(u - 1).toNat]? = some (rowAt ms u) ∧ (rowAt ms u).length = 512 ∧ Bytes (rowAt ms u) := by
  have hl : (u - 1).toNat < ms.length := by rw [h.len]; omega
  have e := List.getElem?_eq_getElem hl
  have e2 : rowAt ms u = ms[(u - 1).toNat] := by unfold rowAt; rw [e]; rfl
  exact ⟨by rw [e2]; exact e, by rw [e2]; exact h.rows _ (List.getElem_mem hl)⟩
theorem MemOk.put (h : MemOk ms) {r : List Int} (hr : r.length = 512 ∧ Bytes r) : MemOk (ms.set u r) := ⟨by rw [List.length_set, h.len], fun x hx => by
  rcases List.mem_or_eq_of_mem_set hx with h1 | h1
  · exact h.rows x h1
  · rw [h1]; exact hr⟩
def rgFar (r : Rg) (ms : List (List Int)) : Int := IntKind.u32.wrap (r.tail - getN (rowAt ms r.cq) 0 4)
def rgRoom (r : Rg) (ms : List (List Int)) : Int := if rgFar r ms > 2 ^ r.cb.toNat then 0 else 2 ^ r.cb.toNat - rgFar r ms
def rgWrOk (r : Rg) (ms : List (List Int)) : Bool := decide (rgFar r ms < 2 ^ r.cb.toNat)
def rgRow (r : Rg) (ms : List (List Int)) (c : Cqe) : List Int := putB (putB (rowAt ms r.cq) (16 + r.tail % 2 ^ r.cb.toNat * 16).toNat (bytesX c)) 4 (le4 (IntKind.u32.wrap (r.tail + 1)))
def rgUp (r : Rg) : Rg := { r with tail := IntKind.u32.wrap (r.tail + 1) }
def postOk (r : Rg) (ms : List (List Int)) : Bool := r.over.isEmpty && rgWrOk r ms
def postR (r : Rg) (ms : List (List Int)) (c : Cqe) : Rg := if postOk r ms then rgUp r else { r with over := r.over ++ [c] }
def postM (r : Rg) (ms : List (List Int)) (c : Cqe) : List (List Int) := if postOk r ms then ms.set (r.cq - 1).toNat (rgRow r ms c) else ms
theorem wrap32_in (n : Int) : 0 ≤ IntKind.u32.wrap n ∧ IntKind.u32.wrap n < 4294967296 := by
  have : IntKind.u32.wrap n = n % 4294967296 := by simp [IntKind.wrap, IntKind.bits, IntKind.signed]
  rw [this]; omega
theorem cutI_in {n a b : Int} (h : a ≤ b) : a ≤ cutI n a b ∧ cutI n a b ≤ b := by
  unfold cutI; split <;> split <;> omega
theorem rgNew_is {a b cs cc : Int} (ha : 1 ≤ a ∧ a ≤ 64) (hb : 1 ≤ b ∧ b ≤ 64) : RgOk (rgNew a b cs cc) := ⟨ha, hb, cutI_in (by omega), ⟨by show (0 : Int) ≤ 0; omega, by show (0 : Int) < _; omega⟩, cutI_in (by omega), ⟨by show (0 : Int) ≤ 0; omega, by show (0 : Int) < _; omega⟩⟩
variable {r : Rg}
theorem RgOk.up (h : RgOk r) : RgOk (rgUp r) := ⟨h.sq, h.cq, h.cb, wrap32_in _, h.sb, h.head⟩
theorem pow_cb {k : Int} (h : 0 ≤ k ∧ k ≤ 4) : (1 : Int) ≤ 2 ^ k.toNat ∧ (2 : Int) ^ k.toNat ≤ 16 ∧ IntKind.u32.wrap (1 * 2 ^ k.toNat) = 2 ^ k.toNat := by
  have : k = 0 ∨ k = 1 ∨ k = 2 ∨ k = 3 ∨ k = 4 := by omega
  rcases this with rfl | rfl | rfl | rfl | rfl <;> decide
theorem place_in (h : RgOk r) : 0 ≤ r.tail % 2 ^ r.cb.toNat ∧ r.tail % 2 ^ r.cb.toNat ≤ 15 := by
  have h2 := pow_cb h.cb
  have h3 := Int.emod_nonneg r.tail (b := 2 ^ r.cb.toNat) (by omega)
  have h4 := Int.emod_lt_of_pos r.tail (b := 2 ^ r.cb.toNat) (by omega)
  omega
theorem rgRow_ok (h : RgOk r) (hM : MemOk ms) (c : Cqe) : (rgRow r ms c).length = 512 ∧ Bytes (rgRow r ms c) := by
  obtain ⟨h1, h2, h3⟩ := hM.at h.cq
  have h4 := place_in h
  have h5 : (putB (rowAt ms r.cq) (16 + r.tail % 2 ^ r.cb.toNat * 16).toNat (bytesX c)).length = 512 := by rw [putB_len (by rw [bytesX_len]; omega), h2]
  exact ⟨by unfold rgRow; rw [putB_len (by simp [le4]; omega), h5], putB_bytes (putB_bytes h3 (bytesX_bytes c)) (le4_bytes _)⟩
theorem postM_ok (h : RgOk r) (hM : MemOk ms) (c : Cqe) : MemOk (postM r ms c) := by
  unfold postM; split
  · exact hM.put (rgRow_ok h hM c)
  · exact hM
theorem postR_ok (h : RgOk r) (c : Cqe) : RgOk (postR r ms c) := by
  unfold postR; split
  · exact h.up
  · exact ⟨h.sq, h.cq, h.cb, h.tail, h.sb, h.head⟩
variable {mb : Nat}
theorem ringWord (hp : Picks [blk b 217 [.pointer (some ⟨mb, 0, none⟩), .int .i64 r.sq, .int .i64 r.cq, .int .i64 r.sb, .int .i64 r.cb, .int .u32 r.head, .int .u32 r.tail, v], memA mb ms] l m) {x : List Int} {at_ : Nat} (hat : at_ + 4 ≤ 512) (hms : ms.length = 64) (hu : ms[u]? = some x) (hxl : x.length = 512) (hB : Bytes x) :
    Con Tryz.prog 95 #[.pointer (some ⟨b, 0, none⟩), .int .i64 ((u : Int) + 1), .int .i64 (at_ : Int)] E l (fun _ : Unit => .int .u32 (getN x at_ 4)) (fun _ => blk b 217 [.pointer (some ⟨mb, 0, none⟩), .int .i64 r.sq, .int .i64 r.cq, .int .i64 r.sb, .int .i64 r.cb, .int .u32 r.head, .int .u32 r.tail, v] :: memA mb ms :: m) := by
  refine Con.body (n := 21) Tryz.func95 Z Z _ (env_ok 3 Z) <| J_picks2 hp <| sr <| ag Z Z <| nx <| mv Z Z <| nc Z Z <| fa Z Z fa217_0 <| L_val Z (v_load Z ty75 HS (by exact rfl)) <| mv Z Z <| mv Z Z <| xo fc50 (A4 Z Z Z Z) Z (readC (ms := ms) (u := u) (off := at_) (n := 4) PC hms hu hxl (by omega)) fun x16 => mv Z Z <| L_pur Z (p_extract Z Z) <| L_pur Z (p_extract Z Z) <| ag Z Z <| ag Z Z <| nx <| mv Z Z <| xo fc139 (A2 Z Z) Z (u32C (a := 0) (bs := (x.drop at_).take 4) (fun w H => sep_reads (xs := ((x.drop at_).take 4).map encU) HS H) (by simp; omega) (by simp; omega) (part_bytes hB)) fun _ => J_slot (t := 20) (v := .int .u32 (getN x at_ 4)) Z (by rw [getN_part]) <| ag Z Z <| nq <| J_ret <| J_return (()) Tryz.results95 (.tmp Z .nil) ?_ ?_
  · rfl
  · exact SU
theorem ringPuts (hp : Picks [blk b 217 [.pointer (some ⟨mb, 0, none⟩), .int .i64 r.sq, .int .i64 r.cq, .int .i64 r.sb, .int .i64 r.cb, .int .u32 r.head, .int .u32 r.tail, v], memA mb ms] l m) {x : List Int} {n : Int} {at_ : Nat} (hat : at_ + 4 ≤ 512) (hms : ms.length = 64) (hu : ms[u]? = some x) (hxl : x.length = 512)  :
    Con Tryz.prog 195 #[.pointer (some ⟨b, 0, none⟩), .int .i64 ((u : Int) + 1), .int .i64 (at_ : Int), .int .u32 n] E l (fun _ : Unit => .tuple #[]) (fun _ => blk b 217 [.pointer (some ⟨mb, 0, none⟩), .int .i64 r.sq, .int .i64 r.cq, .int .i64 r.sb, .int .i64 r.cb, .int .u32 r.head, .int .u32 r.tail, v] :: memA mb (ms.set u (putB x at_ (le4 n))) :: m) := by
  refine Con.body (n := 18) Tryz.func195 Z Z _ (env_ok 4 Z) <| J_picks2 hp <| J_drawL (some 9) mixed <| ip 0 Z Z Z Z (p_move Z) <| ip 1 Z Z Z Z (p_nilCheck Z) <| ip 2 Z Z Z Z (p_fieldAddr Z fa217_0) <| iv 3 Z Z Z Z (fun _ => v_load Z ty75 HS (by exact rfl)) <| ip 4 Z Z Z Z (p_move Z) <| ip 5 Z Z Z Z (p_move Z) <| ip 7 Z Z Z Z (p_move Z) <| i1 6 Z <| x_make (len := 4) Z Z Tryz.underlying73 ty5 Z Z (by simp) (by simp) Z Z <| JE ((List.replicate 4 0).map encU) (by rfl) fun a14 c14 hw14 hl14 hm14 hz14 => i1 8 Z <| xc fc264 (A3 Z Z Z) Z (put32C (a := 0) (bs := List.replicate 4 0) (fun w H => sep_reads (xs := (List.replicate 4 (0 : Int)).map encU) HS H) (by decide) (by decide)) ?_
  refine JE ((le4 n).map encU) (by rfl) fun a16 c16 hw16 hl16 hm16 hz16 => i1 9 Z <| xc fc40 (A4 Z Z Z Z) Z (writeC (ms := ms) (u := u) (r := x) (off := at_) (ys := le4 n) PC hms hu hxl (fun w H => sep_reads (xs := (le4 n).map encU) HS H) (by simp [le4]; omega)) fun _ => i0 <| J_endnormal ?_
  exact J_return (()) Tryz.results195 .nil Z SU
theorem ringRoom (hp : Picks [blk b 217 [.pointer (some ⟨mb, 0, none⟩), .int .i64 r.sq, .int .i64 r.cq, .int .i64 r.sb, .int .i64 r.cb, .int .u32 r.head, .int .u32 r.tail, v], memA mb ms] l m) (hR : RgOk r) (hM : MemOk ms) :
    Con Tryz.prog 49 #[.pointer (some ⟨b, 0, none⟩)] E l (fun _ : Unit => .tuple #[.int .i64 (rgRoom r ms), .bool (!decide (rgFar r ms > 2 ^ r.cb.toNat))]) (fun _ => blk b 217 [.pointer (some ⟨mb, 0, none⟩), .int .i64 r.sq, .int .i64 r.cq, .int .i64 r.sb, .int .i64 r.cb, .int .u32 r.head, .int .u32 r.tail, v] :: memA mb ms :: m) := by
  refine Con.body (n := 29) Tryz.func49 Z Z _ (env_ok 1 Z) <| J_picks2 hp ?_
  obtain ⟨hu, hxl, hB⟩ := hM.at hR.cq
  obtain ⟨x, hx⟩ : ∃ x, x = rowAt ms r.cq := ⟨_, rfl⟩
  obtain ⟨u, huq⟩ : ∃ u : Nat, r.cq = (u : Int) + 1 := ⟨(r.cq - 1).toNat, by have := hR.cq; omega⟩
  have hu1 : (r.cq - 1).toNat = u := by omega
  rw [← hx, hu1] at hu
  rw [← hx] at hxl hB
  have hcb := pow_cb hR.cb
  have hcr := hR.cb
  refine sr <| ag Z Z <| ag Z Z <| nq <| J_seq <| J_drawL none mixed <| ip 0 Z Z Z Z (p_move Z) <| ip 1 Z Z Z Z (p_nilCheck Z) <| ip 2 Z Z Z Z (p_fieldAddr Z fa217_6) <| iv 3 Z Z Z Z (fun _ => v_load Z ty22 HS (by exact rfl)) <| ip 4 Z Z Z Z (p_move Z) <| ip 5 Z Z Z Z (p_move Z) <| ip 6 Z Z Z Z (p_nilCheck Z) <| ip 7 Z Z Z Z (p_fieldAddr Z fa217_2) <| iv 8 Z Z Z Z (fun _ => v_load Z ty3 HS (by exact rfl)) <| J_slot (t := 14) (v := .int .i64 ((u : Int) + 1)) Z (by rw [huq]) <| ip 11 Z Z Z Z (p_move Z) <| ip 12 Z Z Z Z (p_nilCheck Z) <| ip 13 Z Z Z Z (p_fieldAddr Z fa217_4) <| iv 14 Z Z Z Z (fun _ => v_load Z ty3 HS (by exact rfl)) ?_
  refine ip 15 Z Z Z Z (p_shl Z Z (by omega) (by have : (IntKind.u32.bits : Int) = 32 := rfl; omega)) <| J_slot (t := 21) (v := .int .u32 (2 ^ r.cb.toNat)) Z (by rw [hcb.2.2]) <| i1 9 Z <| xc fc95 (A3 Z Z Z) Z (ringWord (r := r) (ms := ms) (x := x) (u := u) (at_ := 0) PX (by omega) hM.len hu hxl hB) fun _ => i1 10 Z <| xc fc94 (A2 Z Z) Z (distC) fun _ => J_slot (t := 16) (v := .int .u32 (rgFar r ms)) Z (by unfold rgFar; rw [← hx]) <| ip 16 Z Z Z Z (p_assign Z) <| ip 17 Z Z Z Z (p_assign Z) <| i0 <| Q_then <| J_seq <| sr <| mv Z Z <| mv Z Z <| L_pur Z (p_gtr Z Z) <| nq <| C_dec Z (fun h24 => ?_) (fun h24 => ?_)
  refine sr <| ag Z Z <| ag Z Z <| nq <| J_ret <| Q_then_ret <| J_return (()) Tryz.results49 (.tmp Z (.tmp Z .nil)) ?_ ?_
  · simp [one, rgRoom, h24]
  · exact SU
  have hfar := wrap32_in (r.tail - getN (rowAt ms r.cq) 0 4)
  have hfe : rgFar r ms = IntKind.u32.wrap (r.tail - getN (rowAt ms r.cq) 0 4) := rfl
  refine J_skip <| qx <| mv Z Z <| mv Z Z <| L_pur Z (p_sub Z Z) <| L_pur Z (p_conv Z Tryz.underlying22 Tryz.underlying3) <| J_slot (t := 28) (v := .int .i64 (2 ^ r.cb.toNat - rgFar r ms)) Z (by rw [wrap32u_of (by omega), wrap64_of (by omega)]) <| ag Z Z <| ag Z Z <| nq <| J_ret <| J_return (()) Tryz.results49 (.tmp Z (.tmp Z .nil)) ?_ ?_
  · simp [one, rgRoom, h24]
  · exact SU
theorem ringWrites (hp : Picks [blk b 217 [.pointer (some ⟨mb, 0, none⟩), .int .i64 r.sq, .int .i64 r.cq, .int .i64 r.sb, .int .i64 r.cb, .int .u32 r.head, .int .u32 r.tail, v], memA mb ms] l m) (hR : RgOk r) (hM : MemOk ms) :
    Con Tryz.prog 133 #[.pointer (some ⟨b, 0, none⟩), .agg (encX c).toArray] E l (fun _ : Unit => .bool (rgWrOk r ms)) (fun _ => blk b 217 [.pointer (some ⟨mb, 0, none⟩), .int .i64 (if rgWrOk r ms then rgUp r else r).sq, .int .i64 (if rgWrOk r ms then rgUp r else r).cq, .int .i64 (if rgWrOk r ms then rgUp r else r).sb, .int .i64 (if rgWrOk r ms then rgUp r else r).cb, .int .u32 (if rgWrOk r ms then rgUp r else r).head, .int .u32 (if rgWrOk r ms then rgUp r else r).tail, v] :: memA mb (if rgWrOk r ms then ms.set (r.cq - 1).toNat (rgRow r ms c) else ms) :: m) := by
  refine Con.body (n := 55) Tryz.func133 Z Z _ (env_ok 2 Z) <| J_picks2 hp ?_
  obtain ⟨hu, hxl, hB⟩ := hM.at hR.cq
  obtain ⟨x, hx⟩ : ∃ x, x = rowAt ms r.cq := ⟨_, rfl⟩
  obtain ⟨u, huq⟩ : ∃ u : Nat, r.cq = (u : Int) + 1 := ⟨(r.cq - 1).toNat, by have := hR.cq; omega⟩
  have hu1 : (r.cq - 1).toNat = u := by omega
  rw [← hx, hu1] at hu
  rw [← hx] at hxl hB
  have hcb := pow_cb hR.cb
  have hcr := hR.cb
  refine sr <| L_op <| x_box Z Z Z fun b3 => ag Z Z <| nxx <| mv Z Z <| xo fc49 (A1 Z) Z (ringRoom (r := r) (ms := ms) PX hR hM) fun _ => mv Z Z <| L_pur Z (p_extract Z Z) <| L_pur Z (p_extract Z Z) <| ag Z Z <| ag Z Z <| nx <| mv Z Z <| L_pur Z (p_not Z) <| mv Z Z <| J_gsplit (t := 14) Z (fun h14 => ?_) (fun h14 => ?_)
  have hno : rgWrOk r ms = false := by unfold rgWrOk; simp at h14 ⊢; omega
  refine gz Z Z Z Z Z <| gz Z Z Z Z Z <| L_pur Z (p_pick_t Z Z) <| nq <| C_true Z <| sr <| ag Z Z <| nq <| J_ret <| Q_then_ret <| J_pick (A := blk b _ _) PC <| J_asTo (B := blk b 217 [.pointer (some ⟨mb, 0, none⟩), .int .i64 (if rgWrOk r ms then rgUp r else r).sq, .int .i64 (if rgWrOk r ms then rgUp r else r).cq, .int .i64 (if rgWrOk r ms then rgUp r else r).sb, .int .i64 (if rgWrOk r ms then rgUp r else r).cb, .int .u32 (if rgWrOk r ms then rgUp r else r).head, .int .u32 (if rgWrOk r ms then rgUp r else r).tail, v]) (by rw [hno, if_neg (by decide)]) <| J_pick (A := memA mb _) PC <| J_asTo (B := memA mb (if rgWrOk r ms then ms.set (r.cq - 1).toNat (rgRow r ms c) else ms)) (by rw [hno, if_neg (by decide)]) <| J_return (()) Tryz.results133 (.tmp Z .nil) ?_ ?_
  · simp [one, hno]
  · exact SU
  refine gp Z Z Z (p_move Z) Z <| gp Z Z Z (p_lss Z Z) Z <| L_pur Z (p_pick_f Z Z) <| nq <| C_dec Z (fun h17 => ?_) (fun h17 => ?_)
  have hno : rgWrOk r ms = false := by unfold rgWrOk rgRoom at *; simp at h14 h17 ⊢; split at h17 <;> omega
  refine sr <| ag Z Z <| nq <| J_ret <| Q_then_ret <| J_pick (A := blk b _ _) PC <| J_asTo (B := blk b 217 [.pointer (some ⟨mb, 0, none⟩), .int .i64 (if rgWrOk r ms then rgUp r else r).sq, .int .i64 (if rgWrOk r ms then rgUp r else r).cq, .int .i64 (if rgWrOk r ms then rgUp r else r).sb, .int .i64 (if rgWrOk r ms then rgUp r else r).cb, .int .u32 (if rgWrOk r ms then rgUp r else r).head, .int .u32 (if rgWrOk r ms then rgUp r else r).tail, v]) (by rw [hno, if_neg (by decide)]) <| J_pick (A := memA mb _) PC <| J_asTo (B := memA mb (if rgWrOk r ms then ms.set (r.cq - 1).toNat (rgRow r ms c) else ms)) (by rw [hno, if_neg (by decide)]) <| J_return (()) Tryz.results133 (.tmp Z .nil) ?_ ?_
  · simp [one, hno]
  · exact SU
  have hyes : rgWrOk r ms = true := by unfold rgWrOk rgRoom at *; simp at h14 h17 ⊢; split at h17 <;> omega
  have hpl := place_in hR
  obtain ⟨off, hoff⟩ : ∃ off : Nat, 16 + r.tail % 2 ^ r.cb.toNat * 16 = (off : Int) := ⟨(16 + r.tail % 2 ^ r.cb.toNat * 16).toNat, by omega⟩
  obtain ⟨y, hy⟩ : ∃ y, y = putB x off (bytesX c) := ⟨_, rfl⟩
  have hyl : y.length = 512 := by rw [hy, putB_len (by rw [bytesX_len]; omega), hxl]
  have hul : u < ms.length := (List.getElem?_eq_some_iff.1 hu).1
  have hrow : rgRow r ms c = putB y 4 (le4 (IntKind.u32.wrap (r.tail + 1))) := by unfold rgRow; rw [← hx, hoff, Int.toNat_natCast, ← hy]
  refine J_skip <| Q_then <| J_seq <| J_drawL (some 19) mixed <| ip 0 Z Z Z Z (p_move Z) <| ip 1 Z Z Z Z (p_nilCheck Z) <| ip 2 Z Z Z Z (p_fieldAddr Z fa217_0) <| iv 3 Z Z Z Z (fun _ => v_load Z ty75 HS (by exact rfl)) <| ip 4 Z Z Z Z (p_move Z) <| ip 5 Z Z Z Z (p_nilCheck Z) <| ip 6 Z Z Z Z (p_fieldAddr Z fa217_2) <| iv 7 Z Z Z Z (fun _ => v_load Z ty3 HS (by exact rfl)) <| J_slot (t := 25) (v := .int .i64 ((u : Int) + 1)) Z (by rw [huq]) <| ip 8 Z Z Z Z (p_move Z) <| ip 9 Z Z Z Z (p_nilCheck Z) <| ip 10 Z Z Z Z (p_fieldAddr Z fa217_6) <| iv 11 Z Z Z Z (fun _ => v_load Z ty22 HS (by exact rfl)) <| ip 12 Z Z Z Z (p_move Z) <| ip 13 Z Z Z Z (p_nilCheck Z) <| ip 14 Z Z Z Z (p_fieldAddr Z fa217_4) <| iv 15 Z Z Z Z (fun _ => v_load Z ty3 HS (by exact rfl)) ?_
  refine J_slot (t := 33) (v := .int .i64 (r.cb.toNat : Int)) Z (by rw [Int.toNat_of_nonneg hcr.1]) <| iv 17 Z Z Z Z (fun _ => v_loadA Z ty93 HS CT) <| i1 16 Z <| xc fc193 (A3 Z Z Z) Z (placeC (k := r.cb.toNat) (n := r.tail) (.inl Z) (by omega) hR.tail) fun _ => J_slot (t := 34) (v := .int .i64 (off : Int)) Z (by rw [← hoff]) <| i1 18 Z <| xc fc194 (A1 Z) Z (bytesC) <| JR fun a36 c36 hw36 hl36 hm36 hz36 => i1 19 Z <| xc fc40 (A4 Z Z Z Z) Z (writeC (ms := ms) (u := u) (r := x) (off := off) (ys := bytesX c) PC hM.len hu hxl (fun w H => sep_reads (xs := (bytesX c).map encU) HS H) (by rw [bytesX_len]; omega)) fun _ => J_pick (A := memA mb _) PC <| J_asTo (B := memA mb (ms.set u y)) (by rw [hy]) <| i0 <| qx <| mv Z Z <| nc Z Z <| fa Z Z fa217_6 <| L_val Z (v_load Z ty22 HS (by exact rfl)) ?_
  refine L_pur Z (p_add Z Z) <| J_slot (t := 42) (v := .int .u32 (rgUp r).tail) Z Z <| nc Z Z <| fa Z Z fa217_6 <| L_op <| x_store Z Z ty22 Z SM SM RO PT <| J_pick (A := blk b _ _) PC <| J_asTo (B := blk b 217 [.pointer (some ⟨mb, 0, none⟩), .int .i64 (rgUp r).sq, .int .i64 (rgUp r).cq, .int .i64 (rgUp r).sb, .int .i64 (rgUp r).cb, .int .u32 (rgUp r).head, .int .u32 (rgUp r).tail, v]) (by rfl) <| nq <| J_seq <| J_drawT 9 mixed (by kernel_rfl) <| sm Z Z <| sm Z Z <| sp Z (p_nilCheck Z) <| sp Z (p_fieldAddr Z fa217_2) <| S_val Z (v_load Z ty3 HS (by exact rfl)) <| J_slot (t := 49) (v := .int .i64 ((u : Int) + 1)) Z (by rw [← huq]; rfl) <| sm Z Z <| sp Z (p_nilCheck Z) <| sp Z (p_fieldAddr Z fa217_6) <| S_val Z (v_load Z ty22 HS (by exact rfl)) <| S_nil ?_
  refine L_op (xc fc195 (A4 Z Z Z Z) Z (ringPuts (r := rgUp r) (ms := ms.set u y) (x := y) (u := u) (n := (rgUp r).tail) (at_ := 4) PX (by omega) (by rw [List.length_set, hM.len]) (by rw [List.getElem?_set_self hul]) hyl) fun _ => ?_)
  refine J_pick (A := memA mb _) PC <| J_asTo (B := memA mb (ms.set u (rgRow r ms c))) (by rw [List.set_set, hrow]; rfl) <| nx <| ag Z Z <| nq <| J_ret <| J_pick (A := blk b _ _) PC <| J_asTo (B := blk b 217 [.pointer (some ⟨mb, 0, none⟩), .int .i64 (if rgWrOk r ms then rgUp r else r).sq, .int .i64 (if rgWrOk r ms then rgUp r else r).cq, .int .i64 (if rgWrOk r ms then rgUp r else r).sb, .int .i64 (if rgWrOk r ms then rgUp r else r).cb, .int .u32 (if rgWrOk r ms then rgUp r else r).head, .int .u32 (if rgWrOk r ms then rgUp r else r).tail, v]) (by rw [hyes, if_pos Z]) <| J_pick (A := memA mb _) PC <| J_asTo (B := memA mb (if rgWrOk r ms then ms.set (r.cq - 1).toNat (rgRow r ms c) else ms)) (by rw [hyes, if_pos rfl, hu1]) <| J_return (()) Tryz.results133 (.tmp Z .nil) ?_ ?_
  · simp [one, hyes]
  · exact SU
theorem ringPost (hp : Picks [rgA b mb r, memA mb ms] l m) (hl : r.over.length ≤ 100000) (hR : RgOk r) (hM : MemOk ms) :
    Con Tryz.prog 175 #[.pointer (some ⟨b, 0, none⟩), .agg (encX c).toArray] E l (fun _ : Unit => .bool (postOk r ms)) (fun _ => rgA b mb (postR r ms c) :: memA mb (postM r ms c) :: m) := by
  refine Con.body (n := 26) Tryz.func175 Z Z _ (env_ok 2 Z) <| J_picks2 hp <| J_rgO fun v _ => J_row (.there .here) fun hw a cap hv h1 h2 h3 => ?_
  subst hv
  have hm : cap ≤ 9223372036854775807 := h2
  have hml : (r.over.map encX).length = r.over.length := List.length_map _
  refine sr <| L_op <| x_box Z Z Z fun b3 => ag Z Z <| nxx <| mv Z Z <| nc Z Z <| fa Z Z fa217_7 <| L_val Z (v_load Z ty88 HS (by exact rfl)) <| L_pur Z (p_len Z Tryz.underlying88) <| L_pur Z (p_eql Z Z) <| mv Z Z <| J_gsplit (t := 11) Z (fun h11 => ?_) (fun h11 => ?_)
  have he : r.over = [] := by simpa using h11
  refine gp Z Z Z (p_move Z) Z <| L_op <| G_on Z Z Z <| J_val (v_loadA Z ty93 HS CT) Z Z Z <| L_op <| G_on Z Z Z <| xc fc133 (A2 Z Z) Z (ringWrites (c := c) (r := r) (ms := ms) PX hR hM) fun _ => L_pur Z (p_pick_t Z Z) <| nq <| C_split Z (fun h15 => ?_) (fun h15 => ?_)
  have hok : postOk r ms = true := by unfold postOk; rw [he, h15]; rfl
  refine sr <| ag Z Z <| nq <| J_ret <| Q_then_ret <| J_pick (A := row 93 4 _ _) PC <| J_rowEq (ys := (rgUp r).over.map encX) (by rfl) <| J_pick (A := blk b _ _) PC <| J_asTo (B := blk b 217 [.pointer (some ⟨mb, 0, none⟩), .int .i64 (rgUp r).sq, .int .i64 (rgUp r).cq, .int .i64 (rgUp r).sb, .int .i64 (rgUp r).cb, .int .u32 (rgUp r).head, .int .u32 (rgUp r).tail, (.slice a (r.over.map encX).length cap)]) (by rw [h15, if_pos Z]) <| J_pick (A := memA mb _) PC <| J_asTo (B := memA mb (ms.set (r.cq - 1).toNat (rgRow r ms c))) (by rw [h15, if_pos Z]) <| J_rgS (b := b) (mb := mb) (r := rgUp r) _ PX trivial <| J_asTo (B := rgA b mb (postR r ms c)) (by rw [postR, hok]; rfl) <| J_pick (A := memA mb _) PC <| J_asTo (B := memA mb (postM r ms c)) (by rw [postM, hok]; rfl) <| J_return (()) Tryz.results175 (.tmp Z .nil) ?_ ?_
  · simp [one, hok]
  · exact SU
  have hno : rgWrOk r ms = false := h15
  have hok : postOk r ms = false := by unfold postOk; rw [hno, Bool.and_false]
  refine J_skip <| Q_then <| J_seq <| J_pick (A := blk b _ _) PC <| J_asTo (B := blk b 217 [.pointer (some ⟨mb, 0, none⟩), .int .i64 r.sq, .int .i64 r.cq, .int .i64 r.sb, .int .i64 r.cb, .int .u32 r.head, .int .u32 r.tail, (.slice a (r.over.map encX).length cap)]) (by rw [hno, if_neg (by decide)]) <| J_pick (A := memA mb _) PC <| J_asTo (B := memA mb ms) (by rw [hno, if_neg (by decide)]) <| J_drawL (some 7) mixed <| ip 0 Z Z Z Z (p_move Z) <| ip 1 Z Z Z Z (p_move Z) <| ip 2 Z Z Z Z (p_nilCheck Z) <| ip 3 Z Z Z Z (p_fieldAddr Z fa217_7) <| iv 4 Z Z Z Z (fun _ => v_load Z ty88 HS (by exact rfl)) <| iv 5 Z Z Z Z (fun _ => v_loadA Z ty93 HS CT) ?_
  refine i1 6 Z <| x_lit (vals := [_]) Tryz.underlying88 ty93 Z (.cons Z .nil) (.agg .nil) (Wf.cons Z Z Wf.nil) Z (by decide) Z Z <| JR fun a22 c22 hw22 hl22 hm22 hz22 => i1 7 Z <| x_app Z Z Tryz.underlying88 ty93 Z Z PC (fun w H => sep_reads HS H) (by simp; omega) (by simp; omega) Z <| JE ((r.over ++ [c]).map encX) (by simp) fun a23 c23 hw23 hl23 hm23 hz23 => ip 8 Z Z Z Z (p_nilCheck Z) <| ip 9 Z Z Z Z (p_fieldAddr Z fa217_7) <| i1 10 Z <| x_store Z Z ty88 Z SM SM RO PT <| i0 <| qx <| ag Z Z <| nq <| J_ret <| J_rgS (b := b) (mb := mb) (r := { r with over := r.over ++ [c] }) _ PX trivial <| J_asTo (B := rgA b mb (postR r ms c)) (by rw [postR, hok]; rfl) <| J_pick (A := memA mb _) PC <| J_asTo (B := memA mb (postM r ms c)) (by rw [postM, hok]; rfl) <| J_return (()) Tryz.results175 (.tmp Z .nil) ?_ ?_
  · simp [one, hok]
  · exact SU
  have he : r.over.isEmpty = false := by
    cases hov : r.over with
    | nil => rw [hov] at h11; simp at h11
    | cons x xs => rfl
  refine gz Z Z Z Z Z <| gz Z Z Z Z Z <| gz Z Z Z Z Z <| L_pur Z (p_pick_f Z Z) <| nq <| C_false Z <| J_skip <| Q_then <| J_seq ?_
  have hok : postOk r ms = false := by unfold postOk; rw [he]; rfl
  refine J_drawL (some 7) mixed <| ip 0 Z Z Z Z (p_move Z) <| ip 1 Z Z Z Z (p_move Z) <| ip 2 Z Z Z Z (p_nilCheck Z) <| ip 3 Z Z Z Z (p_fieldAddr Z fa217_7) <| iv 4 Z Z Z Z (fun _ => v_load Z ty88 HS (by exact rfl)) <| iv 5 Z Z Z Z (fun _ => v_loadA Z ty93 HS CT) <| i1 6 Z <| x_lit (vals := [_]) Tryz.underlying88 ty93 Z (.cons Z .nil) (.agg .nil) (Wf.cons Z Z Wf.nil) Z (by decide) Z Z <| JR fun a22 c22 hw22 hl22 hm22 hz22 => i1 7 Z <| x_app Z Z Tryz.underlying88 ty93 Z Z PC (fun w H => sep_reads HS H) (by simp; omega) (by simp; omega) Z <| JE ((r.over ++ [c]).map encX) (by simp) fun a23 c23 hw23 hl23 hm23 hz23 => ip 8 Z Z Z Z (p_nilCheck Z) <| ip 9 Z Z Z Z (p_fieldAddr Z fa217_7) <| i1 10 Z <| x_store Z Z ty88 Z SM SM RO PT <| i0 <| qx <| ag Z Z <| nq <| J_ret <| J_rgS (b := b) (mb := mb) (r := { r with over := r.over ++ [c] }) _ PX trivial ?_
  refine J_asTo (B := rgA b mb (postR r ms c)) (by rw [postR, hok]; rfl) <| J_pick (A := memA mb _) PC <| J_asTo (B := memA mb (postM r ms c)) (by rw [postM, hok]; rfl) <| J_return (()) Tryz.results175 (.tmp Z .nil) ?_ ?_
  · simp [one, hok]
  · exact SU
theorem ringTail (hp : Pick (rgA b mb r) l m) :
    Con Tryz.prog 44 #[.pointer (some ⟨b, 0, none⟩)] E l (fun _ : Unit => .int .u32 r.tail) (fun _ => rgA b mb r :: m) := by
  refine Con.body (n := 7) Tryz.func44 Z Z _ (env_ok 1 Z) <| J_pick hp <| J_rgO fun v _ => sr <| ag Z Z <| nx <| mv Z Z <| nc Z Z <| fa Z Z fa217_6 <| L_val Z (v_load Z ty22 HS (by exact rfl)) <| ag Z Z <| nq <| J_ret <| J_rgS (b := b) (mb := mb) (r := r) v PX trivial <| J_return (()) Tryz.results44 (.tmp Z .nil) ?_ ?_
  · rfl
  · exact SU
variable {o : Nat}
theorem jnlAdd {xs : List Deed} (hp : Pick (jnlA b o xs) l m) (hb : xs.length ≤ 200000) :
    Con Tryz.prog 174 #[.pointer (some ⟨b, o, none⟩), .agg (encD d).toArray] E l (fun _ : Unit => .tuple #[]) (fun _ => jnlA b o (xs ++ [d]) :: m) := by
  refine Con.body (n := 14) Tryz.func174 Z Z _ (env_ok 2 Z) <| J_pick hp <| J_jnlO fun v _ => J_row (.there .here) fun hw a cap hv h1 h2 h3 => ?_
  subst hv
  have hm : cap ≤ 9223372036854775807 := h2
  have hml : (xs.map encD).length = xs.length := List.length_map _
  refine sr <| L_op <| x_box Z Z Z fun b3 => nq <| J_drawL (some 7) mixed <| ip 0 Z Z Z Z (p_move Z) <| ip 1 Z Z Z Z (p_move Z) <| ip 2 Z Z Z Z (p_nilCheck Z) <| ip 3 Z Z Z Z (p_fieldAddr Z fa143_0) <| iv 4 Z Z Z Z (fun _ => v_loadL Z ty40 HS Z (by exact rfl)) <| iv 5 Z Z Z Z (fun _ => v_loadA Z ty45 HS CT) <| i1 6 Z <| x_lit (vals := [_]) Tryz.underlying40 ty45 Z (.cons Z .nil) (.agg .nil) (Wf.cons Z Z Wf.nil) Z (by decide) Z Z <| JR fun a10 c10 hw10 hl10 hm10 hz10 => i1 7 Z <| x_app Z Z Tryz.underlying40 ty45 Z Z PC (fun w H => sep_reads HS H) (by simp; omega) (by simp; omega) Z <| JE ((xs ++ [d]).map encD) (by simp) fun a11 c11 hw11 hl11 hm11 hz11 => ip 8 Z Z Z Z (p_nilCheck Z) <| ip 9 Z Z Z Z (p_fieldAddr Z fa143_0) <| i1 10 Z <| x_storeL Z Z ty40 Z SM SM Z RO Z PT <| i0 <| J_endnormal <| J_jnlS (b := b) (o := o) (xs := xs ++ [d]) _ PX trivial ?_
  exact J_return (()) Tryz.results174 .nil Z SU
theorem clone73 {xs : List (List Value)} (hr : ∀ w, Sep E w l → Reads w 7 v xs) (hb : xs.length ≤ 1000000) :
    Con Tryz.prog 73 #[v] E l (fun v' : Value => v') (fun v' => row 45 7 v' xs :: l) := by
  refine Con.body (n := 8) Tryz.func73 Z Z _ (env_ok 1 Z) <| J_reads hr fun hw a cap hv h1 h2 h3 => ?_
  subst hv
  refine sr <| ag Z Z <| nxx <| mv Z Z <| L_pur Z (p_eqnil Tryz.underlying40 Z) <| nq <| C_split Z (fun h4 => ?_) (fun h4 => ?_)
  obtain rfl : a = none := by simpa using h4
  obtain ⟨rfl, rfl⟩ := h3 rfl
  refine J_nil (el := 45) (sz := 7) <| sr <| ag Z Z <| nq <| J_ret <| Q_then_ret ?_
  exact J_return (_) Tryz.results73 (.tmp Z .nil) Z SU
  refine J_skip <| qx <| L_op <| x_lit (vals := []) Tryz.underlying40 ty45 Z .nil .nil Wf.nil Z (by decide) Z Z <| JR fun a5 c5 hw5 hl5 hm5 hz5 => mv Z Z <| L_op <| x_app Z Z Tryz.underlying40 ty45 Z Z PC (fun w H => hr w H.tail) (OM) (OM) Z <| JR fun a7 c7 hw7 hl7 hm7 hz7 => ag Z Z <| nq <| J_ret ?_
  exact J_return (_) Tryz.results73 (.tmp Z .nil) Z SU
theorem jnlAll {xs : List Deed} (hp : Pick (jnlA b o xs) l m) (hb : xs.length ≤ 200000) :
    Con Tryz.prog 21 #[.pointer (some ⟨b, o, none⟩)] E l (fun v : Value => v) (fun v => row 45 7 v (xs.map encD) :: jnlA b o xs :: m) := by
  refine Con.body (n := 8) Tryz.func21 Z Z _ (env_ok 1 Z) <| J_pick hp <| J_jnlO fun v _ => J_row (.there .here) fun hw a cap hv h1 h2 h3 => ?_
  subst hv
  have hm : cap ≤ 9223372036854775807 := h2
  have hml : (xs.map encD).length = xs.length := List.length_map _
  refine sr <| ag Z Z <| nx <| mv Z Z <| nc Z Z <| fa Z Z fa143_0 <| L_val Z (v_loadL Z ty40 HS Z (by exact rfl)) <| xo fc73 (A1 Z) Z (clone73 (xs := xs.map encD) (fun w H => sep_reads (xs := xs.map encD) HS H) (by simp; omega)) <| JR fun a7 c7 hw7 hl7 hm7 hz7 => ag Z Z <| nq <| J_ret <| J_jnlS (b := b) (o := o) (xs := xs) _ PX trivial ?_
  exact J_return (_) Tryz.results21 (.tmp Z .nil) Z SU
/-! ### plain: who waits, in order -/
theorem encI_one (c : ID) : ones (encI c) = true := rfl
theorem encI_len (c : ID) : (encI c).length = 2 := rfl
def isI (i c : ID) : Bool := decide (c.1 = i.1 ∧ c.2 = i.2)
variable {i : ID}
theorem isI_iff {c : ID} : isI i c = true ↔ c = i := by unfold isI; rw [decide_eq_true_eq, Prod.ext_iff]
theorem isI_eq (i c : ID) : isI i c = decide (c = i) := by rw [Bool.eq_iff_iff, isI_iff, decide_eq_true_eq]
def lpush (xs : List ID) (i : ID) : List ID := if i ∈ xs then xs else xs ++ [i]
def ldrop (xs : List ID) (i : ID) : List ID := xs.filter fun c => !isI i c
theorem ldrop_len (xs : List ID) (i : ID) : (ldrop xs i).length ≤ xs.length := List.length_filter_le _ _
theorem lpush_len (xs : List ID) (i : ID) : (lpush xs i).length ≤ xs.length + 1 := by unfold lpush; split <;> simp
variable {xs : List ID}
theorem ldrop_mem {c : ID} : c ∈ ldrop xs i ↔ c ∈ xs ∧ ¬ c = i := by
  unfold ldrop; rw [List.mem_filter]; simp [isI_eq]
theorem ldrop_no (h : i ∉ xs) : ldrop xs i = xs := by
  unfold ldrop; rw [List.filter_eq_self]; intro c hc; have : ¬ c = i := fun e => h (e ▸ hc); simp [isI_eq, this]
theorem ldrop_nodup (h : xs.Nodup) (i : ID) : (ldrop xs i).Nodup := List.Nodup.sublist List.filter_sublist h
theorem lpush_nodup (h : xs.Nodup) (i : ID) : (lpush xs i).Nodup := by
  unfold lpush; split
  · exact h
  · rename_i hi
    rw [List.nodup_append]
    refine ⟨h, by simp, fun x hx y hy => ?_⟩
    simp at hy; subst hy; exact fun e => hi (e ▸ hx)
theorem ldrop_head {x : ID} (h : (x :: xs).Nodup) : ldrop (x :: xs) x = xs := by
  have h1 := List.nodup_cons.1 h
  unfold ldrop
  rw [List.filter_cons, if_neg (by simp [isI_eq])]
  exact ldrop_no h1.1
variable {ps : List (ID × Bool)}
theorem Who.push (h : Who xs ps) (hi : i ∉ xs) : Who (xs ++ [i]) (ins ps i true) := by
  refine ⟨by have := lpush_nodup h.1 i; unfold lpush at this; rwa [if_neg hi] at this, fun c => ?_⟩
  rw [look_ins, h.2]
  by_cases hc : i = c
  · subst hc; simp
  · have hc' : ¬ c = i := fun e => hc e.symm
    simp [hc, hc']
theorem Who.drop (h : Who xs ps) (i : ID) : Who (ldrop xs i) (del ps i) := by
  refine ⟨ldrop_nodup h.1 i, fun c => ?_⟩
  rw [look_del, h.2]
  by_cases hc : i = c
  · subst hc; simp [ldrop_mem]
  · have hc' : ¬ c = i := fun e => hc e.symm
    simp [hc, hc', ldrop_mem]
theorem Who.says (h : Who xs ps) (i : ID) : zof evB (.bool false) (look ps i) = .bool (decide (i ∈ xs)) := by
  rw [h.2]; by_cases hi : i ∈ xs <;> simp [zof, hi]
variable {g : FuncId} {caps : Array Value} {fn : Func} {C : As}
theorem indexfunc317 {α : Type} {enc : α → List Value} {xs : List α} (hf : Tryz.prog.funcs[g]? = some fn) (hn : (fn.name == "runtime.NumGoroutine") = false) (hb : fn.body.isNone = false) {q : α → Bool} (hg : ∀ (l' : List As) (c : α), Has C l' → Con Tryz.prog g (#[.agg (enc c).toArray] ++ caps) E l' (fun _ : Unit => .bool (q c)) (fun _ => l')) (hv : Has (row 36 2 v (xs.map enc)) l) (hc : Has C l) :
    Con Tryz.prog 317 #[v, .func (.func g) #[] caps] E l (fun _ : Unit => .int .i64 (idx q xs)) (fun _ => l) := by
  refine Con.body (n := 19) Tryz.func317 Z Z _ (env_ok 2 Z) <| J_row hv fun hw a cap hv h1 h2 h3 => ?_
  subst hv
  have hm : cap ≤ 9223372036854775807 := h2
  have hml : (xs.map enc).length = xs.length := List.length_map _
  refine sr <| ag Z Z <| nxx <| mv Z Z <| L_pur Z (p_len Z Tryz.underlying224) <| mv Z Z <| nq <| J_block <| J_loop (α := Nat) (fun i => i ≤ xs.length ∧ ∀ c ∈ xs.take i, q c = false) (fun _ => l) (fun i => [(8, .int .i64 (i : Int)), (7, .int .i64 (xs.map enc).length), (0, .slice a (xs.map enc).length cap), (1, .func (.func g) #[] caps)]) (fun i => xs.length - i) 0 ⟨by omega, by simp⟩ SU KE ?_
  intro i ⟨hi, hq⟩
  refine sr <| L_pur Z (p_lss Z Z) <| nq <| J_seq <| C_dec Z (fun h9 => ?_) (fun h9 => ?_)
  have hlt : i < xs.length := by omega
  obtain ⟨b, o, rfl⟩ := h3 (by intro h; rw [h] at hml; simp at hml; omega)
  obtain ⟨c, hcc⟩ : ∃ c, xs[i]? = some c := ⟨_, List.getElem?_eq_getElem hlt⟩
  refine J_skip <| Q_then <| J_seq <| J_block <| sr <| mv Z Z <| ag Z Z <| nx <| mv Z Z <| mv Z Z <| mv Z Z <| L_pur Z (p_indexAddr Z Z Tryz.underlying224 ty36 (by omega) (by omega)) <| L_val Z (v_loadE Z ty36 HS (by simp only [Int.toNat_natCast, List.getElem?_map, hcc]; rfl)) ?_
  refine L_op <| x_callc Z hf hn hb (.cons Z .nil) Z (hg _ c hc) fun _ => nq <| C_split Z (fun h16 => ?_) (fun h16 => ?_)
  have hidx := idx_here hq hcc h16
  refine sr <| mv Z Z <| ag Z Z <| nq <| J_ret <| Q_blk_ret <| Q_then_ret <| Q_then_ret <| Q_blk_ret <| Q_then_ret <| J_return (()) Tryz.results317 (.tmp Z .nil) ?_ ?_
  · simp [one, hidx]
  · exact SU
  refine J_skip <| Q_blk_normal <| qr <| L_pur Z (p_add64 Z Z (by omega)) <| mv Z Z <| nq ?_
  exact J_again (i + 1) (by omega) (⟨by omega, take_false_succ hq hcc h16⟩) SU KE
  have hix : i = xs.length := by omega
  rw [hix, List.take_length] at hq
  have hidx := idx_none hq
  refine J_exit <| Q_then_exit <| Q_then_exit <| Q_blk_this <| qx <| ag Z Z <| nq <| J_ret <| J_return (()) Tryz.results317 (.tmp Z .nil) ?_ ?_
  · simp [one, hidx]
  · exact SU
theorem deletefunc296 {α : Type} {enc : α → List Value} {xs : List α} (hf : Tryz.prog.funcs[g]? = some fn) (hn : (fn.name == "runtime.NumGoroutine") = false) (hb : fn.body.isNone = false) {q : α → Bool} (hg : ∀ (l' : List As) (c : α), Has C l' → Con Tryz.prog g (#[.agg (enc c).toArray] ++ caps) E l' (fun _ : Unit => .bool (q c)) (fun _ => l')) (hv : Pick (row 36 2 v (xs.map enc)) l m) (hc : Has C m) (hone : ∀ c, ones (enc c) = true) (hlen : ∀ c, (enc c).length = 2) :
  Con Tryz.prog 296 #[v, .func (.func g) #[] caps] E l (fun v' : Value => v') (fun v' => row 36 2 v' ((xs.filter fun c => !q c).map enc) :: m) := by
 rcases idx_cases q xs with ⟨hi0, hall⟩ | ⟨i0, hi0, hlt0, hpre, c0, hc0, hq0⟩
 ·
  refine Con.body (n := 42) Tryz.func296 Z Z _ (env_ok 2 Z) <| J_pick hv <| sr <| ag Z Z <| nx <| mv Z Z <| mv Z Z <| xo fc317 (A2 Z Z) Z (indexfunc317 hf hn hb hg .here (.there hc)) fun _ => ag Z Z <| nxx <| mv Z Z <| L_pur Z (p_eql Z Z) <| nq <| J_bool (t := 12) (c := true) Z (by simp [hi0]) <| C_true Z <| sr <| J_rowEq (ys := (xs.filter fun c => !q c).map enc) (by rw [List.filter_eq_self.2 (fun c hc => by simp [hall c hc])]) <| mv Z Z <| ag Z Z <| nq <| J_ret <| Q_then_ret ?_
  exact J_return (_) Tryz.results296 (.tmp Z .nil) Z SU
 ·
  refine Con.body (n := 42) Tryz.func296 Z Z _ (env_ok 2 Z) <| J_pick hv <| J_row .here fun hw a cap hv h1 h2 h3 => ?_
  obtain ⟨b, o, rfl⟩ := h3 (by intro h; have := congrArg List.length h; simp at this; subst this; simp at hlt0)
  subst hv
  have hm : cap ≤ 9223372036854775807 := h2
  have hml : (xs.map enc).length = xs.length := List.length_map _
  have hk0 : kept q xs (i0 + 1) = xs.take i0 := kept_first hpre hc0 hq0
  have hl0 : (xs.take i0).length = i0 := by simp; omega
  refine sr <| ag Z Z <| nx <| mv Z Z <| mv Z Z <| xo fc317 (A2 Z Z) Z (indexfunc317 hf hn hb hg .here (.there hc)) fun _ => J_slot (t := 10) (v := .int .i64 (i0 : Int)) Z (by rw [hi0]) <| ag Z Z <| nxx <| mv Z Z <| L_pur Z (p_eql Z Z) <| nq <| J_bool (t := 12) (c := false) Z (by simp) <| C_false Z <| J_skip <| Q_then <| J_seq <| sr <| mv Z Z <| L_pur Z (p_add64 Z Z (by omega)) <| ag Z Z <| nq <| J_block ?_
  refine J_rowEq (ys := (kept q xs (i0 + 1) ++ xs.drop (kept q xs (i0 + 1)).length).map enc) (by rw [hk0, hl0, List.take_append_drop]) <| J_slot (t := 5) (v := .int .i64 ((kept q xs (i0 + 1)).length : Int)) Z (by rw [hk0, hl0]) <| J_loop (α := Nat) (fun j => j ≤ xs.length) (fun j => row 36 2 (.slice (some ⟨b, o, none⟩) (xs.map enc).length cap) ((kept q xs j ++ xs.drop (kept q xs j).length).map enc) :: m) (fun j => [(6, .int .i64 (j : Int)), (5, .int .i64 ((kept q xs j).length : Int)), (0, .slice (some ⟨b, o, none⟩) (xs.map enc).length cap), (1, .func (.func g) #[] caps)]) (fun j => xs.length - j) (i0 + 1) (by omega) SU KE ?_
  intro j hj
  have hkl := kept_le q xs j
  refine J_seq <| sr <| mv Z Z <| mv Z Z <| L_pur Z (p_len Z Tryz.underlying224) <| L_pur Z (p_lss Z Z) <| nq <| C_dec Z (fun h19 => ?_) (fun h19 => ?_)
  have hlt : j < xs.length := by omega
  obtain ⟨c, hcc⟩ : ∃ c, xs[j]? = some c := ⟨_, List.getElem?_eq_getElem hlt⟩
  refine J_skip <| Q_then <| J_seq <| J_block <| sr <| mv Z Z <| mv Z Z <| L_pur Z (p_indexAddr Z Z Tryz.underlying224 ty36 (by omega) (by omega)) <| L_val Z (v_loadE Z ty36 HS (by simp only [Int.toNat_natCast, List.getElem?_map, kept_get, hcc]; rfl)) ?_
  refine L_op <| x_alloc ty36 Z fun b7 => L_op <| x_store Z Z ty36 Z SM SM RO PT <| nx <| mv Z Z <| L_val Z (v_loadA Z ty36 HS CT) <| L_op <| x_callc Z hf hn hb (.cons Z .nil) Z (hg _ c (.there (.there hc))) fun _ => L_pur Z (p_not Z) <| nq <| C_split Z (fun h29 => ?_) (fun h29 => ?_)
  have hqc : q c = false := by simpa using h29
  have hks := kept_set hcc hqc
  have hkl1 : (kept q xs (j + 1)).length = (kept q xs j).length + 1 := by rw [kept_succ hcc, hqc]; simp
  refine sr <| mv Z Z <| mv Z Z <| L_val Z (v_loadA Z ty36 HS CT) <| L_pur Z (p_indexAddr Z Z Tryz.underlying224 ty36 (by omega) (by omega)) <| L_op <| x_storeE (vs := enc c) Z Z ty36 Z (hlen c) (hone c) PC (OM) <| J_rowEq (ys := (kept q xs (j + 1) ++ xs.drop (kept q xs (j + 1)).length).map enc) (by rw [← hks, List.map_set]; simp) <| ny <| mv Z Z <| L_pur Z (p_add64 Z Z (by omega)) <| ag Z Z <| L_nil <| Q_blk_normal <| qr <| mv Z Z <| L_pur Z (p_add64 Z Z (by omega)) <| ag Z Z <| nq <| J_slot (t := 5) (v := .int .i64 ((kept q xs (j + 1)).length : Int)) Z (by rw [hkl1]; rfl) ?_
  exact J_again (j + 1) (by omega) (by omega) SU KE
  have hqc : q c = true := by simpa using h29
  have hks : kept q xs (j + 1) = kept q xs j := by rw [kept_succ hcc, hqc]; simp
  refine J_skip <| Q_blk_normal <| qr <| mv Z Z <| L_pur Z (p_add64 Z Z (by omega)) <| ag Z Z <| nq <| J_slot (t := 5) (v := .int .i64 ((kept q xs (j + 1)).length : Int)) Z (by rw [hks]) <| J_pick (A := row 36 2 (.slice (some ⟨b, o, none⟩) (xs.map enc).length cap) ((kept q xs j ++ xs.drop (kept q xs j).length).map enc)) PC <| J_rowEq (ys := (kept q xs (j + 1) ++ xs.drop (kept q xs (j + 1)).length).map enc) (by rw [hks]) ?_
  exact J_again (j + 1) (by omega) (by omega) SU KE
  have hjx : j = xs.length := by omega
  have hka : kept q xs j = xs.filter fun c => !q c := kept_all (by omega)
  refine J_exit <| Q_then_exit <| Q_then_exit <| Q_blk_this <| qx <| mv Z Z <| mv Z Z <| L_pur Z (p_slice Z Tryz.underlying224 ty36 Z Z (by omega) (by omega) (by omega)) <| L_op <| x_clear (len := (xs.map enc).length) Z Tryz.underlying224 ty36 Z Z PC (OM) <| nx <| mv Z Z <| mv Z Z <| L_pur Z (p_slice Z Tryz.underlying224 ty36 Z Z (by omega) (by omega) (by omega)) <| J_take (k := (kept q xs j).length) (OM) <| J_rowTo (v' := .slice (some ⟨b, o, none⟩) (kept q xs j).length cap) (ys := (xs.filter fun c => !q c).map enc) (by simp [hka]) Z <| J_slot (t := 41) (v := .slice (some ⟨b, o, none⟩) (kept q xs j).length cap) Z (by simp [Addr.add]) <| ag Z Z <| nq <| J_ret ?_
  exact J_return (_) Tryz.results296 (.tmp Z .nil) Z SU
variable {bc : Nat}
theorem clo297 {c : ID} (hc : Has (blk bc 36 (encI i)) l) :
    Con Tryz.prog 297 #[.agg (encI c).toArray, .pointer (some ⟨bc, 0, none⟩)] E l (fun _ : Unit => .bool (isI i c)) (fun _ => l) := by
  refine Con.body (n := 7) Tryz.func297 Z Z _ (env_ok 2 Z) <| sr <| L_op <| x_box Z Z Z fun b2 => ag Z Z <| nx <| L_val Z (v_loadA Z ty36 HS CT) <| L_val Z (v_loadA Z ty36 HS CT) <| L_pur Z (p_eqv Z Z (fun w => eg36 _ _ _ _ _ w) (fun w => eqv36 _ _ _ _ w)) <| ag Z Z <| nq <| J_ret ?_
  exact J_return (()) Tryz.results297 (.tmp Z .nil) Z SU
theorem lDrop (hp : Pick (lsA b o xs) l m) (hb : xs.length ≤ 100000) :
    Con Tryz.prog 240 #[.pointer (some ⟨b, o, none⟩), .agg (encI i).toArray] E l (fun _ : Unit => .bool (decide (i ∈ xs))) (fun _ => lsA b o (ldrop xs i) :: m) := by
  refine Con.body (n := 26) Tryz.func240 Z Z _ (env_ok 2 Z) <| J_pick hp <| J_lsO fun v ob ps hw => sr <| L_op <| x_box Z Z Z fun b3 => ag Z Z <| nq <| J_seq <| J_seq <| J_drawS mixed (by kernel_rfl) <| sm Z Z <| sp Z (p_nilCheck Z) <| sp Z (p_fieldAddr Z fa227_1) <| S_val Z (v_loadL Z ty225 HS Z (by exact rfl)) <| S_val Z (v_loadA Z ty36 HS CT) <| S_val Z (v_look (ek := kI) (ev := evB) (a := i) Z Z ky36 Tryz.underlying225 zv4 HS) <| J_slot (t := 10) (v := .bool (decide (i ∈ xs))) Z (hw.says i) <| sp Z (p_not Z) <| sq <| C_split Z (fun h11 => ?_) (fun h11 => ?_)
  have hi : i ∉ xs := by simpa using h11
  refine sr <| ag Z Z <| nq <| J_ret <| Q_then_ret <| J_lsS (b := b) (o := o) (xs := xs) _ _ _ PX (hw) <| J_asTo (B := lsA b o (ldrop xs i)) (by rw [ldrop_no hi]) <| J_return (()) Tryz.results240 (.tmp Z .nil) ?_ ?_
  · simp [one, hi]
  · exact SU
  have hi : i ∈ xs := by simpa using h11
  refine J_skip <| Q_then <| J_seq <| J_drawT 5 mixed (by kernel_rfl) <| sm Z Z <| sp Z (p_nilCheck Z) <| sp Z (p_fieldAddr Z fa227_1) <| S_val Z (v_loadL Z ty225 HS Z (by exact rfl)) <| S_val Z (v_loadA Z ty36 HS CT) <| S_nil <| L_op <| x_delete (ek := kI) (ev := evB) (a := i) Z Z ky36 Tryz.underlying225 PC <| nx <| mv Z Z <| mv Z Z <| nc Z Z <| fa Z Z fa227_0 <| L_val Z (v_loadL Z ty224 HS Z (by exact rfl)) <| L_pur Z (p_makeFunc (.cons Z .nil)) <| xo fc296 (A2 Z Z) Z (deletefunc296 (xs := xs) (enc := encI) (q := isI i) (C := blk b3 36 (encI i)) Tryz.func297 nm297 bd297 (fun l' c hc => clo297 hc) PC HS encI_one encI_len) <| JR fun a23 c23 hw23 hl23 hm23 hz23 => nc Z Z <| fa Z Z fa227_0 <| L_op <| x_storeL Z Z ty224 Z SM SM Z RO Z PT <| nx <| ag Z Z <| nq <| J_ret <| J_lsS (b := b) (o := o) (xs := xs.filter fun c => !isI i c) _ _ _ PX (hw.drop i) ?_
  refine J_return (()) Tryz.results240 (.tmp Z .nil) ?_ ?_
  · simp [one, hi]
  · exact SU
theorem lPop (hp : Pick (lsA b o xs) l m) (hb : xs.length ≤ 100000) :
  Con Tryz.prog 241 #[.pointer (some ⟨b, o, none⟩)] E l (fun _ : Unit => .tuple #[.agg (encI (xs.headD (0, 0))).toArray, .bool (!xs.isEmpty)]) (fun _ => lsA b o xs.tail :: m) := by
 rcases xs with _ | ⟨x, r⟩
 ·
  refine Con.body (n := 22) Tryz.func241 Z Z _ (env_ok 1 Z) <| J_pick hp <| J_lsO fun v ob ps hw => J_row (.there .here) fun hwf a cap hv h1 h2 h3 => ?_
  subst hv
  refine sr <| L_op <| x_alloc ty36 Z fun b2 => ag Z Z <| nxx <| mv Z Z <| nc Z Z <| fa Z Z fa227_0 <| L_val Z (v_loadL Z ty224 HS Z (by exact rfl)) <| L_pur Z (p_len Z Tryz.underlying224) <| L_pur Z (p_eql Z Z) <| nq <| J_bool (t := 10) (c := true) Z (by simp) <| C_true Z <| sr <| L_pur Z (bld36 .nil (by repeat constructor)) <| L_op <| x_store Z Z ty36 Z SM SM RO PT <| ag Z Z <| nq <| J_ret <| Q_then_ret <| J_lsS (b := b) (o := o) (xs := []) _ _ _ PX (hw) ?_
  exact J_return (()) Tryz.results241 (.cellA Z ty36 HS CT (.tmp Z .nil)) Z SU
 ·
  refine Con.body (n := 22) Tryz.func241 Z Z _ (env_ok 1 Z) <| J_pick hp <| J_lsO fun v ob ps hw => ?_
  have hnd := hw.1
  refine J_row (.there .here) fun hwf a cap hv h1 h2 h3 => ?_
  obtain ⟨bi, oi, rfl⟩ := h3 (by simp)
  subst hv
  refine sr <| L_op <| x_alloc ty36 Z fun b2 => ag Z Z <| nxx <| mv Z Z <| nc Z Z <| fa Z Z fa227_0 <| L_val Z (v_loadL Z ty224 HS Z (by exact rfl)) <| L_pur Z (p_len Z Tryz.underlying224) <| L_pur Z (p_eql Z Z) <| nq <| J_bool (t := 10) (c := false) Z (by simp; omega) <| C_false Z <| J_skip <| qx <| mv Z Z <| nc Z Z <| fa Z Z fa227_0 <| L_val Z (v_loadL Z ty224 HS Z (by exact rfl)) <| L_pur Z (p_indexAddr Z Z Tryz.underlying224 ty36 (by omega) (by simp)) <| L_val Z (v_loadE Z ty36 HS (by rfl)) <| L_op <| x_alloc ty36 Z fun b4 => L_op <| x_store Z Z ty36 Z SM SM RO PT <| nx <| J_lsS (b := b) (o := o) (xs := x :: r) _ _ _ PX (hw) <| mv Z Z <| L_val Z (v_loadA Z ty36 HS CT) <| xo fc240 (A2 Z Z) Z (lDrop (i := x) PC (by omega)) fun _ => J_asTo (B := lsA b o r) (by rw [ldrop_head hnd]) <| nx <| L_val Z (v_loadA Z ty36 HS CT) <| L_op <| x_store Z Z ty36 Z SM SM RO PT ?_
  refine ag Z Z <| nq <| J_ret ?_
  exact J_return (()) Tryz.results241 (.cellA Z ty36 HS CT (.tmp Z .nil)) Z SU
abbrev orb (w x : Int) : Int := bits .or .u32 w x
def woke (w : Int) (xs : List ID) (x : Int) : Bool := !decide (orb w x = 0) && !xs.isEmpty
def sigI (w : Int) (xs : List ID) (x : Int) : ID := if woke w xs x then xs.headD (0, 0) else (0, 0)
def sigV (w : Int) (xs : List ID) (x : Int) : Int := if woke w xs x then orb w x else 0
def sigW (w : Int) (xs : List ID) (x : Int) : Int := if woke w xs x then 0 else orb w x
def sigL (w : Int) (xs : List ID) (x : Int) : List ID := if woke w xs x then xs.tail else xs
def waitL (w : Int) (xs : List ID) (i : ID) : List ID := if w = 0 then lpush xs i else xs
theorem sigL_len (w : Int) (xs : List ID) (x : Int) : (sigL w xs x).length ≤ xs.length := by unfold sigL; split <;> simp
theorem waitL_len (w : Int) (xs : List ID) (i : ID) : (waitL w xs i).length ≤ xs.length + 1 := by
  unfold waitL; split
  · exact lpush_len xs i
  · omega
theorem ntDropC {w : Int} (hp : Pick (ntA b o w xs) l m) (hb : xs.length ≤ 100000) :
    Con Tryz.prog 171 #[.pointer (some ⟨b, o, none⟩), .agg (encI i).toArray] E l (fun _ : Unit => .bool (decide (i ∈ xs))) (fun _ => ntA b o w (ldrop xs i) :: m) := by
  refine Con.body (n := 10) Tryz.func171 Z Z _ (env_ok 2 Z) <| J_pick hp <| J_ntO fun _ _ => sr <| L_op <| x_box Z Z Z fun b3 => ag Z Z <| nq <| J_seq <| J_drawT 4 mixed (by kernel_rfl) <| sm Z Z <| sp Z (p_nilCheck Z) <| sp Z (p_fieldAddr Z fa229_1) <| S_val Z (v_loadA Z ty36 HS CT) <| S_nil <| xo fc240 (A2 Z Z) Z (lDrop (xs := xs) (i := i) PC (by omega)) fun _ => ag Z Z <| nq <| J_ret <| J_ntS (b := b) (o := o) (w := w) (xs := ldrop xs i) PX trivial ?_
  exact J_return (()) Tryz.results171 (.tmp Z .nil) Z SU
theorem ntSignal {w : Int} (hp : Pick (ntA b o w xs) l m) (hb : xs.length ≤ 100000) :
    Con Tryz.prog 178 #[.pointer (some ⟨b, o, none⟩), .int .u32 x] E l (fun _ : Unit => .tuple #[.agg (encI (sigI w xs x)).toArray, .int .u32 (sigV w xs x), .bool (woke w xs x)]) (fun _ => ntA b o (sigW w xs x) (sigL w xs x) :: m) := by
  refine Con.body (n := 43) Tryz.func178 Z Z _ (env_ok 2 Z) <| J_pick hp <| J_ntO fun _ _ => sr <| L_op <| x_alloc ty36 Z fun b4 => ag Z Z <| ag Z Z <| nx <| mv Z Z <| nc Z Z <| fa Z Z fa229_0 <| L_val Z (v_loadL Z ty22 HS Z (by exact rfl)) <| mv Z Z <| L_pur Z (p_or Z Z) <| nc Z Z <| fa Z Z fa229_0 <| L_op <| x_storeL Z Z ty22 Z SM SM Z RO Z PT <| nxx <| mv Z Z <| nc Z Z <| fa Z Z fa229_0 <| L_val Z (v_loadL Z ty22 HS Z (by exact rfl)) <| L_pur Z (p_eql Z Z) <| nq <| C_dec Z (fun h22 => ?_) (fun h22 => ?_)
  have h22' : orb w x = 0 := h22
  have hwk : woke w xs x = false := by simp [woke, h22']
  have e1 : sigI w xs x = (0, 0) := by simp [sigI, hwk]
  have e2 : sigV w xs x = 0 := by simp [sigV, hwk]
  have e3 : sigW w xs x = orb w x := by simp [sigW, hwk]
  have e4 : sigL w xs x = xs := by simp [sigL, hwk]
  refine sr <| L_pur Z (bld36 .nil (by repeat constructor)) <| L_op <| x_store Z Z ty36 Z SM SM RO PT <| ag Z Z <| ag Z Z <| nq <| J_ret <| Q_then_ret <| J_ntS (b := b) (o := o) (w := orb w x) (xs := xs) PX trivial <| J_asTo (B := ntA b o (sigW w xs x) (sigL w xs x)) (by first | (rw [e3, e4]; done) | (rw [e3, e4]; rfl)) <| J_return (()) Tryz.results178 (.cellA Z ty36 HS CT (.tmp Z (.tmp Z .nil))) ?_ ?_
  · rw [e1, e2, hwk]; rfl
  · exact SU
  have h22' : ¬ orb w x = 0 := h22
  refine J_skip <| qx <| mv Z Z <| nc Z Z <| fa Z Z fa229_1 <| xo fc241 (A1 Z) Z (lPop (xs := xs) PC (by omega)) fun _ => mv Z Z <| L_pur Z (p_extract Z Z) <| L_pur Z (p_extract Z Z) <| L_op <| x_alloc ty36 Z fun b7 => L_op <| x_store Z Z ty36 Z SM SM RO PT <| ag Z Z <| nxx <| mv Z Z <| L_pur Z (p_not Z) <| nq <| C_split Z (fun h32 => ?_) (fun h32 => ?_)
  have hnil : xs = [] := by simpa using h32
  subst hnil
  have hwk : woke w [] x = false := by simp [woke, h22']
  have e1 : sigI w [] x = (0, 0) := by simp [sigI, hwk]
  have e2 : sigV w [] x = 0 := by simp [sigV, hwk]
  have e3 : sigW w [] x = orb w x := by simp [sigW, hwk]
  have e4 : sigL w [] x = [] := by simp [sigL, hwk]
  refine sr <| L_pur Z (bld36 .nil (by repeat constructor)) <| L_op <| x_store Z Z ty36 Z SM SM RO PT <| ag Z Z <| ag Z Z <| nq <| J_ret <| Q_then_ret <| J_ntS (b := b) (o := o) (w := orb w x) (xs := List.tail []) PX trivial <| J_asTo (B := ntA b o (sigW w [] x) (sigL w [] x)) (by first | (rw [e3, e4]; done) | (rw [e3, e4]; rfl)) <| J_return (()) Tryz.results178 (.cellA Z ty36 HS CT (.tmp Z (.tmp Z .nil))) ?_ ?_
  · rw [e1, e2, hwk]; rfl
  · exact SU
  have hne : xs.isEmpty = false := by simpa using h32
  have hwk : woke w xs x = true := by simp [woke, h22', hne]
  have e1 : sigI w xs x = xs.headD (0, 0) := by simp [sigI, hwk]
  have e2 : sigV w xs x = orb w x := by simp [sigV, hwk]
  have e3 : sigW w xs x = 0 := by simp [sigW, hwk]
  have e4 : sigL w xs x = xs.tail := by simp [sigL, hwk]
  refine J_skip <| qx <| mv Z Z <| nc Z Z <| fa Z Z fa229_0 <| L_val Z (v_loadL Z ty22 HS Z (by exact rfl)) <| ag Z Z <| nx <| mv Z Z <| nc Z Z <| fa Z Z fa229_0 <| L_op <| x_storeL Z Z ty22 Z SM SM Z RO Z PT <| nx <| L_val Z (v_loadA Z ty36 HS CT) <| mv Z Z <| L_op <| x_store Z Z ty36 Z SM SM RO PT <| ag Z Z <| ag Z Z <| nq <| J_ret <| J_ntS (b := b) (o := o) (w := 0) (xs := xs.tail) PX trivial <| J_asTo (B := ntA b o (sigW w xs x) (sigL w xs x)) (by first | (rw [e3, e4]; done) | (rw [e3, e4]; rfl)) <| J_return (()) Tryz.results178 (.cellA Z ty36 HS CT (.tmp Z (.tmp Z .nil))) ?_ ?_
  · rw [e1, e2, hwk]; rfl
  · exact SU
def isM (i : ID) (m : Msg) : Bool := decide (m.1.1 = i.1 ∧ m.1.2 = i.2)
def isR (i : ID) (r : Rcv) : Bool := decide (r.1.1 = i.1 ∧ r.1.2 = i.2)
theorem isR_eq (i : ID) (c : Rcv) : isR i c = decide (c.1 = i) := by unfold isR; rw [decide_eq_decide]; exact Prod.ext_iff.symm
abbrev mdrop (xs : List Msg) (i : ID) : List Msg := xs.filter fun c => !isM i c
abbrev rdrop (xs : List Rcv) (i : ID) : List Rcv := xs.filter fun c => !isR i c
theorem encM_one (c : Msg) : ones (encM c) = true := rfl
theorem encM_len (c : Msg) : (encM c).length = 5 := rfl
theorem encR_one (c : Rcv) : ones (encR c) = true := rfl
theorem encR_len (c : Rcv) : (encR c).length = 3 := rfl
theorem encT_one (c : Tm) : ones (encT c) = true := rfl
theorem encT_len (c : Tm) : (encT c).length = 3 := rfl
def isTm (i : ID) (c : Tm) : Bool := decide (c.2.1 = i.1 ∧ c.2.2 = i.2)
theorem isTm_eq (i : ID) (c : Tm) : isTm i c = decide (c.2 = i) := by unfold isTm; rw [decide_eq_decide]; exact Prod.ext_iff.symm
abbrev tdrop (xs : List Tm) (i : ID) : List Tm := xs.filter fun c => !isTm i c
theorem indexfunc294 {α : Type} {enc : α → List Value} {xs : List α} (hf : Tryz.prog.funcs[g]? = some fn) (hn : (fn.name == "runtime.NumGoroutine") = false) (hb : fn.body.isNone = false) {q : α → Bool} (hg : ∀ (l' : List As) (c : α), Has C l' → Con Tryz.prog g (#[.agg (enc c).toArray] ++ caps) E l' (fun _ : Unit => .bool (q c)) (fun _ => l')) (hv : Has (row 374 5 v (xs.map enc)) l) (hc : Has C l) :
    Con Tryz.prog 294 #[v, .func (.func g) #[] caps] E l (fun _ : Unit => .int .i64 (idx q xs)) (fun _ => l) := by
  refine Con.body (n := 19) Tryz.func294 Z Z _ (env_ok 2 Z) <| J_row hv fun hw a cap hv h1 h2 h3 => ?_
  subst hv
  have hm : cap ≤ 9223372036854775807 := h2
  have hml : (xs.map enc).length = xs.length := List.length_map _
  refine sr <| ag Z Z <| nxx <| mv Z Z <| L_pur Z (p_len Z Tryz.underlying220) <| mv Z Z <| nq <| J_block <| J_loop (α := Nat) (fun i => i ≤ xs.length ∧ ∀ c ∈ xs.take i, q c = false) (fun _ => l) (fun i => [(8, .int .i64 (i : Int)), (7, .int .i64 (xs.map enc).length), (0, .slice a (xs.map enc).length cap), (1, .func (.func g) #[] caps)]) (fun i => xs.length - i) 0 ⟨by omega, by simp⟩ SU KE ?_
  intro i ⟨hi, hq⟩
  refine sr <| L_pur Z (p_lss Z Z) <| nq <| J_seq <| C_dec Z (fun h9 => ?_) (fun h9 => ?_)
  have hlt : i < xs.length := by omega
  obtain ⟨b, o, rfl⟩ := h3 (by intro h; rw [h] at hml; simp at hml; omega)
  obtain ⟨c, hcc⟩ : ∃ c, xs[i]? = some c := ⟨_, List.getElem?_eq_getElem hlt⟩
  refine J_skip <| Q_then <| J_seq <| J_block <| sr <| mv Z Z <| ag Z Z <| nx <| mv Z Z <| mv Z Z <| mv Z Z <| L_pur Z (p_indexAddr Z Z Tryz.underlying220 ty374 (by omega) (by omega)) <| L_val Z (v_loadE Z ty374 HS (by simp only [Int.toNat_natCast, List.getElem?_map, hcc]; rfl)) ?_
  refine L_op <| x_callc Z hf hn hb (.cons Z .nil) Z (hg _ c hc) fun _ => nq <| C_split Z (fun h16 => ?_) (fun h16 => ?_)
  have hidx := idx_here hq hcc h16
  refine sr <| mv Z Z <| ag Z Z <| nq <| J_ret <| Q_blk_ret <| Q_then_ret <| Q_then_ret <| Q_blk_ret <| Q_then_ret <| J_return (()) Tryz.results294 (.tmp Z .nil) ?_ ?_
  · simp [one, hidx]
  · exact SU
  refine J_skip <| Q_blk_normal <| qr <| L_pur Z (p_add64 Z Z (by omega)) <| mv Z Z <| nq ?_
  exact J_again (i + 1) (by omega) (⟨by omega, take_false_succ hq hcc h16⟩) SU KE
  have hix : i = xs.length := by omega
  rw [hix, List.take_length] at hq
  have hidx := idx_none hq
  refine J_exit <| Q_then_exit <| Q_then_exit <| Q_blk_this <| qx <| ag Z Z <| nq <| J_ret <| J_return (()) Tryz.results294 (.tmp Z .nil) ?_ ?_
  · simp [one, hidx]
  · exact SU
theorem indexfunc295 {α : Type} {enc : α → List Value} {xs : List α} (hf : Tryz.prog.funcs[g]? = some fn) (hn : (fn.name == "runtime.NumGoroutine") = false) (hb : fn.body.isNone = false) {q : α → Bool} (hg : ∀ (l' : List As) (c : α), Has C l' → Con Tryz.prog g (#[.agg (enc c).toArray] ++ caps) E l' (fun _ : Unit => .bool (q c)) (fun _ => l')) (hv : Has (row 246 3 v (xs.map enc)) l) (hc : Has C l) :
    Con Tryz.prog 295 #[v, .func (.func g) #[] caps] E l (fun _ : Unit => .int .i64 (idx q xs)) (fun _ => l) := by
  refine Con.body (n := 19) Tryz.func295 Z Z _ (env_ok 2 Z) <| J_row hv fun hw a cap hv h1 h2 h3 => ?_
  subst hv
  have hm : cap ≤ 9223372036854775807 := h2
  have hml : (xs.map enc).length = xs.length := List.length_map _
  refine sr <| ag Z Z <| nxx <| mv Z Z <| L_pur Z (p_len Z Tryz.underlying114) <| mv Z Z <| nq <| J_block <| J_loop (α := Nat) (fun i => i ≤ xs.length ∧ ∀ c ∈ xs.take i, q c = false) (fun _ => l) (fun i => [(8, .int .i64 (i : Int)), (7, .int .i64 (xs.map enc).length), (0, .slice a (xs.map enc).length cap), (1, .func (.func g) #[] caps)]) (fun i => xs.length - i) 0 ⟨by omega, by simp⟩ SU KE ?_
  intro i ⟨hi, hq⟩
  refine sr <| L_pur Z (p_lss Z Z) <| nq <| J_seq <| C_dec Z (fun h9 => ?_) (fun h9 => ?_)
  have hlt : i < xs.length := by omega
  obtain ⟨b, o, rfl⟩ := h3 (by intro h; rw [h] at hml; simp at hml; omega)
  obtain ⟨c, hcc⟩ : ∃ c, xs[i]? = some c := ⟨_, List.getElem?_eq_getElem hlt⟩
  refine J_skip <| Q_then <| J_seq <| J_block <| sr <| mv Z Z <| ag Z Z <| nx <| mv Z Z <| mv Z Z <| mv Z Z <| L_pur Z (p_indexAddr Z Z Tryz.underlying114 ty246 (by omega) (by omega)) <| L_val Z (v_loadE Z ty246 HS (by simp only [Int.toNat_natCast, List.getElem?_map, hcc]; rfl)) ?_
  refine L_op <| x_callc Z hf hn hb (.cons Z .nil) Z (hg _ c hc) fun _ => nq <| C_split Z (fun h16 => ?_) (fun h16 => ?_)
  have hidx := idx_here hq hcc h16
  refine sr <| mv Z Z <| ag Z Z <| nq <| J_ret <| Q_blk_ret <| Q_then_ret <| Q_then_ret <| Q_blk_ret <| Q_then_ret <| J_return (()) Tryz.results295 (.tmp Z .nil) ?_ ?_
  · simp [one, hidx]
  · exact SU
  refine J_skip <| Q_blk_normal <| qr <| L_pur Z (p_add64 Z Z (by omega)) <| mv Z Z <| nq ?_
  exact J_again (i + 1) (by omega) (⟨by omega, take_false_succ hq hcc h16⟩) SU KE
  have hix : i = xs.length := by omega
  rw [hix, List.take_length] at hq
  have hidx := idx_none hq
  refine J_exit <| Q_then_exit <| Q_then_exit <| Q_blk_this <| qx <| ag Z Z <| nq <| J_ret <| J_return (()) Tryz.results295 (.tmp Z .nil) ?_ ?_
  · simp [one, hidx]
  · exact SU
theorem deletefunc236 {α : Type} {enc : α → List Value} {xs : List α} (hf : Tryz.prog.funcs[g]? = some fn) (hn : (fn.name == "runtime.NumGoroutine") = false) (hb : fn.body.isNone = false) {q : α → Bool} (hg : ∀ (l' : List As) (c : α), Has C l' → Con Tryz.prog g (#[.agg (enc c).toArray] ++ caps) E l' (fun _ : Unit => .bool (q c)) (fun _ => l')) (hv : Pick (row 374 5 v (xs.map enc)) l m) (hc : Has C m) (hone : ∀ c, ones (enc c) = true) (hlen : ∀ c, (enc c).length = 5) :
  Con Tryz.prog 236 #[v, .func (.func g) #[] caps] E l (fun v' : Value => v') (fun v' => row 374 5 v' ((xs.filter fun c => !q c).map enc) :: m) := by
 rcases idx_cases q xs with ⟨hi0, hall⟩ | ⟨i0, hi0, hlt0, hpre, c0, hc0, hq0⟩
 ·
  refine Con.body (n := 42) Tryz.func236 Z Z _ (env_ok 2 Z) <| J_pick hv <| sr <| ag Z Z <| nx <| mv Z Z <| mv Z Z <| xo fc294 (A2 Z Z) Z (indexfunc294 hf hn hb hg .here (.there hc)) fun _ => ag Z Z <| nxx <| mv Z Z <| L_pur Z (p_eql Z Z) <| nq <| J_bool (t := 12) (c := true) Z (by simp [hi0]) <| C_true Z <| sr <| J_rowEq (ys := (xs.filter fun c => !q c).map enc) (by rw [List.filter_eq_self.2 (fun c hc => by simp [hall c hc])]) <| mv Z Z <| ag Z Z <| nq <| J_ret <| Q_then_ret ?_
  exact J_return (_) Tryz.results236 (.tmp Z .nil) Z SU
 ·
  refine Con.body (n := 42) Tryz.func236 Z Z _ (env_ok 2 Z) <| J_pick hv <| J_row .here fun hw a cap hv h1 h2 h3 => ?_
  obtain ⟨b, o, rfl⟩ := h3 (by intro h; have := congrArg List.length h; simp at this; subst this; simp at hlt0)
  subst hv
  have hm : cap ≤ 9223372036854775807 := h2
  have hml : (xs.map enc).length = xs.length := List.length_map _
  have hk0 : kept q xs (i0 + 1) = xs.take i0 := kept_first hpre hc0 hq0
  have hl0 : (xs.take i0).length = i0 := by simp; omega
  refine sr <| ag Z Z <| nx <| mv Z Z <| mv Z Z <| xo fc294 (A2 Z Z) Z (indexfunc294 hf hn hb hg .here (.there hc)) fun _ => J_slot (t := 10) (v := .int .i64 (i0 : Int)) Z (by rw [hi0]) <| ag Z Z <| nxx <| mv Z Z <| L_pur Z (p_eql Z Z) <| nq <| J_bool (t := 12) (c := false) Z (by simp) <| C_false Z <| J_skip <| Q_then <| J_seq <| sr <| mv Z Z <| L_pur Z (p_add64 Z Z (by omega)) <| ag Z Z <| nq <| J_block ?_
  refine J_rowEq (ys := (kept q xs (i0 + 1) ++ xs.drop (kept q xs (i0 + 1)).length).map enc) (by rw [hk0, hl0, List.take_append_drop]) <| J_slot (t := 5) (v := .int .i64 ((kept q xs (i0 + 1)).length : Int)) Z (by rw [hk0, hl0]) <| J_loop (α := Nat) (fun j => j ≤ xs.length) (fun j => row 374 5 (.slice (some ⟨b, o, none⟩) (xs.map enc).length cap) ((kept q xs j ++ xs.drop (kept q xs j).length).map enc) :: m) (fun j => [(6, .int .i64 (j : Int)), (5, .int .i64 ((kept q xs j).length : Int)), (0, .slice (some ⟨b, o, none⟩) (xs.map enc).length cap), (1, .func (.func g) #[] caps)]) (fun j => xs.length - j) (i0 + 1) (by omega) SU KE ?_
  intro j hj
  have hkl := kept_le q xs j
  refine J_seq <| sr <| mv Z Z <| mv Z Z <| L_pur Z (p_len Z Tryz.underlying220) <| L_pur Z (p_lss Z Z) <| nq <| C_dec Z (fun h19 => ?_) (fun h19 => ?_)
  have hlt : j < xs.length := by omega
  obtain ⟨c, hcc⟩ : ∃ c, xs[j]? = some c := ⟨_, List.getElem?_eq_getElem hlt⟩
  refine J_skip <| Q_then <| J_seq <| J_block <| sr <| mv Z Z <| mv Z Z <| L_pur Z (p_indexAddr Z Z Tryz.underlying220 ty374 (by omega) (by omega)) <| L_val Z (v_loadE Z ty374 HS (by simp only [Int.toNat_natCast, List.getElem?_map, kept_get, hcc]; rfl)) ?_
  refine L_op <| x_alloc ty374 Z fun b7 => L_op <| x_store Z Z ty374 Z SM SM RO PT <| nx <| mv Z Z <| L_val Z (v_loadA Z ty374 HS CT) <| L_op <| x_callc Z hf hn hb (.cons Z .nil) Z (hg _ c (.there (.there hc))) fun _ => L_pur Z (p_not Z) <| nq <| C_split Z (fun h29 => ?_) (fun h29 => ?_)
  have hqc : q c = false := by simpa using h29
  have hks := kept_set hcc hqc
  have hkl1 : (kept q xs (j + 1)).length = (kept q xs j).length + 1 := by rw [kept_succ hcc, hqc]; simp
  refine sr <| mv Z Z <| mv Z Z <| L_val Z (v_loadA Z ty374 HS CT) <| L_pur Z (p_indexAddr Z Z Tryz.underlying220 ty374 (by omega) (by omega)) <| L_op <| x_storeE (vs := enc c) Z Z ty374 Z (hlen c) (hone c) PC (OM) <| J_rowEq (ys := (kept q xs (j + 1) ++ xs.drop (kept q xs (j + 1)).length).map enc) (by rw [← hks, List.map_set]; simp) <| ny <| mv Z Z <| L_pur Z (p_add64 Z Z (by omega)) <| ag Z Z <| L_nil <| Q_blk_normal <| qr <| mv Z Z <| L_pur Z (p_add64 Z Z (by omega)) <| ag Z Z <| nq <| J_slot (t := 5) (v := .int .i64 ((kept q xs (j + 1)).length : Int)) Z (by rw [hkl1]; rfl) ?_
  exact J_again (j + 1) (by omega) (by omega) SU KE
  have hqc : q c = true := by simpa using h29
  have hks : kept q xs (j + 1) = kept q xs j := by rw [kept_succ hcc, hqc]; simp
  refine J_skip <| Q_blk_normal <| qr <| mv Z Z <| L_pur Z (p_add64 Z Z (by omega)) <| ag Z Z <| nq <| J_slot (t := 5) (v := .int .i64 ((kept q xs (j + 1)).length : Int)) Z (by rw [hks]) <| J_pick (A := row 374 5 (.slice (some ⟨b, o, none⟩) (xs.map enc).length cap) ((kept q xs j ++ xs.drop (kept q xs j).length).map enc)) PC <| J_rowEq (ys := (kept q xs (j + 1) ++ xs.drop (kept q xs (j + 1)).length).map enc) (by rw [hks]) ?_
  exact J_again (j + 1) (by omega) (by omega) SU KE
  have hjx : j = xs.length := by omega
  have hka : kept q xs j = xs.filter fun c => !q c := kept_all (by omega)
  refine J_exit <| Q_then_exit <| Q_then_exit <| Q_blk_this <| qx <| mv Z Z <| mv Z Z <| L_pur Z (p_slice Z Tryz.underlying220 ty374 Z Z (by omega) (by omega) (by omega)) <| L_op <| x_clear (len := (xs.map enc).length) Z Tryz.underlying220 ty374 Z Z PC (OM) <| nx <| mv Z Z <| mv Z Z <| L_pur Z (p_slice Z Tryz.underlying220 ty374 Z Z (by omega) (by omega) (by omega)) <| J_take (k := (kept q xs j).length) (OM) <| J_rowTo (v' := .slice (some ⟨b, o, none⟩) (kept q xs j).length cap) (ys := (xs.filter fun c => !q c).map enc) (by simp [hka]) Z <| J_slot (t := 41) (v := .slice (some ⟨b, o, none⟩) (kept q xs j).length cap) Z (by simp [Addr.add]) <| ag Z Z <| nq <| J_ret ?_
  exact J_return (_) Tryz.results236 (.tmp Z .nil) Z SU
theorem deletefunc238 {α : Type} {enc : α → List Value} {xs : List α} (hf : Tryz.prog.funcs[g]? = some fn) (hn : (fn.name == "runtime.NumGoroutine") = false) (hb : fn.body.isNone = false) {q : α → Bool} (hg : ∀ (l' : List As) (c : α), Has C l' → Con Tryz.prog g (#[.agg (enc c).toArray] ++ caps) E l' (fun _ : Unit => .bool (q c)) (fun _ => l')) (hv : Pick (row 246 3 v (xs.map enc)) l m) (hc : Has C m) (hone : ∀ c, ones (enc c) = true) (hlen : ∀ c, (enc c).length = 3) :
  Con Tryz.prog 238 #[v, .func (.func g) #[] caps] E l (fun v' : Value => v') (fun v' => row 246 3 v' ((xs.filter fun c => !q c).map enc) :: m) := by
 rcases idx_cases q xs with ⟨hi0, hall⟩ | ⟨i0, hi0, hlt0, hpre, c0, hc0, hq0⟩
 ·
  refine Con.body (n := 42) Tryz.func238 Z Z _ (env_ok 2 Z) <| J_pick hv <| sr <| ag Z Z <| nx <| mv Z Z <| mv Z Z <| xo fc295 (A2 Z Z) Z (indexfunc295 hf hn hb hg .here (.there hc)) fun _ => ag Z Z <| nxx <| mv Z Z <| L_pur Z (p_eql Z Z) <| nq <| J_bool (t := 12) (c := true) Z (by simp [hi0]) <| C_true Z <| sr <| J_rowEq (ys := (xs.filter fun c => !q c).map enc) (by rw [List.filter_eq_self.2 (fun c hc => by simp [hall c hc])]) <| mv Z Z <| ag Z Z <| nq <| J_ret <| Q_then_ret ?_
  exact J_return (_) Tryz.results238 (.tmp Z .nil) Z SU
 ·
  refine Con.body (n := 42) Tryz.func238 Z Z _ (env_ok 2 Z) <| J_pick hv <| J_row .here fun hw a cap hv h1 h2 h3 => ?_
  obtain ⟨b, o, rfl⟩ := h3 (by intro h; have := congrArg List.length h; simp at this; subst this; simp at hlt0)
  subst hv
  have hm : cap ≤ 9223372036854775807 := h2
  have hml : (xs.map enc).length = xs.length := List.length_map _
  have hk0 : kept q xs (i0 + 1) = xs.take i0 := kept_first hpre hc0 hq0
  have hl0 : (xs.take i0).length = i0 := by simp; omega
  refine sr <| ag Z Z <| nx <| mv Z Z <| mv Z Z <| xo fc295 (A2 Z Z) Z (indexfunc295 hf hn hb hg .here (.there hc)) fun _ => J_slot (t := 10) (v := .int .i64 (i0 : Int)) Z (by rw [hi0]) <| ag Z Z <| nxx <| mv Z Z <| L_pur Z (p_eql Z Z) <| nq <| J_bool (t := 12) (c := false) Z (by simp) <| C_false Z <| J_skip <| Q_then <| J_seq <| sr <| mv Z Z <| L_pur Z (p_add64 Z Z (by omega)) <| ag Z Z <| nq <| J_block ?_
  refine J_rowEq (ys := (kept q xs (i0 + 1) ++ xs.drop (kept q xs (i0 + 1)).length).map enc) (by rw [hk0, hl0, List.take_append_drop]) <| J_slot (t := 5) (v := .int .i64 ((kept q xs (i0 + 1)).length : Int)) Z (by rw [hk0, hl0]) <| J_loop (α := Nat) (fun j => j ≤ xs.length) (fun j => row 246 3 (.slice (some ⟨b, o, none⟩) (xs.map enc).length cap) ((kept q xs j ++ xs.drop (kept q xs j).length).map enc) :: m) (fun j => [(6, .int .i64 (j : Int)), (5, .int .i64 ((kept q xs j).length : Int)), (0, .slice (some ⟨b, o, none⟩) (xs.map enc).length cap), (1, .func (.func g) #[] caps)]) (fun j => xs.length - j) (i0 + 1) (by omega) SU KE ?_
  intro j hj
  have hkl := kept_le q xs j
  refine J_seq <| sr <| mv Z Z <| mv Z Z <| L_pur Z (p_len Z Tryz.underlying114) <| L_pur Z (p_lss Z Z) <| nq <| C_dec Z (fun h19 => ?_) (fun h19 => ?_)
  have hlt : j < xs.length := by omega
  obtain ⟨c, hcc⟩ : ∃ c, xs[j]? = some c := ⟨_, List.getElem?_eq_getElem hlt⟩
  refine J_skip <| Q_then <| J_seq <| J_block <| sr <| mv Z Z <| mv Z Z <| L_pur Z (p_indexAddr Z Z Tryz.underlying114 ty246 (by omega) (by omega)) <| L_val Z (v_loadE Z ty246 HS (by simp only [Int.toNat_natCast, List.getElem?_map, kept_get, hcc]; rfl)) ?_
  refine L_op <| x_alloc ty246 Z fun b7 => L_op <| x_store Z Z ty246 Z SM SM RO PT <| nx <| mv Z Z <| L_val Z (v_loadA Z ty246 HS CT) <| L_op <| x_callc Z hf hn hb (.cons Z .nil) Z (hg _ c (.there (.there hc))) fun _ => L_pur Z (p_not Z) <| nq <| C_split Z (fun h29 => ?_) (fun h29 => ?_)
  have hqc : q c = false := by simpa using h29
  have hks := kept_set hcc hqc
  have hkl1 : (kept q xs (j + 1)).length = (kept q xs j).length + 1 := by rw [kept_succ hcc, hqc]; simp
  refine sr <| mv Z Z <| mv Z Z <| L_val Z (v_loadA Z ty246 HS CT) <| L_pur Z (p_indexAddr Z Z Tryz.underlying114 ty246 (by omega) (by omega)) <| L_op <| x_storeE (vs := enc c) Z Z ty246 Z (hlen c) (hone c) PC (OM) <| J_rowEq (ys := (kept q xs (j + 1) ++ xs.drop (kept q xs (j + 1)).length).map enc) (by rw [← hks, List.map_set]; simp) <| ny <| mv Z Z <| L_pur Z (p_add64 Z Z (by omega)) <| ag Z Z <| L_nil <| Q_blk_normal <| qr <| mv Z Z <| L_pur Z (p_add64 Z Z (by omega)) <| ag Z Z <| nq <| J_slot (t := 5) (v := .int .i64 ((kept q xs (j + 1)).length : Int)) Z (by rw [hkl1]; rfl) ?_
  exact J_again (j + 1) (by omega) (by omega) SU KE
  have hqc : q c = true := by simpa using h29
  have hks : kept q xs (j + 1) = kept q xs j := by rw [kept_succ hcc, hqc]; simp
  refine J_skip <| Q_blk_normal <| qr <| mv Z Z <| L_pur Z (p_add64 Z Z (by omega)) <| ag Z Z <| nq <| J_slot (t := 5) (v := .int .i64 ((kept q xs (j + 1)).length : Int)) Z (by rw [hks]) <| J_pick (A := row 246 3 (.slice (some ⟨b, o, none⟩) (xs.map enc).length cap) ((kept q xs j ++ xs.drop (kept q xs j).length).map enc)) PC <| J_rowEq (ys := (kept q xs (j + 1) ++ xs.drop (kept q xs (j + 1)).length).map enc) (by rw [hks]) ?_
  exact J_again (j + 1) (by omega) (by omega) SU KE
  have hjx : j = xs.length := by omega
  have hka : kept q xs j = xs.filter fun c => !q c := kept_all (by omega)
  refine J_exit <| Q_then_exit <| Q_then_exit <| Q_blk_this <| qx <| mv Z Z <| mv Z Z <| L_pur Z (p_slice Z Tryz.underlying114 ty246 Z Z (by omega) (by omega) (by omega)) <| L_op <| x_clear (len := (xs.map enc).length) Z Tryz.underlying114 ty246 Z Z PC (OM) <| nx <| mv Z Z <| mv Z Z <| L_pur Z (p_slice Z Tryz.underlying114 ty246 Z Z (by omega) (by omega) (by omega)) <| J_take (k := (kept q xs j).length) (OM) <| J_rowTo (v' := .slice (some ⟨b, o, none⟩) (kept q xs j).length cap) (ys := (xs.filter fun c => !q c).map enc) (by simp [hka]) Z <| J_slot (t := 41) (v := .slice (some ⟨b, o, none⟩) (kept q xs j).length cap) Z (by simp [Addr.add]) <| ag Z Z <| nq <| J_ret ?_
  exact J_return (_) Tryz.results238 (.tmp Z .nil) Z SU
theorem clone107 {xs : List (List Value)} (hr : ∀ w, Sep E w l → Reads w 3 v xs) (hb : xs.length ≤ 1000000) :
    Con Tryz.prog 107 #[v] E l (fun v' : Value => v') (fun v' => row 246 3 v' xs :: l) := by
  refine Con.body (n := 8) Tryz.func107 Z Z _ (env_ok 1 Z) <| J_reads hr fun hw a cap hv h1 h2 h3 => ?_
  subst hv
  refine sr <| ag Z Z <| nxx <| mv Z Z <| L_pur Z (p_eqnil Tryz.underlying114 Z) <| nq <| C_split Z (fun h4 => ?_) (fun h4 => ?_)
  obtain rfl : a = none := by simpa using h4
  obtain ⟨rfl, rfl⟩ := h3 rfl
  refine J_nil (el := 246) (sz := 3) <| sr <| ag Z Z <| nq <| J_ret <| Q_then_ret ?_
  exact J_return (_) Tryz.results107 (.tmp Z .nil) Z SU
  refine J_skip <| qx <| L_op <| x_lit (vals := []) Tryz.underlying114 ty246 Z .nil .nil Wf.nil Z (by decide) Z Z <| JR fun a5 c5 hw5 hl5 hm5 hz5 => mv Z Z <| L_op <| x_app Z Z Tryz.underlying114 ty246 Z Z PC (fun w H => hr w H.tail) (OM) (OM) Z <| JR fun a7 c7 hw7 hl7 hm7 hz7 => ag Z Z <| nq <| J_ret ?_
  exact J_return (_) Tryz.results107 (.tmp Z .nil) Z SU
theorem clo237 {c : Msg} (hc : Has (blk bc 36 (encI i)) l) :
    Con Tryz.prog 237 #[.agg (encM c).toArray, .pointer (some ⟨bc, 0, none⟩)] E l (fun _ : Unit => .bool (isM i c)) (fun _ => l) := by
  refine Con.body (n := 8) Tryz.func237 Z Z _ (env_ok 2 Z) <| sr <| L_op <| x_box Z Z Z fun b2 => ag Z Z <| nx <| fa Z Z fa374_0 <| L_val Z (v_loadA Z ty36 HS CT) <| L_val Z (v_loadA Z ty36 HS CT) <| L_pur Z (p_eqv Z Z (fun w => eg36 _ _ _ _ _ w) (fun w => eqv36 _ _ _ _ w)) <| ag Z Z <| nq <| J_ret ?_
  exact J_return (()) Tryz.results237 (.tmp Z .nil) Z SU
theorem clo239 {c : Rcv} (hc : Has (blk bc 36 (encI i)) l) :
    Con Tryz.prog 239 #[.agg (encR c).toArray, .pointer (some ⟨bc, 0, none⟩)] E l (fun _ : Unit => .bool (isR i c)) (fun _ => l) := by
  refine Con.body (n := 8) Tryz.func239 Z Z _ (env_ok 2 Z) <| sr <| L_op <| x_box Z Z Z fun b2 => ag Z Z <| nx <| fa Z Z fa246_0 <| L_val Z (v_loadA Z ty36 HS CT) <| L_val Z (v_loadA Z ty36 HS CT) <| L_pur Z (p_eqv Z Z (fun w => eg36 _ _ _ _ _ w) (fun w => eqv36 _ _ _ _ w)) <| ag Z Z <| nq <| J_ret ?_
  exact J_return (()) Tryz.results239 (.tmp Z .nil) Z SU
variable {out : List Msg} {inn : List Rcv}
theorem epDropC (hp : Pick (epA b out inn) l m) (hbo : out.length ≤ 100000) (hbi : inn.length ≤ 100000) :
    Con Tryz.prog 169 #[.pointer (some ⟨b, 0, none⟩), .agg (encI i).toArray] E l (fun _ : Unit => .bool (decide ((mdrop out i).length + (rdrop inn i).length < out.length + inn.length))) (fun _ => epA b (mdrop out i) (rdrop inn i) :: m) := by
  refine Con.body (n := 48) Tryz.func169 Z Z _ (env_ok 2 Z) <| J_pick hp <| J_epO fun vo vi _ => J_row (.there .here) fun hw a cap hv h1 h2 h3 => ?_
  subst hv
  refine J_row (.there (.there .here)) fun hw' a' cap' hv h1' h2' h3' => ?_
  subst hv
  refine sr <| L_op <| x_box Z Z Z fun b3 => ag Z Z <| nq <| J_seq <| J_drawS mixed (by kernel_rfl) <| sm Z Z <| sp Z (p_nilCheck Z) <| sp Z (p_fieldAddr Z fa222_0) <| S_val Z (v_load Z ty220 HS (by exact rfl)) <| sp Z (p_len Z Tryz.underlying220) <| sm Z Z <| sp Z (p_nilCheck Z) <| sp Z (p_fieldAddr Z fa222_1) <| S_val Z (v_load Z ty114 HS (by exact rfl)) <| sp Z (p_len Z Tryz.underlying114) <| sp Z (p_add64 Z Z (by simp; omega)) <| sp Z (p_assign Z) <| sq <| sr <| mv Z Z <| mv Z Z <| nc Z Z <| fa Z Z fa222_0 <| L_val Z (v_load Z ty220 HS (by exact rfl)) ?_
  refine L_pur Z (p_makeFunc (.cons Z .nil)) <| xo fc236 (A2 Z Z) Z (deletefunc236 (xs := out) (enc := encM) (q := isM i) (C := blk b3 36 (encI i)) Tryz.func237 nm237 bd237 (fun l' c hc => clo237 hc) PC HS encM_one encM_len) <| JR fun a23 c23 hw23 hl23 hm23 hz23 => nc Z Z <| fa Z Z fa222_0 <| L_op <| x_store Z Z ty220 Z SM SM RO PT <| nx <| mv Z Z <| mv Z Z <| nc Z Z <| fa Z Z fa222_1 <| L_val Z (v_load Z ty114 HS (by exact rfl)) <| L_pur Z (p_makeFunc (.cons Z .nil)) <| xo fc238 (A2 Z Z) Z (deletefunc238 (xs := inn) (enc := encR) (q := isR i) (C := blk b3 36 (encI i)) Tryz.func239 nm239 bd239 (fun l' c hc => clo239 hc) PC HS encR_one encR_len) <| JR fun a32 c32 hw32 hl32 hm32 hz32 => nc Z Z <| fa Z Z fa222_1 <| L_op <| x_store Z Z ty114 Z SM SM RO PT ?_
  refine nq <| J_seq <| J_drawS mixed (by kernel_rfl) <| sm Z Z <| sp Z (p_nilCheck Z) <| sp Z (p_fieldAddr Z fa222_0) <| S_val Z (v_load Z ty220 HS (by exact rfl)) <| sp Z (p_len Z Tryz.underlying220) <| sm Z Z <| sp Z (p_nilCheck Z) <| sp Z (p_fieldAddr Z fa222_1) <| S_val Z (v_load Z ty114 HS (by exact rfl)) <| sp Z (p_len Z Tryz.underlying114) <| sp Z (p_add64 Z Z (by have := List.length_filter_le (fun c => !isM i c) out; have := List.length_filter_le (fun c => !isR i c) inn; simp; omega)) <| sm Z Z <| sp Z (p_lss Z Z) <| sp Z (p_assign Z) <| sq <| J_ret <| J_epS (b := b) (out := (mdrop out i)) (inn := (rdrop inn i)) _ _ PX trivial <| J_return (()) Tryz.results169 (.tmp Z .nil) ?_ ?_
  · simp only [one, List.length_map, mdrop, rdrop]; congr 1; rw [decide_eq_decide]; omega
  · exact SU
theorem epReceivers (hp : Pick (epA b out inn) l m) (hbo : out.length ≤ 100000) (hbi : inn.length ≤ 100000) :
    Con Tryz.prog 61 #[.pointer (some ⟨b, 0, none⟩)] E l (fun v : Value => v) (fun v => row 246 3 v (inn.map encR) :: epA b out inn :: m) := by
  refine Con.body (n := 8) Tryz.func61 Z Z _ (env_ok 1 Z) <| J_pick hp <| J_epO fun vo vi _ => J_row (.there .here) fun hw a cap hv h1 h2 h3 => ?_
  subst hv
  refine J_row (.there (.there .here)) fun hw' a' cap' hv h1' h2' h3' => ?_
  subst hv
  refine sr <| ag Z Z <| nx <| mv Z Z <| nc Z Z <| fa Z Z fa222_1 <| L_val Z (v_load Z ty114 HS (by exact rfl)) <| xo fc107 (A1 Z) Z (clone107 (xs := inn.map encR) (fun w H => sep_reads (xs := inn.map encR) HS H) (by simp; omega)) <| JR fun a7 c7 hw7 hl7 hm7 hz7 => ag Z Z <| nq <| J_ret <| J_epS (b := b) (out := out) (inn := inn) _ _ PX trivial ?_
  exact J_return (_) Tryz.results61 (.tmp Z .nil) Z SU
theorem indexfunc293 {α : Type} {enc : α → List Value} {xs : List α} (hf : Tryz.prog.funcs[g]? = some fn) (hn : (fn.name == "runtime.NumGoroutine") = false) (hb : fn.body.isNone = false) {q : α → Bool} (hg : ∀ (l' : List As) (c : α), Has C l' → Con Tryz.prog g (#[.agg (enc c).toArray] ++ caps) E l' (fun _ : Unit => .bool (q c)) (fun _ => l')) (hv : Has (row 308 3 v (xs.map enc)) l) (hc : Has C l) :
    Con Tryz.prog 293 #[v, .func (.func g) #[] caps] E l (fun _ : Unit => .int .i64 (idx q xs)) (fun _ => l) := by
  refine Con.body (n := 19) Tryz.func293 Z Z _ (env_ok 2 Z) <| J_row hv fun hw a cap hv h1 h2 h3 => ?_
  subst hv
  have hm : cap ≤ 9223372036854775807 := h2
  have hml : (xs.map enc).length = xs.length := List.length_map _
  refine sr <| ag Z Z <| nxx <| mv Z Z <| L_pur Z (p_len Z Tryz.underlying139) <| mv Z Z <| nq <| J_block <| J_loop (α := Nat) (fun i => i ≤ xs.length ∧ ∀ c ∈ xs.take i, q c = false) (fun _ => l) (fun i => [(8, .int .i64 (i : Int)), (7, .int .i64 (xs.map enc).length), (0, .slice a (xs.map enc).length cap), (1, .func (.func g) #[] caps)]) (fun i => xs.length - i) 0 ⟨by omega, by simp⟩ SU KE ?_
  intro i ⟨hi, hq⟩
  refine sr <| L_pur Z (p_lss Z Z) <| nq <| J_seq <| C_dec Z (fun h9 => ?_) (fun h9 => ?_)
  have hlt : i < xs.length := by omega
  obtain ⟨b, o, rfl⟩ := h3 (by intro h; rw [h] at hml; simp at hml; omega)
  obtain ⟨c, hcc⟩ : ∃ c, xs[i]? = some c := ⟨_, List.getElem?_eq_getElem hlt⟩
  refine J_skip <| Q_then <| J_seq <| J_block <| sr <| mv Z Z <| ag Z Z <| nx <| mv Z Z <| mv Z Z <| mv Z Z <| L_pur Z (p_indexAddr Z Z Tryz.underlying139 ty308 (by omega) (by omega)) <| L_val Z (v_loadE Z ty308 HS (by simp only [Int.toNat_natCast, List.getElem?_map, hcc]; rfl)) ?_
  refine L_op <| x_callc Z hf hn hb (.cons Z .nil) Z (hg _ c hc) fun _ => nq <| C_split Z (fun h16 => ?_) (fun h16 => ?_)
  have hidx := idx_here hq hcc h16
  refine sr <| mv Z Z <| ag Z Z <| nq <| J_ret <| Q_blk_ret <| Q_then_ret <| Q_then_ret <| Q_blk_ret <| Q_then_ret <| J_return (()) Tryz.results293 (.tmp Z .nil) ?_ ?_
  · simp [one, hidx]
  · exact SU
  refine J_skip <| Q_blk_normal <| qr <| L_pur Z (p_add64 Z Z (by omega)) <| mv Z Z <| nq ?_
  exact J_again (i + 1) (by omega) (⟨by omega, take_false_succ hq hcc h16⟩) SU KE
  have hix : i = xs.length := by omega
  rw [hix, List.take_length] at hq
  have hidx := idx_none hq
  refine J_exit <| Q_then_exit <| Q_then_exit <| Q_blk_this <| qx <| ag Z Z <| nq <| J_ret <| J_return (()) Tryz.results293 (.tmp Z .nil) ?_ ?_
  · simp [one, hidx]
  · exact SU
theorem deletefunc234 {α : Type} {enc : α → List Value} {xs : List α} (hf : Tryz.prog.funcs[g]? = some fn) (hn : (fn.name == "runtime.NumGoroutine") = false) (hb : fn.body.isNone = false) {q : α → Bool} (hg : ∀ (l' : List As) (c : α), Has C l' → Con Tryz.prog g (#[.agg (enc c).toArray] ++ caps) E l' (fun _ : Unit => .bool (q c)) (fun _ => l')) (hv : Pick (row 308 3 v (xs.map enc)) l m) (hc : Has C m) (hone : ∀ c, ones (enc c) = true) (hlen : ∀ c, (enc c).length = 3) :
  Con Tryz.prog 234 #[v, .func (.func g) #[] caps] E l (fun v' : Value => v') (fun v' => row 308 3 v' ((xs.filter fun c => !q c).map enc) :: m) := by
 rcases idx_cases q xs with ⟨hi0, hall⟩ | ⟨i0, hi0, hlt0, hpre, c0, hc0, hq0⟩
 ·
  refine Con.body (n := 42) Tryz.func234 Z Z _ (env_ok 2 Z) <| J_pick hv <| sr <| ag Z Z <| nx <| mv Z Z <| mv Z Z <| xo fc293 (A2 Z Z) Z (indexfunc293 hf hn hb hg .here (.there hc)) fun _ => ag Z Z <| nxx <| mv Z Z <| L_pur Z (p_eql Z Z) <| nq <| J_bool (t := 12) (c := true) Z (by simp [hi0]) <| C_true Z <| sr <| J_rowEq (ys := (xs.filter fun c => !q c).map enc) (by rw [List.filter_eq_self.2 (fun c hc => by simp [hall c hc])]) <| mv Z Z <| ag Z Z <| nq <| J_ret <| Q_then_ret ?_
  exact J_return (_) Tryz.results234 (.tmp Z .nil) Z SU
 ·
  refine Con.body (n := 42) Tryz.func234 Z Z _ (env_ok 2 Z) <| J_pick hv <| J_row .here fun hw a cap hv h1 h2 h3 => ?_
  obtain ⟨b, o, rfl⟩ := h3 (by intro h; have := congrArg List.length h; simp at this; subst this; simp at hlt0)
  subst hv
  have hm : cap ≤ 9223372036854775807 := h2
  have hml : (xs.map enc).length = xs.length := List.length_map _
  have hk0 : kept q xs (i0 + 1) = xs.take i0 := kept_first hpre hc0 hq0
  have hl0 : (xs.take i0).length = i0 := by simp; omega
  refine sr <| ag Z Z <| nx <| mv Z Z <| mv Z Z <| xo fc293 (A2 Z Z) Z (indexfunc293 hf hn hb hg .here (.there hc)) fun _ => J_slot (t := 10) (v := .int .i64 (i0 : Int)) Z (by rw [hi0]) <| ag Z Z <| nxx <| mv Z Z <| L_pur Z (p_eql Z Z) <| nq <| J_bool (t := 12) (c := false) Z (by simp) <| C_false Z <| J_skip <| Q_then <| J_seq <| sr <| mv Z Z <| L_pur Z (p_add64 Z Z (by omega)) <| ag Z Z <| nq <| J_block ?_
  refine J_rowEq (ys := (kept q xs (i0 + 1) ++ xs.drop (kept q xs (i0 + 1)).length).map enc) (by rw [hk0, hl0, List.take_append_drop]) <| J_slot (t := 5) (v := .int .i64 ((kept q xs (i0 + 1)).length : Int)) Z (by rw [hk0, hl0]) <| J_loop (α := Nat) (fun j => j ≤ xs.length) (fun j => row 308 3 (.slice (some ⟨b, o, none⟩) (xs.map enc).length cap) ((kept q xs j ++ xs.drop (kept q xs j).length).map enc) :: m) (fun j => [(6, .int .i64 (j : Int)), (5, .int .i64 ((kept q xs j).length : Int)), (0, .slice (some ⟨b, o, none⟩) (xs.map enc).length cap), (1, .func (.func g) #[] caps)]) (fun j => xs.length - j) (i0 + 1) (by omega) SU KE ?_
  intro j hj
  have hkl := kept_le q xs j
  refine J_seq <| sr <| mv Z Z <| mv Z Z <| L_pur Z (p_len Z Tryz.underlying139) <| L_pur Z (p_lss Z Z) <| nq <| C_dec Z (fun h19 => ?_) (fun h19 => ?_)
  have hlt : j < xs.length := by omega
  obtain ⟨c, hcc⟩ : ∃ c, xs[j]? = some c := ⟨_, List.getElem?_eq_getElem hlt⟩
  refine J_skip <| Q_then <| J_seq <| J_block <| sr <| mv Z Z <| mv Z Z <| L_pur Z (p_indexAddr Z Z Tryz.underlying139 ty308 (by omega) (by omega)) <| L_val Z (v_loadE Z ty308 HS (by simp only [Int.toNat_natCast, List.getElem?_map, kept_get, hcc]; rfl)) ?_
  refine L_op <| x_alloc ty308 Z fun b7 => L_op <| x_store Z Z ty308 Z SM SM RO PT <| nx <| mv Z Z <| L_val Z (v_loadA Z ty308 HS CT) <| L_op <| x_callc Z hf hn hb (.cons Z .nil) Z (hg _ c (.there (.there hc))) fun _ => L_pur Z (p_not Z) <| nq <| C_split Z (fun h29 => ?_) (fun h29 => ?_)
  have hqc : q c = false := by simpa using h29
  have hks := kept_set hcc hqc
  have hkl1 : (kept q xs (j + 1)).length = (kept q xs j).length + 1 := by rw [kept_succ hcc, hqc]; simp
  refine sr <| mv Z Z <| mv Z Z <| L_val Z (v_loadA Z ty308 HS CT) <| L_pur Z (p_indexAddr Z Z Tryz.underlying139 ty308 (by omega) (by omega)) <| L_op <| x_storeE (vs := enc c) Z Z ty308 Z (hlen c) (hone c) PC (OM) <| J_rowEq (ys := (kept q xs (j + 1) ++ xs.drop (kept q xs (j + 1)).length).map enc) (by rw [← hks, List.map_set]; simp) <| ny <| mv Z Z <| L_pur Z (p_add64 Z Z (by omega)) <| ag Z Z <| L_nil <| Q_blk_normal <| qr <| mv Z Z <| L_pur Z (p_add64 Z Z (by omega)) <| ag Z Z <| nq <| J_slot (t := 5) (v := .int .i64 ((kept q xs (j + 1)).length : Int)) Z (by rw [hkl1]; rfl) ?_
  exact J_again (j + 1) (by omega) (by omega) SU KE
  have hqc : q c = true := by simpa using h29
  have hks : kept q xs (j + 1) = kept q xs j := by rw [kept_succ hcc, hqc]; simp
  refine J_skip <| Q_blk_normal <| qr <| mv Z Z <| L_pur Z (p_add64 Z Z (by omega)) <| ag Z Z <| nq <| J_slot (t := 5) (v := .int .i64 ((kept q xs (j + 1)).length : Int)) Z (by rw [hks]) <| J_pick (A := row 308 3 (.slice (some ⟨b, o, none⟩) (xs.map enc).length cap) ((kept q xs j ++ xs.drop (kept q xs j).length).map enc)) PC <| J_rowEq (ys := (kept q xs (j + 1) ++ xs.drop (kept q xs (j + 1)).length).map enc) (by rw [hks]) ?_
  exact J_again (j + 1) (by omega) (by omega) SU KE
  have hjx : j = xs.length := by omega
  have hka : kept q xs j = xs.filter fun c => !q c := kept_all (by omega)
  refine J_exit <| Q_then_exit <| Q_then_exit <| Q_blk_this <| qx <| mv Z Z <| mv Z Z <| L_pur Z (p_slice Z Tryz.underlying139 ty308 Z Z (by omega) (by omega) (by omega)) <| L_op <| x_clear (len := (xs.map enc).length) Z Tryz.underlying139 ty308 Z Z PC (OM) <| nx <| mv Z Z <| mv Z Z <| L_pur Z (p_slice Z Tryz.underlying139 ty308 Z Z (by omega) (by omega) (by omega)) <| J_take (k := (kept q xs j).length) (OM) <| J_rowTo (v' := .slice (some ⟨b, o, none⟩) (kept q xs j).length cap) (ys := (xs.filter fun c => !q c).map enc) (by simp [hka]) Z <| J_slot (t := 41) (v := .slice (some ⟨b, o, none⟩) (kept q xs j).length cap) Z (by simp [Addr.add]) <| ag Z Z <| nq <| J_ret ?_
  exact J_return (_) Tryz.results234 (.tmp Z .nil) Z SU
theorem clo235 {c : Tm} (hc : Has (blk bc 36 (encI i)) l) :
    Con Tryz.prog 235 #[.agg (encT c).toArray, .pointer (some ⟨bc, 0, none⟩)] E l (fun _ : Unit => .bool (isTm i c)) (fun _ => l) := by
  refine Con.body (n := 8) Tryz.func235 Z Z _ (env_ok 2 Z) <| sr <| L_op <| x_box Z Z Z fun b2 => ag Z Z <| nx <| fa Z Z fa308_1 <| L_val Z (v_loadA Z ty36 HS CT) <| L_val Z (v_loadA Z ty36 HS CT) <| L_pur Z (p_eqv Z Z (fun w => eg36 _ _ _ _ _ w) (fun w => eqv36 _ _ _ _ w)) <| ag Z Z <| nq <| J_ret ?_
  exact J_return (()) Tryz.results235 (.tmp Z .nil) Z SU
theorem tmrDropC {xs : List Tm} (hp : Pick (tmrA b o xs) l m) (hb : xs.length ≤ 100000) :
    Con Tryz.prog 168 #[.pointer (some ⟨b, o, none⟩), .agg (encI i).toArray] E l (fun _ : Unit => .bool (decide ((tdrop xs i).length < xs.length))) (fun _ => tmrA b o (tdrop xs i) :: m) := by
  refine Con.body (n := 27) Tryz.func168 Z Z _ (env_ok 2 Z) <| J_pick hp <| J_tmrO fun v _ => J_row (.there .here) fun hw a cap hv h1 h2 h3 => ?_
  subst hv
  have hm : cap ≤ 9223372036854775807 := h2
  have hml : (xs.map encT).length = xs.length := List.length_map _
  refine sr <| L_op <| x_box Z Z Z fun b3 => ag Z Z <| nx <| mv Z Z <| nc Z Z <| fa Z Z fa141_0 <| L_val Z (v_loadL Z ty139 HS Z (by exact rfl)) <| L_pur Z (p_len Z Tryz.underlying139) <| ag Z Z <| nx <| mv Z Z <| mv Z Z <| nc Z Z <| fa Z Z fa141_0 <| L_val Z (v_loadL Z ty139 HS Z (by exact rfl)) <| L_pur Z (p_makeFunc (.cons Z .nil)) <| xo fc234 (A2 Z Z) Z (deletefunc234 (xs := xs) (enc := encT) (q := isTm i) (C := blk b3 36 (encI i)) Tryz.func235 nm235 bd235 (fun l' c hc => clo235 hc) PC HS encT_one encT_len) <| JR fun a17 c17 hw17 hl17 hm17 hz17 => nc Z Z <| fa Z Z fa141_0 <| L_op <| x_storeL Z Z ty139 Z SM SM Z RO Z PT <| nx <| mv Z Z <| nc Z Z <| fa Z Z fa141_0 <| L_val Z (v_loadL Z ty139 HS Z (by exact rfl)) <| L_pur Z (p_len Z Tryz.underlying139) <| mv Z Z <| L_pur Z (p_lss Z Z) <| ag Z Z <| nq <| J_ret <| J_tmrS (b := b) (o := o) (xs := tdrop xs i) _ PX trivial ?_
  refine J_return (()) Tryz.results168 (.tmp Z .nil) ?_ ?_
  · simp [one]
  · exact SU
def cDrop (c : ID × Bool) (i : ID) : ID × Bool := if c.2 = true ∧ c.1 = i then ((0, 0), false) else c
theorem rpDropC {c : ID × Bool} (hp : Pick (rpA b c) l m) :
    Con Tryz.prog 173 #[.pointer (some ⟨b, 0, none⟩), .agg (encI i).toArray] E l (fun _ : Unit => .bool (decide (c.2 = true ∧ c.1 = i))) (fun _ => rpA b (cDrop c i) :: m) := by
  refine Con.body (n := 21) Tryz.func173 Z Z _ (env_ok 2 Z) <| J_pick hp <| J_asTo (B := blk b 243 [.int .i64 c.1.1, .int .i64 c.1.2, .bool c.2]) (by rfl) <| sr <| L_op <| x_box Z Z Z fun b3 => ag Z Z <| nq <| J_seq <| J_seq <| J_drawS mixed (by kernel_rfl) <| sm Z Z <| sp Z (p_nilCheck Z) <| sp Z (p_fieldAddr Z fa243_1) <| S_val Z (v_load Z ty4 HS (by exact rfl)) <| sp Z (p_not Z) <| sm Z Z <| J_gsplit (t := 10) Z (fun h10 => ?_) (fun h10 => ?_)
  have hno : ¬ (c.2 = true ∧ c.1 = i) := fun e => by rw [e.1] at h10; simp at h10
  refine S_off Z Z Z Z Z <| S_off Z Z Z Z Z <| S_off Z Z Z Z Z <| S_off Z Z Z Z Z <| S_off Z Z Z Z Z <| S_off Z Z Z Z Z <| sp Z (p_pick_t Z Z) <| sq <| C_true Z <| sr <| ag Z Z <| nq <| J_ret <| Q_then_ret <| J_pick (A := blk b _ _) PC <| J_asTo (B := rpA b (cDrop c i)) (by rw [cDrop, if_neg hno]; rfl) <| J_return (()) Tryz.results173 (.tmp Z .nil) ?_ ?_
  · simp [one, hno]
  · exact SU
  refine S_on Z Z Z Z (Pur.vl (p_move Z)) <| S_on Z Z Z Z (Pur.vl (p_nilCheck Z)) <| S_on Z Z Z Z (Pur.vl (p_fieldAddr Z fa243_0)) <| S_on Z Z Z Z (v_loadA Z ty36 HS CT) <| S_on Z Z Z Z (v_loadA Z ty36 HS CT) <| S_on Z Z Z Z (Pur.vl (p_nev Z Z (fun w => eg36 _ _ _ _ _ w) (fun w => nev36 _ _ _ _ w))) <| sp Z (p_pick_f Z Z) <| sq <| C_split Z (fun h17 => ?_) (fun h17 => ?_)
  have hno : ¬ (c.2 = true ∧ c.1 = i) := fun e => by rw [← e.2] at h17; simp at h17
  refine sr <| ag Z Z <| nq <| J_ret <| Q_then_ret <| J_pick (A := blk b _ _) PC <| J_asTo (B := rpA b (cDrop c i)) (by rw [cDrop, if_neg hno]; rfl) <| J_return (()) Tryz.results173 (.tmp Z .nil) ?_ ?_
  · simp [one, hno]
  · exact SU
  have hyes : c.2 = true ∧ c.1 = i := ⟨by simpa using h10, by simp at h17; exact Prod.ext h17.1 h17.2⟩
  refine J_skip <| qx <| mv Z Z <| L_pur Z (bld243 .nil (by repeat constructor)) <| nc Z Z <| L_op <| x_store Z Z ty243 Z SM SM RO PT <| nx <| ag Z Z <| nq <| J_ret <| J_pick (A := blk b _ _) PC <| J_asTo (B := rpA b (cDrop c i)) (by rw [cDrop, if_pos hyes]; rfl) <| J_return (()) Tryz.results173 (.tmp Z .nil) ?_ ?_
  · simp [one, hyes]
  · exact SU
theorem rpCaller {c : ID × Bool} (hp : Pick (rpA b c) l m) :
    Con Tryz.prog 289 #[.pointer (some ⟨b, 0, none⟩)] E l (fun _ : Unit => .tuple #[.agg (encI c.1).toArray, .bool c.2]) (fun _ => rpA b c :: m) := by
  refine Con.body (n := 12) Tryz.func289 Z Z _ (env_ok 1 Z) <| J_pick hp <| J_asTo (B := blk b 243 [.int .i64 c.1.1, .int .i64 c.1.2, .bool c.2]) (by rfl) <| sr <| L_op <| x_alloc ty36 Z fun b2 => ag Z Z <| nq <| J_seq <| J_drawL (some 8) mixed <| ip 0 Z Z Z Z (p_move Z) <| ip 1 Z Z Z Z (p_nilCheck Z) <| ip 2 Z Z Z Z (p_fieldAddr Z fa243_0) <| iv 3 Z Z Z Z (fun _ => v_loadA Z ty36 HS CT) <| ip 4 Z Z Z Z (p_move Z) <| ip 5 Z Z Z Z (p_nilCheck Z) <| ip 6 Z Z Z Z (p_fieldAddr Z fa243_1) <| I_ready (rs := [7, 8]) SI (by kernel_rfl) (by simp) <| (I_cons Z ?_ (I_cons Z ?_ I_nil))
  refine J_val (v_load Z ty4 HS (by exact rfl)) Z Z Z <| i1 8 Z <| x_store Z Z ty36 Z SM SM RO PT <| ip 9 Z Z Z Z (p_assign Z) <| i0 <| Q_then <| J_ret <| J_pick (A := blk b _ _) PC <| J_asTo (B := rpA b c) (by rfl) <| J_return (()) Tryz.results289 (.cellA Z ty36 HS CT (.tmp Z .nil)) ?_ ?_
  · rfl
  · exact SU
  refine x_store Z Z ty36 Z SM SM RO PT <| i1 7 Z <| J_val (v_load Z ty4 HS (by exact rfl)) Z Z Z <| ip 9 Z Z Z Z (p_assign Z) <| i0 <| Q_then <| J_ret <| J_pick (A := blk b _ _) PC <| J_asTo (B := rpA b c) (by rfl) <| J_return (()) Tryz.results289 (.cellA Z ty36 HS CT (.tmp Z .nil)) ?_ ?_
  · rfl
  · exact SU
variable {P : Program} {F : Env} {zs : List Value}
theorem p_buildA {t el : TypeId} {n len sz by1 sz2 by2 : Nat} {ag : Bool} {dst : Option Tmp} {T : TypeId} {p : String} {e : Array Edge} {g : Option (Nat × Bool)} {parts : Array (Nat × Operand)} {ps : List (Nat × Value)} {zt : List Value} {cs : Array Value} (hT : Ty P t sz2 by2 true zt) (hu : P.underlying t = some (.array len el)) (hE : Ty P el sz by1 ag zs)
    (hps : Parts F parts.toList ps) (h : Instr.fill (fun i => some (i * sz, sz)) zt.toArray ps = some cs) : Pur P ⟨dst, .build t parts, T, p, e, g⟩ F n (.agg cs) := fun a hF w => by
  obtain ⟨z, hz, hzs⟩ := hT.zero w
  have hp : (parts.map fun (i, x) => (i, a.eval x)).toList = ps := by
    rw [Array.toList_map]; exact hps.map hF
  have hzc : z.cells = zt.toArray := by rw [← hzs]
  have : (Instr.build t (parts.map fun (i, x) => (i, a.eval x))).run P w = .ok (.agg cs) w := by
    simp only [Instr.build, Sem.run_bind, hz, Result.andThen_ok, run_underlying hu, hE.sizeOf, hp, hzc, h]
    rfl
  simp only [execOp, Sem.run_bind, this, Result.andThen_ok]
  rfl
theorem p_index {t el : TypeId} {n len sz by1 : Nat} {ag : Bool} {dst : Option Tmp} {T : TypeId} {p : String} {e : Array Edge} {g : Option (Nat × Bool)} {x y : Operand} {cs : Array Value} {i : Nat} (hx : evl F x = some (.agg cs)) (hy : evl F y = some (.int .i64 (i : Int))) (hu : P.underlying t = some (.array len el)) (hE : Ty P el sz by1 ag zs) (hi : i < len)
    (hv : ∀ w, (part el cs (i * sz)).run P w = .ok v w) : Pur P ⟨dst, .index t x y, T, p, e, g⟩ F n v := fun a hF w => by
  have h0 : (0 : Int) ≤ (i : Int) ∧ (i : Int) < (len : Int) := ⟨by omega, by omega⟩
  simp [execOp, hF.evl hx, hF.evl hy, Instr.index, asIntOf, run_underlying hu, hE.sizeOf, hi, hv]
/-! ### plain: entries as bytes -/
def checkE (e : Sqe) : Bool := decide (1 ≤ e.op) && decide (e.op ≤ 20) && decide (0 ≤ e.flags) && decide (e.flags ≤ 15) && !decide (bits .and .i64 e.flags 3 = 3)
def wordE (e : Sqe) (i : Nat) : Int := if i = 0 then e.tag else if i = 1 then e.cap else if i = 2 then e.a else if i = 3 then e.b else if i = 4 then e.c else e.time
def partE (e : Sqe) : Nat → List Int
  | 0 => e.op % 256 :: e.flags % 256 :: List.replicate 30 0
  | i + 1 => putB (partE e i) (4 + 4 * i) (le4 (wordE e i))
def bytesE (e : Sqe) : List Int := e.op % 256 :: e.flags % 256 :: 0 :: 0 :: (le4 e.tag ++ (le4 e.cap ++ (le4 e.a ++ (le4 e.b ++ (le4 e.c ++ (le4 e.time ++ [0, 0, 0, 0]))))))
def rawE (e : Sqe) : List Int := if checkE e then bytesE e else []
def readE (bs : List Int) : Sqe := ⟨byteAt bs 0, byteAt bs 1, getN bs 4 4, getN bs 8 4, getN bs 12 4, getN bs 16 4, getN bs 20 4, getN bs 24 4⟩
def goodE (bs : List Int) : Bool := checkE (readE bs) && (decide (byteAt bs 2 = 0) && (decide (byteAt bs 3 = 0) && (decide (byteAt bs 28 = 0) && (decide (byteAt bs 29 = 0) && (decide (byteAt bs 30 = 0) && decide (byteAt bs 31 = 0))))))
theorem le4_get (h : Bytes bs) (a : Nat) : le4 (getN bs a 4) = [byteAt bs a, byteAt bs (a + 1), byteAt bs (a + 2), byteAt bs (a + 3)] := by
  have h0 := byteAt_is h a
  have h1 := byteAt_is h (a + 1)
  have h2 := byteAt_is h (a + 2)
  have h3 := byteAt_is h (a + 3)
  have e : getN bs a 4 = byteAt bs a + byteAt bs (a + 1) * 256 + byteAt bs (a + 2) * 65536 + byteAt bs (a + 3) * 16777216 := by
    simp only [getN, Nat.add_zero]; omega
  unfold le4
  rw [e]
  refine List.cons_eq_cons.2 ⟨by omega, List.cons_eq_cons.2 ⟨by omega, List.cons_eq_cons.2 ⟨by omega, List.cons_eq_cons.2 ⟨by omega, rfl⟩⟩⟩⟩
theorem bytes_all (hl : bs.length = 32) : bs = (List.range 32).map (byteAt bs) := by
  refine List.ext_getElem? fun i => ?_
  rw [List.getElem?_map]
  by_cases h : i < 32
  · rw [List.getElem?_range h, List.getElem?_eq_getElem (by omega)]
    simp [byteAt, List.getElem?_eq_getElem (show i < bs.length by omega)]
  · rw [List.getElem?_eq_none (by omega), List.getElem?_eq_none (by simp; omega)]; rfl
theorem good_is (hl : bs.length = 32) (hB : Bytes bs) : decide (rawE (readE bs) = bs) = goodE bs := by
  have hne : ([] : List Int) ≠ bs := fun e => by rw [← e] at hl; cases hl
  unfold rawE goodE
  cases hc : checkE (readE bs) with
  | false => rw [if_neg (by decide), decide_eq_false hne, Bool.false_and]
  | true =>
    rw [if_pos rfl, Bool.true_and, Bool.eq_iff_iff]
    simp only [Bool.and_eq_true, decide_eq_true_eq]
    have e1 : bytesE (readE bs) = byteAt bs 0 % 256 :: byteAt bs 1 % 256 :: 0 :: 0 :: ((List.range 24).map (fun i => byteAt bs (4 + i)) ++ [0, 0, 0, 0]) := by
      unfold bytesE readE
      simp only [le4_get hB]
      rfl
    have e2 : bs = byteAt bs 0 :: byteAt bs 1 :: byteAt bs 2 :: byteAt bs 3 :: ((List.range 24).map (fun i => byteAt bs (4 + i)) ++ [byteAt bs 28, byteAt bs 29, byteAt bs 30, byteAt bs 31]) := bytes_all hl
    have h0 := byteAt_is hB 0
    have h1 := byteAt_is hB 1
    constructor
    · intro h
      rw [e1] at h
      have h := h.trans e2
      simp only [List.cons.injEq, List.append_cancel_left_eq] at h
      obtain ⟨_, _, g2, g3, g4, g5, g6, g7, _⟩ := h
      exact ⟨g2.symm, g3.symm, g4.symm, g5.symm, g6.symm, g7.symm⟩
    · rintro ⟨g2, g3, g4, g5, g6, g7⟩
      rw [e1]
      conv => rhs; rw [e2, g2, g3, g4, g5, g6, g7]
      rw [show byteAt bs 0 % 256 = byteAt bs 0 by omega, show byteAt bs 1 % 256 = byteAt bs 1 by omega]
def entE (bs : List Int) : Sqe := if goodE bs then readE bs else ⟨0, 0, 0, 0, 0, 0, 0, 0⟩
def deadE (e : Sqe) (now : Int) : Option Int := if bits .and .i64 e.flags 8 ≠ 0 then some e.time else if e.time ≠ 0 then some (IntKind.u64.wrap (now + e.time)) else none
theorem partE_len (e : Sqe) : ∀ i, i ≤ 6 → (partE e i).length = 32
  | 0, _ => rfl
  | i + 1, h => by rw [partE, putB_len (by rw [partE_len e i (by omega)]; simp [le4]; omega), partE_len e i (by omega)]
theorem rawE_len (e : Sqe) : (rawE e).length ≤ 32 := by
  unfold rawE; split
  · exact Nat.le_of_eq (partE_len e 6 (by omega))
  · simp
theorem partE_bytes (e : Sqe) : ∀ i, Bytes (partE e i)
  | 0 => fun x hx => by
    rcases List.mem_cons.1 hx with rfl | hx
    · omega
    · rcases List.mem_cons.1 hx with rfl | hx
      · omega
      · rw [(List.mem_replicate.1 hx).2]; omega
  | i + 1 => putB_bytes (partE_bytes e i) (le4_bytes _)
variable {e : Sqe}
theorem checkEC :
    Con Tryz.prog 265 #[.agg #[.int .i64 e.op, .int .i64 e.flags, .int .u32 e.tag, .int .u32 e.cap, .int .u32 e.a, .int .u32 e.b, .int .u32 e.c, .int .u32 e.time]] E l (fun _ : Unit => .bool (checkE e)) (fun _ => l) := by
  refine Con.body (n := 27) Tryz.func265 Z Z _ (env_ok 1 Z) <| sr <| L_op <| x_box Z Z Z fun b1 => ag Z Z <| nx <| fa Z Z fa34_0 <| L_val Z (v_load Z ty3 HS (by exact rfl)) <| L_pur Z (p_geq Z Z) <| mv Z Z <| J_gsplit (t := 6) Z (fun h6 => ?_) (fun h6 => ?_)
  refine gp Z Z Z (p_fieldAddr Z fa34_0) Z <| L_op <| G_on Z Z Z <| J_val (v_load Z ty3 HS (by exact rfl)) Z Z Z <| gp Z Z Z (p_leq Z Z) Z <| L_pur Z (p_pick_t Z Z) <| mv Z Z <| J_gsplit (t := 11) Z (fun h11 => ?_) (fun h11 => ?_)
  refine gp Z Z Z (p_fieldAddr Z fa34_1) Z <| L_op <| G_on Z Z Z <| J_val (v_load Z ty3 HS (by exact rfl)) Z Z Z <| gp Z Z Z (p_geq Z Z) Z <| L_pur Z (p_pick_t Z Z) <| mv Z Z <| J_gsplit (t := 16) Z (fun h16 => ?_) (fun h16 => ?_)
  refine gp Z Z Z (p_fieldAddr Z fa34_1) Z <| L_op <| G_on Z Z Z <| J_val (v_load Z ty3 HS (by exact rfl)) Z Z Z <| gp Z Z Z (p_leq Z Z) Z <| L_pur Z (p_pick_t Z Z) <| mv Z Z <| J_gsplit (t := 21) Z (fun h21 => ?_) (fun h21 => ?_)
  refine gp Z Z Z (p_fieldAddr Z fa34_1) Z <| L_op <| G_on Z Z Z <| J_val (v_load Z ty3 HS (by exact rfl)) Z Z Z <| gp Z Z Z (p_and Z Z) Z <| gp Z Z Z (p_neq Z Z) Z <| L_pur Z (p_pick_t Z Z) <| ag Z Z <| nq <| J_ret <| J_return (()) Tryz.results265 (.tmp Z .nil) ?_ ?_
  · first | rfl | (simp_all [one, checkE]; done) | (simp_all [one, checkE] <;> omega)
  · exact SU
  refine gz Z Z Z Z Z <| gz Z Z Z Z Z <| gz Z Z Z Z Z <| gz Z Z Z Z Z <| L_pur Z (p_pick_f Z Z) <| ag Z Z <| nq <| J_ret <| J_return (()) Tryz.results265 (.tmp Z .nil) ?_ ?_
  · first | rfl | (simp_all [one, checkE]; done) | (simp_all [one, checkE] <;> omega)
  · exact SU
  refine gz Z Z Z Z Z <| gz Z Z Z Z Z <| gz Z Z Z Z Z <| L_pur Z (p_pick_f Z Z) <| mv Z Z <| gz Z Z Z Z Z <| gz Z Z Z Z Z <| gz Z Z Z Z Z <| gz Z Z Z Z Z <| L_pur Z (p_pick_f Z Z) <| ag Z Z <| nq <| J_ret <| J_return (()) Tryz.results265 (.tmp Z .nil) ?_ ?_
  · first | rfl | (simp_all [one, checkE]; done) | (simp_all [one, checkE] <;> omega)
  · exact SU
  refine gz Z Z Z Z Z <| gz Z Z Z Z Z <| gz Z Z Z Z Z <| L_pur Z (p_pick_f Z Z) <| mv Z Z <| gz Z Z Z Z Z <| gz Z Z Z Z Z <| gz Z Z Z Z Z <| L_pur Z (p_pick_f Z Z) <| mv Z Z <| gz Z Z Z Z Z <| gz Z Z Z Z Z <| gz Z Z Z Z Z <| gz Z Z Z Z Z <| L_pur Z (p_pick_f Z Z) <| ag Z Z <| nq <| J_ret <| J_return (()) Tryz.results265 (.tmp Z .nil) ?_ ?_
  · first | rfl | (simp_all [one, checkE]; done) | (simp_all [one, checkE] <;> omega)
  · exact SU
  refine gz Z Z Z Z Z <| gz Z Z Z Z Z <| gz Z Z Z Z Z <| L_pur Z (p_pick_f Z Z) <| mv Z Z <| gz Z Z Z Z Z <| gz Z Z Z Z Z <| gz Z Z Z Z Z <| L_pur Z (p_pick_f Z Z) <| mv Z Z <| gz Z Z Z Z Z <| gz Z Z Z Z Z <| gz Z Z Z Z Z <| L_pur Z (p_pick_f Z Z) <| mv Z Z <| gz Z Z Z Z Z <| gz Z Z Z Z Z <| gz Z Z Z Z Z <| gz Z Z Z Z Z <| L_pur Z (p_pick_f Z Z) <| ag Z Z <| nq <| J_ret <| J_return (()) Tryz.results265 (.tmp Z .nil) ?_ ?_
  · first | rfl | (simp_all [one, checkE]; done) | (simp_all [one, checkE] <;> omega)
  · exact SU
theorem arr_at (e : Sqe) {i : Nat} (hi : i < 6) (w : World) : (part 404 #[.int .i64 4, .int .u32 e.tag, .int .i64 8, .int .u32 e.cap, .int .i64 12, .int .u32 e.a, .int .i64 16, .int .u32 e.b, .int .i64 20, .int .u32 e.c, .int .i64 24, .int .u32 e.time] (i * 2)).run Tryz.prog w = .ok (.agg #[.int .i64 ((4 + 4 * i : Nat) : Int), .int .u32 (wordE e i)]) w := by
  have : i = 0 ∨ i = 1 ∨ i = 2 ∨ i = 3 ∨ i = 4 ∨ i = 5 := by omega
  rcases this with rfl | rfl | rfl | rfl | rfl | rfl <;> simp [part, ty404.isAgg, ty404.sizeOf, wordE]
theorem bytesEC :
  Con Tryz.prog 197 #[.agg #[.int .i64 e.op, .int .i64 e.flags, .int .u32 e.tag, .int .u32 e.cap, .int .u32 e.a, .int .u32 e.b, .int .u32 e.c, .int .u32 e.time]] E l (fun v : Value => v) (fun v => row 5 1 v ((rawE e).map encU) :: l) := by
 refine Con.body (n := 50) Tryz.func197 Z Z _ (env_ok 1 Z) <| sr <| L_op <| x_box Z Z Z fun b1 => ag Z Z <| nxx <| L_val Z (v_loadA Z ty34 HS CT) <| xo fc265 (A1 Z) Z (checkEC (e := e)) fun _ => L_pur Z (p_not Z) <| nq <| C_split Z (fun h8 => ?_) (fun h8 => ?_)
 have hck : rawE e = [] := by unfold rawE; rw [if_neg (by simpa using h8)]
 refine J_nil (el := 5) (sz := 1) <| J_rowEq (ys := (rawE e).map encU) (by rw [hck]; rfl) <| sr <| ag Z Z <| nq <| J_ret <| Q_then_ret ?_
 exact J_return (_) Tryz.results197 (.tmp Z .nil) Z SU
 have hc1 : checkE e = true := by simpa using h8
 have hck : rawE e = bytesE e := if_pos hc1
 refine J_skip <| qx <| L_op <| x_make (len := 32) Z Z Tryz.underlying73 ty5 Z Z (by simp) (by simp) Z Z <| JE ((List.replicate 32 (0 : Int)).map encU) (by rfl) fun a9 c9 hw9 hl9 hm9 hz9 => ?_
 obtain ⟨bq, oq, rfl⟩ := hz9 (by simp)
 refine ag Z Z <| nq <| J_cut (α := Value) (fun v : Value => row 5 1 v ((partE e 0).map encU) :: blk b1 34 [.int .i64 e.op, .int .i64 e.flags, .int .u32 e.tag, .int .u32 e.cap, .int .u32 e.a, .int .u32 e.b, .int .u32 e.c, .int .u32 e.time] :: l) (fun v : Value => [(3, v), (1, .pointer (some ⟨b1, 0, none⟩))]) ?_ ?_
 refine J_drawI none [blk b1 34 [.int .i64 e.op, .int .i64 e.flags, .int .u32 e.tag, .int .u32 e.cap, .int .u32 e.a, .int .u32 e.b, .int .u32 e.c, .int .u32 e.time]] mixed <| ip 0 Z Z Z Z (p_move Z) <| ip 1 Z Z Z Z (p_move Z) <| ip 2 Z Z Z Z (p_fieldAddr Z fa34_0) <| iv 3 Z Z Z Z (fun _ => v_load Z ty3 HS (by exact rfl)) <| ip 4 Z Z Z Z (p_conv Z Tryz.underlying3 Tryz.underlying5) <| ip 5 Z Z Z Z (p_fieldAddr Z fa34_1) <| iv 6 Z Z Z Z (fun _ => v_load Z ty3 HS (by exact rfl)) <| ip 7 Z Z Z Z (p_conv Z Tryz.underlying3 Tryz.underlying5) <| ip 8 Z Z Z Z (p_indexAddr Z Z Tryz.underlying73 ty5 (by omega) (by simp)) <| i1 9 Z <| x_storeE Z Z ty5 Z SM SM PC (by simp) <| ip 10 Z Z Z Z (p_indexAddr Z Z Tryz.underlying73 ty5 (by omega) (by simp)) <| i1 11 Z <| x_storeE Z Z ty5 Z SM SM PC (by simp) <| i0 <| Q_then <| J_pick (A := row 5 1 _ _) PC ?_
 refine J_rowEq (ys := (partE e 0).map encU) (by simp only [wrap_u8]; rfl) ?_
 exact J_at _ SU KE
 intro v
 refine J_seq <| sr <| fa Z Z fa34_2 <| L_val Z (v_load Z ty22 HS (by exact rfl)) <| L_pur Z (bld404 (.cons Z (.cons Z .nil)) (by repeat constructor)) <| fa Z Z fa34_3 <| L_val Z (v_load Z ty22 HS (by exact rfl)) <| L_pur Z (bld404 (.cons Z (.cons Z .nil)) (by repeat constructor)) <| fa Z Z fa34_4 <| L_val Z (v_load Z ty22 HS (by exact rfl)) <| L_pur Z (bld404 (.cons Z (.cons Z .nil)) (by repeat constructor)) <| fa Z Z fa34_5 <| L_val Z (v_load Z ty22 HS (by exact rfl)) <| L_pur Z (bld404 (.cons Z (.cons Z .nil)) (by repeat constructor)) <| fa Z Z fa34_6 <| L_val Z (v_load Z ty22 HS (by exact rfl)) <| L_pur Z (bld404 (.cons Z (.cons Z .nil)) (by repeat constructor)) <| fa Z Z fa34_7 <| L_val Z (v_load Z ty22 HS (by exact rfl)) ?_
 refine L_pur Z (bld404 (.cons Z (.cons Z .nil)) (by repeat constructor)) <| L_pur Z (p_buildA ty405 Tryz.underlying405 ty404 (.cons Z (.cons Z (.cons Z (.cons Z (.cons Z (.cons Z .nil)))))) (cs := #[.int .i64 4, .int .u32 e.tag, .int .i64 8, .int .u32 e.cap, .int .i64 12, .int .u32 e.a, .int .i64 16, .int .u32 e.b, .int .i64 20, .int .u32 e.c, .int .i64 24, .int .u32 e.time]) (by kernel_rfl)) <| mv Z Z <| nq <| J_block <| J_loop2 (fun k v => k ≤ 6) (fun k v => row 5 1 v ((partE e k).map encU) :: blk b1 34 [.int .i64 e.op, .int .i64 e.flags, .int .u32 e.tag, .int .u32 e.cap, .int .u32 e.a, .int .u32 e.b, .int .u32 e.c, .int .u32 e.time] :: l) (fun k v => [(39, .int .i64 (k : Int)), (3, v), (38, .agg #[.int .i64 4, .int .u32 e.tag, .int .i64 8, .int .u32 e.cap, .int .i64 12, .int .u32 e.a, .int .i64 16, .int .u32 e.b, .int .i64 20, .int .u32 e.c, .int .i64 24, .int .u32 e.time]), (1, .pointer (some ⟨b1, 0, none⟩))]) (fun k v => 6 - k) 0 v (by omega) SU KE ?_
 intro k v hk
 refine sr <| L_pur Z (p_lss Z Z) <| nq <| J_seq <| C_dec Z (fun h40 => ?_) (fun h40 => ?_)
 have hpl := partE_len e k (by omega)
 refine J_skip <| Q_then <| J_seq <| J_block <| sr <| L_pur Z (p_index Z Z Tryz.underlying405 ty404 (by omega) (arr_at e (by omega))) <| L_op <| x_alloc ty404 Z fun b5 => L_op <| x_store Z Z ty404 Z SM SM RO PT <| ny <| mv Z Z <| fa Z Z fa404_0 <| L_val Z (v_load Z ty3 HS (by exact rfl)) <| fa Z Z fa404_1 <| L_val Z (v_load Z ty22 HS (by exact rfl)) <| xo fc264 (A3 Z Z Z) Z (put32C (a := 4 + 4 * k) (bs := partE e k) (fun w H => sep_reads (xs := (partE e k).map encU) HS H) (by omega) (by omega)) <| JE ((partE e (k + 1)).map encU) (by rfl) fun a47 c47 hw47 hl47 hm47 hz47 => ag Z Z <| L_nil <| Q_blk_normal <| qr <| L_pur Z (p_add64 Z Z (by omega)) <| mv Z Z <| nq ?_
 exact J_again2 (k + 1) _ (by omega) (by omega) SU KE
 have hk6 : k = 6 := by omega
 subst hk6
 refine J_pick (A := row 5 1 _ _) PC <| J_rowEq (ys := (rawE e).map encU) (by rw [hck]; rfl) <| J_exit <| Q_then_exit <| Q_then_exit <| Q_blk_this <| qx <| mv Z Z <| ag Z Z <| nq <| J_ret ?_
 exact J_return (_) Tryz.results197 (.tmp Z .nil) Z SU
theorem equalC {u : Value} {xs : List Int} (hr : ∀ w, Sep E w l → Reads w 1 v (xs.map encU)) (hs : ∀ w, Sep E w l → Reads w 1 u (ys.map encU)) (hb : xs.length ≤ 1000000) (hb2 : ys.length ≤ 1000000) :
    Con Tryz.prog 196 #[v, u] E l (fun _ : Unit => .bool (decide (xs = ys))) (fun _ => l) := by
  refine Con.body (n := 26) Tryz.func196 Z Z _ (env_ok 2 Z) <| J_readsB hr fun hw a cap hv h1 h2 h3 => ?_
  subst hv
  refine J_readsB hs fun hw' a' cap' hv h1' h2' h3' => ?_
  subst hv
  have hm : cap ≤ 9223372036854775807 := h2
  have hm' : cap' ≤ 9223372036854775807 := h2'
  have hml : (xs.map encU).length = xs.length := List.length_map _
  have hml' : (ys.map encU).length = ys.length := List.length_map _
  refine sr <| ag Z Z <| nxx <| mv Z Z <| L_pur Z (p_len Z Tryz.underlying73) <| mv Z Z <| L_pur Z (p_len Z Tryz.underlying73) <| L_pur Z (p_neq Z Z) <| nq <| C_dec Z (fun h10 => ?_) (fun h10 => ?_)
  have hne : ¬ xs = ys := fun e => by subst e; exact absurd h10 (by simp)
  refine sr <| ag Z Z <| nq <| J_ret <| Q_then_ret <| J_return (()) Tryz.results196 (.tmp Z .nil) ?_ ?_
  · rw [decide_eq_false hne]; rfl
  · exact SU
  have hle : xs.length = ys.length := by simp at h10; omega
  refine J_skip <| Q_then <| J_seq <| sr <| mv Z Z <| L_pur Z (p_len Z Tryz.underlying73) <| mv Z Z <| nq <| J_block <| J_loop (α := Nat) (fun k => k ≤ xs.length ∧ xs.take k = ys.take k) (fun _ => l) (fun k => [(13, .int .i64 (k : Int)), (12, .int .i64 (xs.map encU).length), (0, .slice a (xs.map encU).length cap), (1, .slice a' (ys.map encU).length cap')]) (fun k => xs.length - k) 0 ⟨by omega, rfl⟩ SU KE ?_
  intro k ⟨hk, hq⟩
  refine sr <| L_pur Z (p_lss Z Z) <| nq <| J_seq <| C_dec Z (fun h14 => ?_) (fun h14 => ?_)
  have hlt : k < xs.length := by omega
  obtain ⟨bx, ox, rfl⟩ := h3 (by intro h; rw [h] at hml; simp at hml; omega)
  obtain ⟨by', oy, rfl⟩ := h3' (by intro h; rw [h] at hml'; simp at hml'; omega)
  obtain ⟨c, hcc⟩ : ∃ c, xs[k]? = some c := ⟨_, List.getElem?_eq_getElem hlt⟩
  obtain ⟨d, hcd⟩ : ∃ d, ys[k]? = some d := ⟨_, List.getElem?_eq_getElem (by omega)⟩
  refine J_skip <| Q_then <| J_seq <| J_block <| sr <| mv Z Z <| ag Z Z <| nq <| J_seq <| J_drawS mixed (by kernel_rfl) <| sm Z Z <| sm Z Z <| sp Z (p_indexAddr Z Z Tryz.underlying73 ty5 (by omega) (by omega)) <| S_val Z (v_loadR1 Z ty5 (fun w H => hr w (Sub.sep SU H)) (by simp only [Int.toNat_natCast, List.getElem?_map, hcc]; rfl)) ?_
  refine sm Z Z <| sm Z Z <| sp Z (p_indexAddr Z Z Tryz.underlying73 ty5 (by omega) (by omega)) <| S_val Z (v_loadR1 Z ty5 (fun w H => hs w (Sub.sep SU H)) (by simp only [Int.toNat_natCast, List.getElem?_map, hcd]; rfl)) ?_
  refine sp Z (p_neq Z Z) <| sq <| C_dec Z (fun h24 => ?_) (fun h24 => ?_)
  have hne : ¬ xs = ys := fun e => by subst e; rw [hcc] at hcd; cases hcd; exact absurd h24 (by simp)
  refine sr <| ag Z Z <| nq <| J_ret <| Q_blk_ret <| Q_then_ret <| Q_then_ret <| Q_blk_ret <| Q_then_ret <| J_return (()) Tryz.results196 (.tmp Z .nil) ?_ ?_
  · rw [decide_eq_false hne]; rfl
  · exact SU
  refine J_skip <| Q_blk_normal <| qr <| L_pur Z (p_add64 Z Z (by omega)) <| mv Z Z <| nq ?_
  exact J_again (k + 1) (by omega) (⟨by omega, by rw [List.take_add_one, List.take_add_one, hcc, hcd, hq, show c = d from by simpa using h24]⟩) SU KE
  have hke : k = xs.length := by omega
  subst hke
  have heq : xs = ys := by rw [List.take_length] at hq; rw [hq, hle, List.take_length]
  refine J_exit <| Q_then_exit <| Q_then_exit <| Q_blk_this <| qx <| ag Z Z <| nq <| J_ret <| J_return (()) Tryz.results196 (.tmp Z .nil) ?_ ?_
  · rw [decide_eq_true heq]; rfl
  · exact SU
theorem deadEC {now : Int} (ht : 0 ≤ e.time ∧ e.time < 4294967296) :
    Con Tryz.prog 140 #[.agg #[.int .i64 e.op, .int .i64 e.flags, .int .u32 e.tag, .int .u32 e.cap, .int .u32 e.a, .int .u32 e.b, .int .u32 e.c, .int .u32 e.time], .int .u64 now] E l (fun _ : Unit => .tuple #[.int .u64 ((deadE e now).getD 0), .bool (deadE e now).isSome]) (fun _ => l) := by
  refine Con.body (n := 23) Tryz.func140 Z Z _ (env_ok 2 Z) <| sr <| L_op <| x_box Z Z Z fun b2 => ag Z Z <| ag Z Z <| nq <| J_seq <| J_block <| sr <| fa Z Z fa34_1 <| L_val Z (v_load Z ty3 HS (by exact rfl)) <| L_pur Z (p_and Z Z) <| L_pur Z (p_neq Z Z) <| ag Z Z <| nq <| C_dec Z (fun h6 => ?_) (fun h6 => ?_)
  refine sr <| fa Z Z fa34_7 <| L_val Z (v_load Z ty22 HS (by exact rfl)) <| L_pur Z (p_conv Z Tryz.underlying22 Tryz.underlying102) <| ag Z Z <| ag Z Z <| nq <| J_ret <| Q_blk_ret <| Q_then_ret <| J_return (()) Tryz.results140 (.tmp Z (.tmp Z .nil)) ?_ ?_
  · rw [show deadE e now = some e.time from if_pos h6]; simp [one, wrap64u_of (a := e.time) ⟨by omega, by omega⟩]
  · exact SU
  refine sr <| fa Z Z fa34_7 <| L_val Z (v_load Z ty22 HS (by exact rfl)) <| L_pur Z (p_neq Z Z) <| ag Z Z <| nq <| C_dec Z (fun h14 => ?_) (fun h14 => ?_)
  refine sr <| mv Z Z <| fa Z Z fa34_7 <| L_val Z (v_load Z ty22 HS (by exact rfl)) <| L_pur Z (p_conv Z Tryz.underlying22 Tryz.underlying102) <| L_pur Z (p_add Z Z) <| ag Z Z <| ag Z Z <| nq <| J_ret <| Q_blk_ret <| Q_then_ret <| J_return (()) Tryz.results140 (.tmp Z (.tmp Z .nil)) ?_ ?_
  · rw [show deadE e now = some (IntKind.u64.wrap (now + e.time)) from by unfold deadE; rw [if_neg h6, if_pos h14]]; simp [one, wrap64u_of (a := e.time) ⟨by omega, by omega⟩]
  · exact SU
  refine J_skip <| Q_blk_normal <| qx <| ag Z Z <| ag Z Z <| nq <| J_ret <| J_return (()) Tryz.results140 (.tmp Z (.tmp Z .nil)) ?_ ?_
  · rw [show deadE e now = none from by unfold deadE; rw [if_neg h6, if_neg h14]]; rfl
  · exact SU
theorem readEC (hr : ∀ w, Sep E w l → Reads w 1 v (bs.map encU)) (hl : bs.length = 32) (hB : Bytes bs) :
    Con Tryz.prog 137 #[v] E l (fun _ : Unit => .tuple #[.agg #[.int .i64 (entE bs).op, .int .i64 (entE bs).flags, .int .u32 (entE bs).tag, .int .u32 (entE bs).cap, .int .u32 (entE bs).a, .int .u32 (entE bs).b, .int .u32 (entE bs).c, .int .u32 (entE bs).time], .bool (goodE bs)]) (fun _ => l) := by
  refine Con.body (n := 37) Tryz.func137 Z Z _ (env_ok 1 Z) <| J_readsB hr fun hw a cap hv hv1 hv2 hv3 => ?_
  subst hv
  have hml : (bs.map encU).length = bs.length := List.length_map _
  obtain ⟨bx, ox, rfl⟩ := hv3 (by intro h; rw [h] at hml; simp at hml; omega)
  obtain ⟨c0_, h0⟩ : ∃ c, bs[0]? = some c := ⟨_, List.getElem?_eq_getElem (by omega)⟩
  obtain ⟨c1_, h1⟩ : ∃ c, bs[1]? = some c := ⟨_, List.getElem?_eq_getElem (by omega)⟩
  have hcap : cap ≤ 9223372036854775807 := hv2
  have hb0 : IntKind.i64.wrap c0_ = (readE bs).op := by rw [wrap64_of (by have := hB c0_ (List.mem_of_getElem? h0); omega)]; show _ = byteAt bs 0; unfold byteAt; rw [h0]; rfl
  have hb1 : IntKind.i64.wrap c1_ = (readE bs).flags := by rw [wrap64_of (by have := hB c1_ (List.mem_of_getElem? h1); omega)]; show _ = byteAt bs 1; unfold byteAt; rw [h1]; rfl
  refine sr <| L_op <| x_alloc ty34 Z fun b2 => ag Z Z <| nxx <| mv Z Z <| L_pur Z (p_len Z Tryz.underlying73) <| L_pur Z (p_neq Z Z) <| nq <| J_bool (t := 7) (c := false) Z (by simp; omega) <| C_false Z <| J_skip <| Q_then <| J_seq <| J_drawP .nil ?_
  refine' Pa.det [] rfl rfl rfl rfl (by kernel_rfl) (by decide) ?_ ?_ ?_
  rotate_left
  intro γ Rr X K k
  refine J_pur (p_move Z) Z Z Z ?_
  exact k
  · exact fun _ _ _ => rfl
  refine' Pa.det [] rfl rfl rfl rfl (by kernel_rfl) (by decide) ?_ ?_ ?_
  rotate_left
  intro γ Rr X K k
  refine J_pur (p_indexAddr Z Z Tryz.underlying73 ty5 (by omega) (by simp; omega)) Z Z Z ?_
  exact k
  · exact fun _ _ _ => rfl
  refine' Pa.det [] rfl rfl rfl rfl (by kernel_rfl) (by decide) ?_ ?_ ?_
  rotate_left
  intro γ Rr X K k
  refine J_val (v_loadR1 Z ty5 (fun w H => hr w (Sub.sep SU H)) (by show (bs.map encU)[0]? = _; rw [List.getElem?_map, h0]; rfl)) Z Z Z ?_
  exact k
  · exact fun _ _ _ => rfl
  refine' Pa.det [] rfl rfl rfl rfl (by kernel_rfl) (by decide) ?_ ?_ ?_
  rotate_left
  intro γ Rr X K k
  refine J_pur (p_conv Z Tryz.underlying5 Tryz.underlying3) Z Z Z ?_
  exact k
  · exact fun _ _ _ => rfl
  refine' Pa.det [] rfl rfl rfl rfl (by kernel_rfl) (by decide) ?_ ?_ ?_
  rotate_left
  intro γ Rr X K k
  refine J_pur (p_move Z) Z Z Z ?_
  exact k
  · exact fun _ _ _ => rfl
  refine' Pa.det [] rfl rfl rfl rfl (by kernel_rfl) (by decide) ?_ ?_ ?_
  rotate_left
  intro γ Rr X K k
  refine J_pur (p_indexAddr Z Z Tryz.underlying73 ty5 (by omega) (by simp; omega)) Z Z Z ?_
  exact k
  · exact fun _ _ _ => rfl
  refine' Pa.det [] rfl rfl rfl rfl (by kernel_rfl) (by decide) ?_ ?_ ?_
  rotate_left
  intro γ Rr X K k
  refine J_val (v_loadR1 Z ty5 (fun w H => hr w (Sub.sep SU H)) (by show (bs.map encU)[1]? = _; rw [List.getElem?_map, h1]; rfl)) Z Z Z ?_
  exact k
  · exact fun _ _ _ => rfl
  refine' Pa.det [] rfl rfl rfl rfl (by kernel_rfl) (by decide) ?_ ?_ ?_
  rotate_left
  intro γ Rr X K k
  refine J_pur (p_conv Z Tryz.underlying5 Tryz.underlying3) Z Z Z ?_
  exact k
  · exact fun _ _ _ => rfl
  refine' Pa.det [] rfl rfl rfl rfl (by kernel_rfl) (by decide) ?_ ?_ ?_
  rotate_left
  intro γ Rr X K k
  refine J_pur (p_move Z) Z Z Z ?_
  exact k
  · exact fun _ _ _ => rfl
  refine' Pa.det [] rfl rfl rfl rfl (by kernel_rfl) (by decide) ?_ ?_ ?_
  rotate_left
  intro γ Rr X K k
  refine xc fc139 (A2 Z Z) Z (u32C (a := 4) (bs := bs) (fun w H => hr w (Sub.sep SU H)) (by omega) (by omega) hB) fun _ => ?_
  exact k
  · exact fun _ _ _ => rfl
  refine' Pa.det [] rfl rfl rfl rfl (by kernel_rfl) (by decide) ?_ ?_ ?_
  rotate_left
  intro γ Rr X K k
  refine J_pur (p_move Z) Z Z Z ?_
  exact k
  · exact fun _ _ _ => rfl
  refine' Pa.det [] rfl rfl rfl rfl (by kernel_rfl) (by decide) ?_ ?_ ?_
  rotate_left
  intro γ Rr X K k
  refine xc fc139 (A2 Z Z) Z (u32C (a := 8) (bs := bs) (fun w H => hr w (Sub.sep SU H)) (by omega) (by omega) hB) fun _ => ?_
  exact k
  · exact fun _ _ _ => rfl
  refine' Pa.det [] rfl rfl rfl rfl (by kernel_rfl) (by decide) ?_ ?_ ?_
  rotate_left
  intro γ Rr X K k
  refine J_pur (p_move Z) Z Z Z ?_
  exact k
  · exact fun _ _ _ => rfl
  refine' Pa.det [] rfl rfl rfl rfl (by kernel_rfl) (by decide) ?_ ?_ ?_
  rotate_left
  intro γ Rr X K k
  refine xc fc139 (A2 Z Z) Z (u32C (a := 12) (bs := bs) (fun w H => hr w (Sub.sep SU H)) (by omega) (by omega) hB) fun _ => ?_
  exact k
  · exact fun _ _ _ => rfl
  refine' Pa.det [] rfl rfl rfl rfl (by kernel_rfl) (by decide) ?_ ?_ ?_
  rotate_left
  intro γ Rr X K k
  refine J_pur (p_move Z) Z Z Z ?_
  exact k
  · exact fun _ _ _ => rfl
  refine' Pa.det [] rfl rfl rfl rfl (by kernel_rfl) (by decide) ?_ ?_ ?_
  rotate_left
  intro γ Rr X K k
  refine xc fc139 (A2 Z Z) Z (u32C (a := 16) (bs := bs) (fun w H => hr w (Sub.sep SU H)) (by omega) (by omega) hB) fun _ => ?_
  exact k
  · exact fun _ _ _ => rfl
  refine' Pa.det [] rfl rfl rfl rfl (by kernel_rfl) (by decide) ?_ ?_ ?_
  rotate_left
  intro γ Rr X K k
  refine J_pur (p_move Z) Z Z Z ?_
  exact k
  · exact fun _ _ _ => rfl
  refine' Pa.det [] rfl rfl rfl rfl (by kernel_rfl) (by decide) ?_ ?_ ?_
  rotate_left
  intro γ Rr X K k
  refine xc fc139 (A2 Z Z) Z (u32C (a := 20) (bs := bs) (fun w H => hr w (Sub.sep SU H)) (by omega) (by omega) hB) fun _ => ?_
  exact k
  · exact fun _ _ _ => rfl
  refine' Pa.det [] rfl rfl rfl rfl (by kernel_rfl) (by decide) ?_ ?_ ?_
  rotate_left
  intro γ Rr X K k
  refine J_pur (p_move Z) Z Z Z ?_
  exact k
  · exact fun _ _ _ => rfl
  refine' Pa.det [] rfl rfl rfl rfl (by kernel_rfl) (by decide) ?_ ?_ ?_
  rotate_left
  intro γ Rr X K k
  refine xc fc139 (A2 Z Z) Z (u32C (a := 24) (bs := bs) (fun w H => hr w (Sub.sep SU H)) (by omega) (by omega) hB) fun _ => ?_
  exact k
  · exact fun _ _ _ => rfl
  refine' Pa.det [] rfl rfl rfl rfl (by kernel_rfl) (by decide) ?_ ?_ ?_
  rotate_left
  intro γ Rr X K k
  refine J_pur (bld34 (.cons Z (.cons Z (.cons Z (.cons Z (.cons Z (.cons Z (.cons Z (.cons Z .nil)))))))) (by repeat constructor)) Z Z Z ?_
  exact k
  · exact fun _ _ _ => rfl
  refine' Pa.nat [] rfl rfl rfl rfl (by kernel_rfl) (by decide) ?_ ?_ ?_
  rotate_left 2
  intro γ Rr X K k
  refine x_alloc ty34 Z fun b4 => ?_
  exact k b4
  · exact fun _ _ _ => ⟨rfl, rfl⟩
  refine Pa.fin 23 1 Z Z mixed Z (by kernel_rfl) SU (fun _ _ _ _ _ h => h) fun γ => ?_
  generalize (γ 4).1 = b4
  refine A_one (i := 22) (by kernel_rfl) Z <| x_store Z Z ty34 Z SM SM RO PT <| A_done (by kernel_rfl) <| Q_then <| J_seq <| J_seq <| J_pick (A := blk b4 _ _) PC <| J_asTo (B := blk b4 34 [.int .i64 (readE bs).op, .int .i64 (readE bs).flags, .int .u32 (readE bs).tag, .int .u32 (readE bs).cap, .int .u32 (readE bs).a, .int .u32 (readE bs).b, .int .u32 (readE bs).c, .int .u32 (readE bs).time]) (by rw [hb0, hb1]; rfl) <| J_region <| L_val Z (v_loadA Z ty34 HS CT) <| xo fc197 (A1 Z) Z (bytesEC (e := readE bs)) <| JR fun a31 c31 hw31 hl31 hm31 hz31 => mv Z Z <| xo fc196 (A2 Z Z) Z (equalC (xs := rawE (readE bs)) (ys := bs) (fun w H => sep_reads (xs := (rawE (readE bs)).map encU) HS H) (fun w H => hr w (Sub.sep SU H)) (by have := rawE_len (readE bs); omega) (by omega)) fun _ => L_pur Z (p_not Z) <| nq <| C_split Z (fun h34 => ?_) (fun h34 => ?_)
  have hg : goodE bs = false := by rw [← good_is hl hB]; simpa using h34
  have he : entE bs = ⟨0, 0, 0, 0, 0, 0, 0, 0⟩ := by unfold entE; rw [hg]; rfl
  refine sr <| L_pur Z (bld34 .nil (by repeat constructor)) <| L_op <| x_store Z Z ty34 Z SM SM RO PT <| ag Z Z <| nq <| J_ret <| Q_then_ret <| J_return (()) Tryz.results137 (.cellA Z ty34 HS CT (.tmp Z .nil)) ?_ ?_
  · rw [he, hg]; rfl
  · exact SU
  have hg : goodE bs = true := by rw [← good_is hl hB]; simpa using h34
  have he : entE bs = readE bs := if_pos hg
  refine J_skip <| qx <| L_val Z (v_loadA Z ty34 HS CT) <| L_op <| x_store Z Z ty34 Z SM SM RO PT <| ag Z Z <| nq <| J_ret <| J_return (()) Tryz.results137 (.cellA Z ty34 HS CT (.tmp Z .nil)) ?_ ?_
  · rw [he, hg]; rfl
  · exact SU
/-! ### plain: rings, entered -/
def rgNear (r : Rg) (ms : List (List Int)) : Int := IntKind.u32.wrap (getN (rowAt ms r.sq) 4 4 - r.head)
def rgWaitOk (r : Rg) (ms : List (List Int)) : Bool := !decide (rgNear r ms > 2 ^ r.sb.toNat)
def rgWait (r : Rg) (ms : List (List Int)) : Int := if rgWaitOk r ms then rgNear r ms else 0
def rgRoomOk (r : Rg) (ms : List (List Int)) : Bool := !decide (rgFar r ms > 2 ^ r.cb.toNat)
def rgValid (r : Rg) (ms : List (List Int)) : Bool := rgWaitOk r ms && rgRoomOk r ms
def fetchB (r : Rg) (ms : List (List Int)) (i : Nat) : List Int := ((rowAt ms r.sq).drop (16 + IntKind.u32.wrap (r.head + IntKind.u32.wrap (i : Int)) % 2 ^ r.sb.toNat * 32).toNat).take 32
def advR (r : Rg) (n : Int) : Rg := { r with head := IntKind.u32.wrap (r.head + IntKind.u32.wrap n) }
def advM (r : Rg) (ms : List (List Int)) (n : Int) : List (List Int) := ms.set (r.sq - 1).toNat (putB (rowAt ms r.sq) 0 (le4 (advR r n).head))
def flushX (r : Rg) (ms : List (List Int)) : List Cqe → Rg × List (List Int)
  | [] => ({ r with over := [] }, ms)
  | c :: cs => if rgWrOk r ms then flushX (rgUp r) (ms.set (r.cq - 1).toNat (rgRow r ms c)) cs else ({ r with over := c :: cs }, ms)
def flushR (r : Rg) (ms : List (List Int)) : Rg × List (List Int) := flushX r ms r.over
theorem pow_sb {k : Int} (h : 0 ≤ k ∧ k ≤ 3) : (1 : Int) ≤ 2 ^ k.toNat ∧ (2 : Int) ^ k.toNat ≤ 8 ∧ IntKind.u32.wrap (1 * 2 ^ k.toNat) = 2 ^ k.toNat := by
  have : k = 0 ∨ k = 1 ∨ k = 2 ∨ k = 3 := by omega
  rcases this with rfl | rfl | rfl | rfl <;> decide
theorem rgWait_in (h : RgOk r) : 0 ≤ rgWait r ms ∧ rgWait r ms ≤ 8 := by
  have h1 := pow_sb h.sb
  have h2 := wrap32_in (getN (rowAt ms r.sq) 4 4 - r.head)
  unfold rgWait rgWaitOk rgNear
  split
  · rename_i h3
    simp only [Bool.not_eq_true', decide_eq_false_iff_not] at h3
    omega
  · omega
theorem advR_ok (h : RgOk r) (n : Int) : RgOk (advR r n) := ⟨h.sq, h.cq, h.cb, h.tail, h.sb, wrap32_in _⟩
theorem advM_ok (h : RgOk r) (hM : MemOk ms) (n : Int) : MemOk (advM r ms n) := by
  obtain ⟨_, h2, h3⟩ := hM.at h.sq
  exact hM.put ⟨by rw [putB_len (by simp [le4]; omega), h2], putB_bytes h3 (le4_bytes _)⟩
theorem wrM_ok (h : RgOk r) (hM : MemOk ms) (c : Cqe) : MemOk (ms.set (r.cq - 1).toNat (rgRow r ms c)) := hM.put (rgRow_ok h hM c)
theorem flush_ok : ∀ (cs : List Cqe) {r : Rg} {ms : List (List Int)}, RgOk r → MemOk ms → RgOk (flushX r ms cs).1 ∧ MemOk (flushX r ms cs).2 ∧ (flushX r ms cs).1.over.length ≤ cs.length
  | [], r, ms, h, hM => ⟨⟨h.sq, h.cq, h.cb, h.tail, h.sb, h.head⟩, hM, Nat.le_refl _⟩
  | c :: cs, r, ms, h, hM => by
    unfold flushX
    split
    · have h1 := flush_ok cs h.up (wrM_ok h hM c)
      exact ⟨h1.1, h1.2.1, Nat.le_succ_of_le h1.2.2⟩
    · exact ⟨⟨h.sq, h.cq, h.cb, h.tail, h.sb, h.head⟩, hM, Nat.le_refl _⟩
theorem ringWait (hp : Picks [blk b 217 [.pointer (some ⟨mb, 0, none⟩), .int .i64 r.sq, .int .i64 r.cq, .int .i64 r.sb, .int .i64 r.cb, .int .u32 r.head, .int .u32 r.tail, v], memA mb ms] l m) (hR : RgOk r) (hM : MemOk ms) :
    Con Tryz.prog 46 #[.pointer (some ⟨b, 0, none⟩)] E l (fun _ : Unit => .tuple #[.int .i64 (rgWait r ms), .bool (rgWaitOk r ms)]) (fun _ => blk b 217 [.pointer (some ⟨mb, 0, none⟩), .int .i64 r.sq, .int .i64 r.cq, .int .i64 r.sb, .int .i64 r.cb, .int .u32 r.head, .int .u32 r.tail, v] :: memA mb ms :: m) := by
  refine Con.body (n := 27) Tryz.func46 Z Z _ (env_ok 1 Z) <| J_picks2 hp ?_
  obtain ⟨hu, hxl, hB⟩ := hM.at hR.sq
  obtain ⟨x, hx⟩ : ∃ x, x = rowAt ms r.sq := ⟨_, rfl⟩
  obtain ⟨u, huq⟩ : ∃ u : Nat, r.sq = (u : Int) + 1 := ⟨(r.sq - 1).toNat, by have := hR.sq; omega⟩
  have hu1 : (r.sq - 1).toNat = u := by omega
  rw [← hx, hu1] at hu
  rw [← hx] at hxl hB
  have hsb := pow_sb hR.sb
  have hsr := hR.sb
  refine sr <| ag Z Z <| ag Z Z <| nq <| J_seq <| J_drawL none mixed <| ip 0 Z Z Z Z (p_move Z) <| ip 1 Z Z Z Z (p_move Z) <| ip 2 Z Z Z Z (p_nilCheck Z) <| ip 3 Z Z Z Z (p_fieldAddr Z fa217_1) <| iv 4 Z Z Z Z (fun _ => v_load Z ty3 HS (by exact rfl)) <| J_slot (t := 10) (v := .int .i64 ((u : Int) + 1)) Z (by rw [huq]) <| ip 6 Z Z Z Z (p_move Z) <| ip 7 Z Z Z Z (p_nilCheck Z) <| ip 8 Z Z Z Z (p_fieldAddr Z fa217_5) <| iv 9 Z Z Z Z (fun _ => v_load Z ty22 HS (by exact rfl)) <| ip 11 Z Z Z Z (p_move Z) <| ip 12 Z Z Z Z (p_nilCheck Z) <| ip 13 Z Z Z Z (p_fieldAddr Z fa217_3) <| iv 14 Z Z Z Z (fun _ => v_load Z ty3 HS (by exact rfl)) ?_
  refine ip 15 Z Z Z Z (p_shl Z Z (by omega) (by have : (IntKind.u32.bits : Int) = 32 := rfl; omega)) <| J_slot (t := 21) (v := .int .u32 (2 ^ r.sb.toNat)) Z (by rw [hsb.2.2]) <| i1 5 Z <| xc fc95 (A3 Z Z Z) Z (ringWord (r := r) (ms := ms) (x := x) (u := u) (at_ := 4) PX (by omega) hM.len hu hxl hB) fun _ => i1 10 Z <| xc fc94 (A2 Z Z) Z (distC) fun _ => J_slot (t := 16) (v := .int .u32 (rgNear r ms)) Z (by unfold rgNear; rw [← hx]) <| ip 16 Z Z Z Z (p_assign Z) <| ip 17 Z Z Z Z (p_assign Z) <| i0 <| Q_then <| J_seq <| sr <| mv Z Z <| mv Z Z <| L_pur Z (p_gtr Z Z) <| nq <| C_dec Z (fun h24 => ?_) (fun h24 => ?_)
  have hno : rgWaitOk r ms = false := by unfold rgWaitOk; rw [decide_eq_true h24]; rfl
  have hwt : rgWait r ms = 0 := by unfold rgWait; rw [hno]; rfl
  refine sr <| ag Z Z <| ag Z Z <| nq <| J_ret <| Q_then_ret <| J_return (()) Tryz.results46 (.tmp Z (.tmp Z .nil)) ?_ ?_
  · rw [hwt, hno]; rfl
  · exact SU
  have hok : rgWaitOk r ms = true := by unfold rgWaitOk; rw [decide_eq_false h24]; rfl
  have hwt : rgWait r ms = rgNear r ms := by unfold rgWait; rw [hok]; rfl
  have hnr := wrap32_in (getN (rowAt ms r.sq) 4 4 - r.head)
  have hnd : rgNear r ms = IntKind.u32.wrap (getN (rowAt ms r.sq) 4 4 - r.head) := rfl
  refine J_skip <| qx <| mv Z Z <| L_pur Z (p_conv Z Tryz.underlying22 Tryz.underlying3) <| J_slot (t := 26) (v := .int .i64 (rgNear r ms)) Z (by rw [wrap64_of (by omega)]) <| ag Z Z <| ag Z Z <| nq <| J_ret <| J_return (()) Tryz.results46 (.tmp Z (.tmp Z .nil)) ?_ ?_
  · rw [hwt, hok]; rfl
  · exact SU
theorem ringValid (hp : Picks [blk b 217 [.pointer (some ⟨mb, 0, none⟩), .int .i64 r.sq, .int .i64 r.cq, .int .i64 r.sb, .int .i64 r.cb, .int .u32 r.head, .int .u32 r.tail, v], memA mb ms] l m) (hR : RgOk r) (hM : MemOk ms) :
    Con Tryz.prog 88 #[.pointer (some ⟨b, 0, none⟩)] E l (fun _ : Unit => .bool (rgValid r ms)) (fun _ => blk b 217 [.pointer (some ⟨mb, 0, none⟩), .int .i64 r.sq, .int .i64 r.cq, .int .i64 r.sb, .int .i64 r.cb, .int .u32 r.head, .int .u32 r.tail, v] :: memA mb ms :: m) := by
  refine Con.body (n := 21) Tryz.func88 Z Z _ (env_ok 1 Z) <| J_picks2 hp <| sr <| ag Z Z <| nx <| mv Z Z <| xo fc46 (A1 Z) Z (ringWait (r := r) (ms := ms) PX hR hM) fun _ => mv Z Z <| L_pur Z (p_extract Z Z) <| L_pur Z (p_extract Z Z) <| ag Z Z <| ag Z Z <| nx <| mv Z Z <| xo fc49 (A1 Z) Z (ringRoom (r := r) (ms := ms) PX hR hM) fun _ => mv Z Z <| L_pur Z (p_extract Z Z) <| L_pur Z (p_extract Z Z) <| ag Z Z <| ag Z Z <| nx <| mv Z Z <| mv Z Z <| J_gsplit (t := 18) Z (fun h18 => ?_) (fun h18 => ?_)
  refine gp Z Z Z (p_move Z) Z <| L_pur Z (p_pick_t Z Z) <| ag Z Z <| nq <| J_ret <| J_return (()) Tryz.results88 (.tmp Z .nil) ?_ ?_
  · first | rfl | (simp_all [one, rgValid, rgRoomOk]; done)
  · exact SU
  refine gz Z Z Z Z Z <| L_pur Z (p_pick_f Z Z) <| ag Z Z <| nq <| J_ret <| J_return (()) Tryz.results88 (.tmp Z .nil) ?_ ?_
  · first | rfl | (simp_all [one, rgValid, rgRoomOk]; done)
  · exact SU
theorem ringFetch {v0 : Value} (hp : Picks [blk b 217 [.pointer (some ⟨mb, 0, none⟩), .int .i64 r.sq, .int .i64 r.cq, .int .i64 r.sb, .int .i64 r.cb, .int .u32 r.head, .int .u32 r.tail, v0], memA mb ms] l m) {i : Nat} (hi : i ≤ 1000) (hR : RgOk r) (hM : MemOk ms) :
  Con Tryz.prog 135 #[.pointer (some ⟨b, 0, none⟩), .int .i64 (i : Int)] E l (fun v : Value => v) (fun v => row 5 1 v ((fetchB r ms i).map encU) :: blk b 217 [.pointer (some ⟨mb, 0, none⟩), .int .i64 r.sq, .int .i64 r.cq, .int .i64 r.sb, .int .i64 r.cb, .int .u32 r.head, .int .u32 r.tail, v0] :: memA mb ms :: m) := by
 refine Con.body (n := 32) Tryz.func135 Z Z _ (env_ok 2 Z) <| J_picks2 hp ?_
 obtain ⟨hu, hxl, hB⟩ := hM.at hR.sq
 obtain ⟨x, hx⟩ : ∃ x, x = rowAt ms r.sq := ⟨_, rfl⟩
 obtain ⟨u, huq⟩ : ∃ u : Nat, r.sq = (u : Int) + 1 := ⟨(r.sq - 1).toNat, by have := hR.sq; omega⟩
 have hu1 : (r.sq - 1).toNat = u := by omega
 rw [← hx, hu1] at hu
 rw [← hx] at hxl hB
 have hsb := pow_sb hR.sb
 have hsr := hR.sb
 obtain ⟨h0, hh0⟩ : ∃ h0, h0 = IntKind.u32.wrap (r.head + IntKind.u32.wrap (i : Int)) := ⟨_, rfl⟩
 have hin := wrap32_in (r.head + IntKind.u32.wrap (i : Int))
 rw [← hh0] at hin
 have hms := mod_small (n := h0) (k := r.sb.toNat) (by omega)
 obtain ⟨off, hoff⟩ : ∃ off : Nat, 16 + h0 % 2 ^ r.sb.toNat * 32 = (off : Int) := ⟨(16 + h0 % 2 ^ r.sb.toNat * 32).toNat, by omega⟩
 have hm8 : h0 % 2 ^ r.sb.toNat ≤ 7 := by have := Int.emod_lt_of_pos h0 (b := 2 ^ r.sb.toNat) (by omega); omega
 refine sr <| ag Z Z <| nq <| J_seq <| J_drawL none mixed <| ip 0 Z Z Z Z (p_move Z) <| ip 1 Z Z Z Z (p_nilCheck Z) <| ip 2 Z Z Z Z (p_fieldAddr Z fa217_0) <| iv 3 Z Z Z Z (fun _ => v_load Z ty75 HS (by exact rfl)) <| ip 4 Z Z Z Z (p_move Z) <| ip 5 Z Z Z Z (p_nilCheck Z) <| ip 6 Z Z Z Z (p_fieldAddr Z fa217_1) <| iv 7 Z Z Z Z (fun _ => v_load Z ty3 HS (by exact rfl)) <| J_slot (t := 15) (v := .int .i64 ((u : Int) + 1)) Z (by rw [huq]) <| ip 8 Z Z Z Z (p_move Z) <| ip 9 Z Z Z Z (p_nilCheck Z) <| ip 10 Z Z Z Z (p_fieldAddr Z fa217_5) <| iv 11 Z Z Z Z (fun _ => v_load Z ty22 HS (by exact rfl)) ?_
 refine ip 12 Z Z Z Z (p_move Z) <| ip 13 Z Z Z Z (p_conv Z Tryz.underlying3 Tryz.underlying22) <| ip 14 Z Z Z Z (p_add Z Z) <| J_slot (t := 22) (v := .int .u32 h0) Z (by rw [hh0]) <| ip 15 Z Z Z Z (p_move Z) <| ip 16 Z Z Z Z (p_nilCheck Z) <| ip 17 Z Z Z Z (p_fieldAddr Z fa217_3) <| iv 18 Z Z Z Z (fun _ => v_load Z ty3 HS (by exact rfl)) <| J_slot (t := 26) (v := .int .i64 (r.sb.toNat : Int)) Z (by rw [Int.toNat_of_nonneg hsr.1]) <| i1 19 Z <| xc fc193 (A3 Z Z Z) Z (placeC (k := r.sb.toNat) (n := h0) (.inr Z) (by omega) hin) fun _ => J_slot (t := 27) (v := .int .i64 (off : Int)) Z (by rw [← hoff]) <| i1 20 Z <| xc fc50 (A4 Z Z Z Z) Z (readC (ms := ms) (u := u) (off := off) (n := 32) PC hM.len hu hxl (by omega)) fun x28 => ?_
 refine ip 21 Z Z Z Z (p_move Z) <| ip 22 Z Z Z Z (p_extract Z Z) <| ip 23 Z Z Z Z (p_extract Z Z) <| ip 24 Z Z Z Z (p_assign Z) <| ip 25 Z Z Z Z (p_assign Z) <| i0 <| qx <| mv Z Z <| ag Z Z <| nq <| J_ret <| J_pick (A := row 5 1 x28 _) PC <| J_rowEq (ys := (fetchB r ms i).map encU) (by unfold fetchB; rw [← hx, ← hh0, hoff, Int.toNat_natCast]) ?_
 exact J_return (x28) Tryz.results135 (.tmp Z .nil) Z SU
theorem ringAdv (hp : Picks [blk b 217 [.pointer (some ⟨mb, 0, none⟩), .int .i64 r.sq, .int .i64 r.cq, .int .i64 r.sb, .int .i64 r.cb, .int .u32 r.head, .int .u32 r.tail, v], memA mb ms] l m) {n : Int} (hR : RgOk r) (hM : MemOk ms) :
  Con Tryz.prog 136 #[.pointer (some ⟨b, 0, none⟩), .int .i64 n] E l (fun _ : Unit => .tuple #[]) (fun _ => blk b 217 [.pointer (some ⟨mb, 0, none⟩), .int .i64 (advR r n).sq, .int .i64 (advR r n).cq, .int .i64 (advR r n).sb, .int .i64 (advR r n).cb, .int .u32 (advR r n).head, .int .u32 (advR r n).tail, v] :: memA mb (advM r ms n) :: m) := by
 refine Con.body (n := 23) Tryz.func136 Z Z _ (env_ok 2 Z) <| J_picks2 hp ?_
 obtain ⟨hu, hxl, hB⟩ := hM.at hR.sq
 obtain ⟨x, hx⟩ : ∃ x, x = rowAt ms r.sq := ⟨_, rfl⟩
 obtain ⟨u, huq⟩ : ∃ u : Nat, r.sq = (u : Int) + 1 := ⟨(r.sq - 1).toNat, by have := hR.sq; omega⟩
 have hu1 : (r.sq - 1).toNat = u := by omega
 rw [← hx, hu1] at hu
 rw [← hx] at hxl hB
 have hsb := pow_sb hR.sb
 have hsr := hR.sb
 refine sr <| mv Z Z <| nc Z Z <| fa Z Z fa217_5 <| L_val Z (v_load Z ty22 HS (by exact rfl)) <| mv Z Z <| L_pur Z (p_conv Z Tryz.underlying3 Tryz.underlying22) <| L_pur Z (p_add Z Z) <| nc Z Z <| fa Z Z fa217_5 <| L_op <| x_store Z Z ty22 Z SM SM RO PT <| J_pick (A := blk b _ _) PC <| J_asTo (B := blk b 217 [.pointer (some ⟨mb, 0, none⟩), .int .i64 (advR r n).sq, .int .i64 (advR r n).cq, .int .i64 (advR r n).sb, .int .i64 (advR r n).cb, .int .u32 (advR r n).head, .int .u32 (advR r n).tail, v]) (by rfl) <| nq <| J_drawT 9 mixed (by kernel_rfl) <| sm Z Z <| sm Z Z <| sp Z (p_nilCheck Z) <| sp Z (p_fieldAddr Z fa217_1) <| S_val Z (v_load Z ty3 HS (by exact rfl)) <| J_slot (t := 17) (v := .int .i64 ((u : Int) + 1)) Z (by rw [← huq]; rfl) <| sm Z Z <| sp Z (p_nilCheck Z) <| sp Z (p_fieldAddr Z fa217_5) <| S_val Z (v_load Z ty22 HS (by exact rfl)) ?_
 refine S_nil <| xo fc195 (A4 Z Z Z Z) Z (ringPuts (r := advR r n) (ms := ms) (x := x) (u := u) (n := (advR r n).head) (at_ := 0) PX (by omega) hM.len hu hxl) fun _ => L_nil <| J_endnormal <| J_pick (A := memA mb _) PC <| J_asTo (B := memA mb (advM r ms n)) (by unfold advM; rw [hu1, ← hx]) ?_
 exact J_return (()) Tryz.results136 .nil Z SU
theorem delete134 {c : List Value} {xs : List (List Value)} (hp : Pick (row 93 4 v (c :: xs)) l m) :
  Con Tryz.prog 134 #[v, .int .i64 0, .int .i64 1] E l (fun v' : Value => v') (fun v' => row 93 4 v' xs :: m) := by
 refine Con.body (n := 33) Tryz.func134 Z Z _ (env_ok 3 Z) <| J_pick hp <| J_row .here fun hw a cap hv h1 h2 h3 => ?_
 obtain ⟨b, o, rfl⟩ := h3 (by simp)
 subst hv
 have hl : (c :: xs).length = xs.length + 1 := rfl
 have hm : cap ≤ 9223372036854775807 := h2
 refine sr <| ag Z Z <| nx <| mv Z Z <| mv Z Z <| mv Z Z <| mv Z Z <| L_pur Z (p_len Z Tryz.underlying88) <| L_pur Z (p_slice3 Z Tryz.underlying88 ty93 Z Z Z (by omega) (by omega) (by omega) (by omega)) <| nxx <| mv Z Z <| mv Z Z <| L_pur Z (p_eql Z Z) <| nq <| J_bool (t := 16) (c := false) Z (by decide) <| C_false Z <| J_skip <| qx <| mv Z Z <| L_pur Z (p_len Z Tryz.underlying88) <| ag Z Z <| nq <| J_seq <| J_drawT 6 mixed (by kernel_rfl) <| sm Z Z <| sm Z Z <| sp Z (p_slice Z Tryz.underlying88 ty93 Z Z (by omega) (by omega) (by omega)) <| J_slot (t := 22) (v := .slice (some ⟨b, o, none⟩) 0 cap) Z (by simp [Addr.add]) <| sm Z Z <| sm Z Z <| sp Z (p_slice Z Tryz.underlying88 ty93 Z Z (by omega) (by omega) (by omega)) <| S_nil ?_
 refine L_op <| x_appIn (ys := xs) (len := (c :: xs).length) Z Z Tryz.underlying88 ty93 PC (fun w H => (sep_reads HS H).drop (lo := 1) (by omega)) (by omega) Z <| ag Z Z <| nx <| mv Z Z <| mv Z Z <| L_pur Z (p_len Z Tryz.underlying88) <| mv Z Z <| L_pur Z (p_slice Z Tryz.underlying88 ty93 Z Z (by omega) (by omega) (by omega)) <| L_op <| x_clear (len := (c :: xs).length) Z Tryz.underlying88 ty93 Z Z PC (by simp) <| J_take (k := 0 + xs.length) (by simp) <| J_rowEq (ys := xs) (by simp) <| nx <| mv Z Z <| ag Z Z <| nq <| J_ret ?_
 exact J_return (_) Tryz.results134 (.tmp Z .nil) Z SU
theorem clone96 {xs : List (List Value)} (hr : ∀ w, Sep E w l → Reads w 4 v xs) (hb : xs.length ≤ 1000000) :
    Con Tryz.prog 96 #[v] E l (fun v' : Value => v') (fun v' => row 93 4 v' xs :: l) := by
  refine Con.body (n := 8) Tryz.func96 Z Z _ (env_ok 1 Z) <| J_reads hr fun hw a cap hv h1 h2 h3 => ?_
  subst hv
  refine sr <| ag Z Z <| nxx <| mv Z Z <| L_pur Z (p_eqnil Tryz.underlying88 Z) <| nq <| C_split Z (fun h4 => ?_) (fun h4 => ?_)
  obtain rfl : a = none := by simpa using h4
  obtain ⟨rfl, rfl⟩ := h3 rfl
  refine J_nil (el := 93) (sz := 4) <| sr <| ag Z Z <| nq <| J_ret <| Q_then_ret ?_
  exact J_return (_) Tryz.results96 (.tmp Z .nil) Z SU
  refine J_skip <| qx <| L_op <| x_lit (vals := []) Tryz.underlying88 ty93 Z .nil .nil Wf.nil Z (by decide) Z Z <| JR fun a5 c5 hw5 hl5 hm5 hz5 => mv Z Z <| L_op <| x_app Z Z Tryz.underlying88 ty93 Z Z PC (fun w H => hr w H.tail) (OM) (OM) Z <| JR fun a7 c7 hw7 hl7 hm7 hz7 => ag Z Z <| nq <| J_ret ?_
  exact J_return (_) Tryz.results96 (.tmp Z .nil) Z SU
theorem rgaWait (hp : Picks [rgA b mb r, memA mb ms] l m) (hR : RgOk r) (hM : MemOk ms) :
    Con Tryz.prog 46 #[.pointer (some ⟨b, 0, none⟩)] E l (fun _ : Unit => .tuple #[.int .i64 (rgWait r ms), .bool (rgWaitOk r ms)]) (fun _ => rgA b mb r :: memA mb ms :: m) := fun w H => by
  refine (?_ : Jk E l 0 [] fun _ w => Calls Tryz.prog 46 #[.pointer (some ⟨b, 0, none⟩)] w fun e w' => ∃ x, e = .returned ((fun _ : Unit => .tuple #[.int .i64 (rgWait r ms), .bool (rgWaitOk r ms)]) x) ∧ Sep E w' ((fun _ : Unit => rgA b mb r :: memA mb ms :: m) x)) w _ H fr0
  refine J_picks2 hp <| J_rgO fun v _ => J_con (ringWait (r := r) (ms := ms) PX hR hM) fun x => J_pick (A := row 93 4 v _) PC <| J_rowEq (ys := (r).over.map encX) (by rfl) <| J_rgS (b := b) (mb := mb) (r := r) v PX trivial ?_
  exact J_end SU
theorem rgaValid (hp : Picks [rgA b mb r, memA mb ms] l m) (hR : RgOk r) (hM : MemOk ms) :
    Con Tryz.prog 88 #[.pointer (some ⟨b, 0, none⟩)] E l (fun _ : Unit => .bool (rgValid r ms)) (fun _ => rgA b mb r :: memA mb ms :: m) := fun w H => by
  refine (?_ : Jk E l 0 [] fun _ w => Calls Tryz.prog 88 #[.pointer (some ⟨b, 0, none⟩)] w fun e w' => ∃ x, e = .returned ((fun _ : Unit => .bool (rgValid r ms)) x) ∧ Sep E w' ((fun _ : Unit => rgA b mb r :: memA mb ms :: m) x)) w _ H fr0
  refine J_picks2 hp <| J_rgO fun v _ => J_con (ringValid (r := r) (ms := ms) PX hR hM) fun x => J_pick (A := row 93 4 v _) PC <| J_rowEq (ys := (r).over.map encX) (by rfl) <| J_rgS (b := b) (mb := mb) (r := r) v PX trivial ?_
  exact J_end SU
theorem rgaFetch (hp : Picks [rgA b mb r, memA mb ms] l m) {i : Nat} (hi : i ≤ 1000) (hR : RgOk r) (hM : MemOk ms) :
    Con Tryz.prog 135 #[.pointer (some ⟨b, 0, none⟩), .int .i64 (i : Int)] E l (fun x : Value => x) (fun x => row 5 1 x ((fetchB r ms i).map encU) :: rgA b mb r :: memA mb ms :: m) := fun w H => by
  refine (?_ : Jk E l 0 [] fun _ w => Calls Tryz.prog 135 #[.pointer (some ⟨b, 0, none⟩), .int .i64 (i : Int)] w fun e w' => ∃ x, e = .returned ((fun x : Value => x) x) ∧ Sep E w' ((fun x : Value => row 5 1 x ((fetchB r ms i).map encU) :: rgA b mb r :: memA mb ms :: m) x)) w _ H fr0
  refine J_picks2 hp <| J_rgO fun v _ => J_con (ringFetch (r := r) (ms := ms) (i := i) PX hi hR hM) fun x => J_pick (A := row 93 4 v _) PC <| J_rowEq (ys := (r).over.map encX) (by rfl) <| J_rgS (b := b) (mb := mb) (r := r) v PX trivial ?_
  exact J_end SU
theorem rgaAdv (hp : Picks [rgA b mb r, memA mb ms] l m) {n : Int} (hR : RgOk r) (hM : MemOk ms) :
    Con Tryz.prog 136 #[.pointer (some ⟨b, 0, none⟩), .int .i64 n] E l (fun _ : Unit => .tuple #[]) (fun _ => rgA b mb (advR r n) :: memA mb (advM r ms n) :: m) := fun w H => by
  refine (?_ : Jk E l 0 [] fun _ w => Calls Tryz.prog 136 #[.pointer (some ⟨b, 0, none⟩), .int .i64 n] w fun e w' => ∃ x, e = .returned ((fun _ : Unit => .tuple #[]) x) ∧ Sep E w' ((fun _ : Unit => rgA b mb (advR r n) :: memA mb (advM r ms n) :: m) x)) w _ H fr0
  refine J_picks2 hp <| J_rgO fun v _ => J_con (ringAdv (r := r) (ms := ms) (n := n) PX hR hM) fun x => J_pick (A := row 93 4 v _) PC <| J_rowEq (ys := ((advR r n)).over.map encX) (by rfl) <| J_rgS (b := b) (mb := mb) (r := (advR r n)) v PX trivial ?_
  exact J_end SU
theorem rgaOver (hp : Pick (rgA b mb r) l m) (hl : r.over.length ≤ 100000) :
    Con Tryz.prog 48 #[.pointer (some ⟨b, 0, none⟩)] E l (fun v : Value => v) (fun v => row 93 4 v (r.over.map encX) :: rgA b mb r :: m) := by
  refine Con.body (n := 8) Tryz.func48 Z Z _ (env_ok 1 Z) <| J_pick hp <| J_rgO fun v _ => sr <| ag Z Z <| nx <| mv Z Z <| nc Z Z <| fa Z Z fa217_7 <| L_val Z (v_load Z ty88 HS (by exact rfl)) <| xo fc96 (A1 Z) Z (clone96 (xs := r.over.map encX) (fun w H => sep_reads (xs := r.over.map encX) HS H) (by simp; omega)) <| JR fun a7 c7 hw7 hl7 hm7 hz7 => ag Z Z <| nq <| J_ret <| J_rgS (b := b) (mb := mb) (r := r) v PX trivial ?_
  exact J_return (_) Tryz.results48 (.tmp Z .nil) Z SU
theorem rgaFlush (hp : Picks [rgA b mb r, memA mb ms] l m) (hl : r.over.length ≤ 100000) (hR : RgOk r) (hM : MemOk ms) :
  Con Tryz.prog 89 #[.pointer (some ⟨b, 0, none⟩)] E l (fun x : Nat => .int .i64 (x : Int)) (fun x => rgA b mb (flushR r ms).1 :: memA mb (flushR r ms).2 :: m) := by
 refine Con.body (n := 31) Tryz.func89 Z Z _ (env_ok 1 Z) <| J_picks2 hp <| J_rgO fun v _ => sr <| ag Z Z <| nx <| ag Z Z <| nq <| J_seq <| J_block <| J_loop4 (fun j v r' ms' => j ≤ r.over.length ∧ RgOk r' ∧ MemOk ms' ∧ flushX r ms r.over = flushX r' ms' (r.over.drop j)) (fun (j : Nat) (v : Value) (r' : Rg) (ms' : List (List Int)) => blk b 217 [.pointer (some ⟨mb, 0, none⟩), .int .i64 r'.sq, .int .i64 r'.cq, .int .i64 r'.sb, .int .i64 r'.cb, .int .u32 r'.head, .int .u32 r'.tail, v] :: row 93 4 v ((r.over.drop j).map encX) :: memA mb ms' :: m) (fun j v r' ms' => [(3, .int .i64 (j : Int)), (0, .pointer (some ⟨b, 0, none⟩))]) (fun j v r' ms' => r.over.length - j) 0 v r ms ⟨by omega, hR, hM, rfl⟩ SU KE ?_
 intro j v r' ms' ⟨hj, hR', hM', hfx⟩
 refine J_row (.there .here) fun hw a cap hv h1 h2 h3 => ?_
 subst hv
 have hm : cap ≤ 9223372036854775807 := h2
 have hml : ((r.over.drop j).map encX).length = r.over.length - j := by simp
 refine J_seq <| sr <| mv Z Z <| nc Z Z <| fa Z Z fa217_7 <| L_val Z (v_load Z ty88 HS (by exact rfl)) <| L_pur Z (p_len Z Tryz.underlying88) <| L_pur Z (p_gtr Z Z) <| mv Z Z <| J_gsplit (t := 10) Z (fun h10 => ?_) (fun h10 => ?_)
 have hlt : j < r.over.length := by simp at h10; omega
 obtain ⟨bx, ox, rfl⟩ := h3 (by intro h; rw [h] at hml; simp at hml; omega)
 obtain ⟨c, hcc⟩ : ∃ c, r.over[j]? = some c := ⟨_, List.getElem?_eq_getElem hlt⟩
 have hc0 : (r.over.drop j)[0]? = some c := by rw [List.getElem?_drop]; exact hcc
 have hdj : r.over.drop j = c :: r.over.drop (j + 1) := by rw [List.drop_eq_getElem_cons hlt, (List.getElem?_eq_some_iff.1 hcc).2]
 refine gp Z Z Z (p_move Z) Z <| gp Z Z Z (p_move Z) Z <| L_op <| G_on Z Z Z <| J_pur (p_nilCheck Z) Z Z Z <| gp Z Z Z (p_fieldAddr Z fa217_7) Z <| L_op <| G_on Z Z Z <| J_val (v_load Z ty88 HS (by exact rfl)) Z Z Z <| gp Z Z Z (p_indexAddr Z Z Tryz.underlying88 ty93 (by omega) (by omega)) Z <| L_op <| G_on Z Z Z <| J_val (v_loadE Z ty93 HS (by show ((r.over.drop j).map encX)[0]? = _; rw [List.getElem?_map, hc0]; rfl)) Z Z Z ?_
 refine L_op <| G_on Z Z Z <| xc fc133 (A2 Z Z) Z (ringWrites (c := c) (r := r') (ms := ms') PX hR' hM') fun _ => L_pur Z (p_pick_t Z Z) <| nq <| C_split Z (fun h19 => ?_) (fun h19 => ?_)
 refine J_pick (A := memA mb _) PC <| J_asTo (B := memA mb (ms'.set (r'.cq - 1).toNat (rgRow r' ms' c))) (by rw [h19, if_pos Z]) <| J_pick (A := blk b _ _) PC <| J_asTo (B := blk b 217 [.pointer (some ⟨mb, 0, none⟩), .int .i64 (rgUp r').sq, .int .i64 (rgUp r').cq, .int .i64 (rgUp r').sb, .int .i64 (rgUp r').cb, .int .u32 (rgUp r').head, .int .u32 (rgUp r').tail, (.slice (some ⟨bx, ox, none⟩) ((r.over.drop j).map encX).length cap)]) (by rw [h19, if_pos Z]) <| J_skip <| Q_then <| J_block <| sr <| mv Z Z <| mv Z Z <| nc Z Z <| fa Z Z fa217_7 <| L_val Z (v_load Z ty88 HS (by exact rfl)) <| J_pick (A := row 93 4 _ _) PC ?_
 refine J_rowEq (ys := encX c :: (r.over.drop (j + 1)).map encX) (by rw [hdj]; rfl) <| xo fc134 (A3 Z Z Z) Z (delete134 (c := encX c) (xs := (r.over.drop (j + 1)).map encX) (by have e : ((r.over.drop j).map encX).length = (encX c :: (r.over.drop (j + 1)).map encX).length := by { rw [hdj]; rfl }; rw [e]; exact .here)) <| JR fun a25 c25 hw25 hl25 hm25 hz25 => nc Z Z <| fa Z Z fa217_7 <| L_op <| x_store Z Z ty88 Z SM SM RO PT <| ny <| mv Z Z <| L_pur Z (p_add64 Z Z (by omega)) <| ag Z Z <| L_nil <| Q_blk_normal <| Q_then ?_
 exact J_again4 (j + 1) _ (rgUp r') (ms'.set (r'.cq - 1).toNat (rgRow r' ms' c)) (by omega) (⟨by omega, hR'.up, wrM_ok hR' hM' c, by rw [hfx, hdj, flushX, if_pos h19]⟩) SU KE
 have hno : rgWrOk r' ms' = false := h19
 have hfx2 : flushX r ms r.over = ({ r' with over := r.over.drop j }, ms') := by rw [hfx, hdj, flushX, hno]; rfl
 refine J_pick (A := memA mb _) PC <| J_asTo (B := memA mb ms') (by rw [hno, if_neg (by decide)]) <| J_pick (A := blk b _ _) PC <| J_asTo (B := blk b 217 [.pointer (some ⟨mb, 0, none⟩), .int .i64 r'.sq, .int .i64 r'.cq, .int .i64 r'.sb, .int .i64 r'.cb, .int .u32 r'.head, .int .u32 r'.tail, (.slice (some ⟨bx, ox, none⟩) ((r.over.drop j).map encX).length cap)]) (by rw [hno, if_neg (by decide)]) <| J_exit <| Q_then_exit <| Q_then_exit <| Q_blk_this <| Q_then <| J_seq <| J_rgS (b := b) (mb := mb) (r := { r' with over := r.over.drop j }) (.slice (some ⟨bx, ox, none⟩) ((r.over.drop j).map encX).length cap) PX trivial <| J_asTo (B := rgA b mb (flushR r ms).1) (by rw [show flushR r ms = _ from hfx2]) <| J_pick (A := memA mb _) PC <| J_asTo (B := memA mb (flushR r ms).2) (by rw [show flushR r ms = _ from hfx2]) <| J_region <| mv Z Z <| ag Z Z <| nq <| J_ret ?_
 exact J_return (j) Tryz.results89 (.tmp Z .nil) Z SU
 have hdn : r.over.drop j = [] := List.drop_eq_nil_of_le (by simp at h10; omega)
 have hfx2 : flushX r ms r.over = ({ r' with over := r.over.drop j }, ms') := by rw [hfx, hdn]; rfl
 refine gz Z Z Z Z Z <| gz Z Z Z Z Z <| gz Z Z Z Z Z <| gz Z Z Z Z Z <| gz Z Z Z Z Z <| gz Z Z Z Z Z <| gz Z Z Z Z Z <| gz Z Z Z Z Z <| L_pur Z (p_pick_f Z Z) <| nq <| C_false Z <| J_exit <| Q_then_exit <| Q_then_exit <| Q_blk_this <| Q_then <| J_seq <| J_rgS (b := b) (mb := mb) (r := { r' with over := r.over.drop j }) (.slice a ((r.over.drop j).map encX).length cap) PX trivial <| J_asTo (B := rgA b mb (flushR r ms).1) (by rw [show flushR r ms = _ from hfx2]) <| J_pick (A := memA mb _) PC <| J_asTo (B := memA mb (flushR r ms).2) (by rw [show flushR r ms = _ from hfx2]) <| J_region <| mv Z Z <| ag Z Z <| nq <| J_ret ?_
 exact J_return (j) Tryz.results89 (.tmp Z .nil) Z SU
/-! ### plain: one object of the state is changed, all of them, those below a unit -/
section
variable {α : Type}
def updO (xs : List (Int × Nat × α)) (u : Int) (f : α → α) : List (Int × Nat × α) := xs.map fun x => if x.1 = u then (x.1, x.2.1, f x.2.2) else x
def mapTo (f : α → α) (k : Int) (xs : List (Int × Nat × α)) : List (Int × Nat × α) := xs.map fun x => if x.1 < k then (x.1, x.2.1, f x.2.2) else x
def allO (f : α → α) (xs : List (Int × Nat × α)) : List (Int × Nat × α) := xs.map fun x => (x.1, x.2.1, f x.2.2)
variable {xs : List (Int × Nat × α)} {u k : Int} {f : α → α}
theorem ptrs_updO : ptrs (updO xs u f) = ptrs xs := by
  unfold ptrs updO; rw [List.map_map]; refine List.map_congr_left fun x _ => ?_
  simp only [Function.comp]; split <;> rfl
theorem ptrs_mapTo : ptrs (mapTo f k xs) = ptrs xs := by
  unfold ptrs mapTo; rw [List.map_map]; refine List.map_congr_left fun x _ => ?_
  simp only [Function.comp]; split <;> rfl
theorem look_ptrs : ∀ {xs : List (Int × Nat × α)}, look (ptrs xs) u = (look xs u).map Prod.fst
  | [] => rfl
  | x :: xs => by
    show look ((x.1, x.2.1) :: ptrs xs) u = _
    rw [look_cons, look_cons, look_ptrs (xs := xs)]
    split <;> rfl
theorem look_got (h : look (ptrs xs) u = some b) : ∃ a, look xs u = some (b, a) := by
  rw [look_ptrs] at h
  obtain ⟨⟨b', a⟩, h1, rfl⟩ := Option.map_eq_some_iff.1 h
  exact ⟨a, h1⟩
theorem look_is {a : α} (h : look xs u = some (b, a)) : look (ptrs xs) u = some b := by rw [look_ptrs, h]; rfl
theorem look_ix {v : Nat × α} (h : look xs u = some v) : ∃ i : Nat, xs[i]? = some (u, v) := List.getElem?_of_mem (mem_look h)
theorem updO_set {i : Nat} {a : α} (hK : Keyd (ptrs xs)) (hi : xs[i]? = some (u, b, a)) : updO xs u f = xs.set i (u, b, f a) := by
  have hl := (List.getElem?_eq_some_iff.1 hi).1
  refine List.ext_getElem? fun j => ?_
  unfold updO
  rw [List.getElem?_map, List.getElem?_set]
  by_cases hij : i = j
  · subst hij
    rw [hi, if_pos rfl, if_pos hl]; simp
  · rw [if_neg hij]
    cases hj : xs[j]? with
    | none => rfl
    | some x =>
      have : x.1 ≠ u := fun e => hij (by
        have hn : (xs.map Prod.fst).Nodup := by
          have e2 : (ptrs xs).map Prod.fst = xs.map Prod.fst := by unfold ptrs; rw [List.map_map]; rfl
          have hK' := hK
          unfold Keyd at hK'
          rw [e2] at hK'
          exact hK'
        exact nodup_idx hn (by rw [List.getElem?_map, hi]; rfl) (by rw [List.getElem?_map, hj]; exact congrArg some e))
      simp [this]
theorem mapTo_up : updO (mapTo f k xs) k f = mapTo f (k + 1) xs := by
  unfold updO mapTo
  rw [List.map_map]
  refine List.map_congr_left fun x _ => ?_
  simp only [Function.comp]
  by_cases h1 : x.1 < k
  · rw [if_pos h1, if_neg (by show ¬ x.1 = k; omega), if_pos (by omega)]
  · rw [if_neg h1]
    by_cases h2 : x.1 = k
    · rw [if_pos h2, if_pos (by omega)]
    · rw [if_neg h2, if_neg (by omega)]
theorem mapTo_no (h : look (ptrs xs) k = none) : mapTo f k xs = mapTo f (k + 1) xs := by
  unfold mapTo
  refine List.map_congr_left fun x hx => ?_
  have : x.1 ≠ k := fun e => look_none_iff.1 h (List.mem_map.2 ⟨(x.1, x.2.1), List.mem_map.2 ⟨x, hx, rfl⟩, e⟩)
  by_cases h1 : x.1 < k
  · rw [if_pos h1, if_pos (by omega)]
  · rw [if_neg h1, if_neg (by omega)]
theorem mapTo_one (h : ∀ x ∈ xs, 1 ≤ x.1 ∧ x.1 ≤ 64) : mapTo f 1 xs = xs := by
  unfold mapTo
  conv => rhs; rw [← List.map_id xs]
  refine List.map_congr_left fun x hx => ?_
  rw [if_neg (by have := h x hx; omega)]; rfl
theorem mapTo_all (h : ∀ x ∈ xs, 1 ≤ x.1 ∧ x.1 ≤ 64) : mapTo f 65 xs = allO f xs := by
  unfold mapTo allO
  refine List.map_congr_left fun x hx => ?_
  rw [if_pos (by have := h x hx; omega)]
theorem updO_mem {x : Int × Nat × α} (h : x ∈ updO xs u f) : ∃ y ∈ xs, x.1 = y.1 ∧ (x.2.2 = y.2.2 ∨ x.2.2 = f y.2.2) := by
  obtain ⟨y, hy, rfl⟩ := List.mem_map.1 h
  refine ⟨y, hy, ?_⟩
  split
  · exact ⟨rfl, .inr Z⟩
  · exact ⟨rfl, .inl Z⟩
theorem mapTo_mem {x : Int × Nat × α} (h : x ∈ mapTo f k xs) : ∃ y ∈ xs, x.1 = y.1 ∧ (x.2.2 = y.2.2 ∨ x.2.2 = f y.2.2) := by
  obtain ⟨y, hy, rfl⟩ := List.mem_map.1 h
  refine ⟨y, hy, ?_⟩
  split
  · exact ⟨rfl, .inr Z⟩
  · exact ⟨rfl, .inl Z⟩
end
def epD (i : ID) (a : List Msg × List Rcv) : List Msg × List Rcv := (mdrop a.1 i, rdrop a.2 i)
def ntD (i : ID) (a : Int × List ID) : Int × List ID := (a.1, ldrop a.2 i)
def rpD (i : ID) (a : ID × Bool) : ID × Bool := cDrop a i
def ntS (x : Int) (a : Int × List ID) : Int × List ID := (sigW a.1 a.2 x, sigL a.1 a.2 x)
structure Fits (s : KS) (N M : Nat) : Prop where
  n : N ≤ 90000
  mm : M ≤ 90000
  ids : Ids s.rt
  jn : s.jn.length + s.rt.length ≤ M
  tm : s.tm.length ≤ N
  ep : ∀ x ∈ s.ep, (1 ≤ x.1 ∧ x.1 ≤ 64) ∧ x.2.2.1.length ≤ N ∧ x.2.2.2.length ≤ N
  nt : ∀ x ∈ s.nt, (1 ≤ x.1 ∧ x.1 ≤ 64) ∧ x.2.2.2.length ≤ N
  rp : ∀ x ∈ s.rp, 1 ≤ x.1 ∧ x.1 ≤ 64
  rg : ∀ x ∈ s.rg, RgOk x.2.2 ∧ x.2.2.over.length + s.rt.length ≤ M
  mem : MemOk s.mem
def forTo (s : KS) (i : ID) (k : Int) : KS := { s with tm := tdrop s.tm i, ep := mapTo (epD i) k s.ep, nt := mapTo (ntD i) k s.nt, rp := mapTo (rpD i) k s.rp }
def kForget (s : KS) (i : ID) : KS := { s with tm := tdrop s.tm i, ep := allO (epD i) s.ep, nt := allO (ntD i) s.nt, rp := allO (rpD i) s.rp }
variable {s : KS} {N M : Nat}
theorem forTo_one (h : Fits s N M) (i : ID) : forTo s i 1 = { s with tm := tdrop s.tm i } := by
  unfold forTo
  rw [mapTo_one fun x hx => (h.ep x hx).1, mapTo_one fun x hx => (h.nt x hx).1, mapTo_one h.rp]
theorem forTo_all (h : Fits s N M) (i : ID) : forTo s i 65 = kForget s i := by
  unfold forTo kForget
  rw [mapTo_all fun x hx => (h.ep x hx).1, mapTo_all fun x hx => (h.nt x hx).1, mapTo_all h.rp]
theorem Fits.forTo (h : Fits s N M) (i : ID) (k : Int) : Fits (forTo s i k) N M where
  n := h.n
  mm := h.mm
  ids := h.ids
  jn := h.jn
  tm := Nat.le_trans (List.length_filter_le _ _) h.tm
  ep := fun x hx => by
    obtain ⟨y, hy, h1, h2⟩ := mapTo_mem hx
    obtain ⟨g1, g2, g3⟩ := h.ep y hy
    rw [h1]
    rcases h2 with h2 | h2 <;> rw [h2]
    · exact ⟨g1, g2, g3⟩
    · exact ⟨g1, Nat.le_trans (List.length_filter_le _ _) g2, Nat.le_trans (List.length_filter_le _ _) g3⟩
  nt := fun x hx => by
    obtain ⟨y, hy, h1, h2⟩ := mapTo_mem hx
    obtain ⟨g1, g2⟩ := h.nt y hy
    rw [h1]
    rcases h2 with h2 | h2 <;> rw [h2]
    · exact ⟨g1, g2⟩
    · exact ⟨g1, Nat.le_trans (ldrop_len _ _) g2⟩
  rp := fun x hx => by
    obtain ⟨y, hy, h1, h2⟩ := mapTo_mem hx
    rw [h1]; exact h.rp y hy
  rg := h.rg
  mem := h.mem
theorem Fits.forget (h : Fits s N M) (i : ID) : Fits (kForget s i) N M := by rw [← forTo_all h]; exact h.forTo i 65
theorem Fits.jnl (h : Fits s N M) (hm : M + 1 ≤ 90000) (d : Deed) : Fits { s with jn := s.jn ++ [d] } N (M + 1) :=
  ⟨h.n, hm, h.ids, by have := h.jn; simp; omega, h.tm, h.ep, h.nt, h.rp, fun x hx => by have := h.rg x hx; exact ⟨this.1, by have := this.2; show _ + s.rt.length ≤ _; omega⟩, h.mem⟩
theorem del_less {κ υ : Type} [DecidableEq κ] {ps : List (κ × υ)} {i : κ} {q : υ} (h : look ps i = some q) : (del ps i).length + 1 ≤ ps.length := by
  have := List.length_filter_lt_length_iff_exists (p := fun p : κ × υ => !decide (p.1 = i)) (l := ps) |>.2 ⟨(i, q), mem_look h, by simp⟩
  unfold del; omega
theorem del_le {κ υ : Type} [DecidableEq κ] {ps : List (κ × υ)} {i : κ} : (del ps i).length ≤ ps.length := List.length_filter_le _ _
theorem Fits.drop (h : Fits s N (M + 1)) {q : Rq} (hq : look s.rt i = some q) : Fits { s with rt := del s.rt i } N M := by
  have hl := del_less hq
  exact ⟨h.n, by have := h.mm; omega, h.ids.del i, by have := h.jn; show s.jn.length + (del s.rt i).length ≤ M; omega, h.tm, h.ep, h.nt, h.rp, fun x hx => ⟨(h.rg x hx).1, by have := (h.rg x hx).2; show _ + (del s.rt i).length ≤ M; omega⟩, h.mem⟩
theorem Fits.rgUp {s : KS} {N M : Nat} (h : Fits s N M) (hm : M + 1 ≤ 90000) (u : Int) (r0 : Rg) (h0 : RgOk r0) (c : Cqe) : Fits { s with rg := updO s.rg u (fun r => postR r s.mem c), mem := postM r0 s.mem c } N (M + 1) :=
  ⟨h.n, hm, h.ids, by have := h.jn; show s.jn.length + s.rt.length ≤ _; omega, h.tm, h.ep, h.nt, h.rp, fun x hx => by
    obtain ⟨y, hy, h1, h2⟩ := updO_mem (show x ∈ updO s.rg u (fun r => postR r s.mem c) from hx)
    obtain ⟨g1, g2⟩ := h.rg y hy
    rcases h2 with h2 | h2 <;> rw [h2]
    · exact ⟨g1, by show _ + s.rt.length ≤ _; omega⟩
    · refine ⟨postR_ok g1 c, ?_⟩
      have : (postR y.2.2 s.mem c).over.length ≤ y.2.2.over.length + 1 := by unfold postR; split <;> simp [Go.Pse.rgUp]
      show _ + s.rt.length ≤ _
      omega, postM_ok h0 h.mem c⟩
theorem Fits.sig (h : Fits s N M) (u x : Int) : Fits { s with nt := updO s.nt u (ntS x) } N M :=
  ⟨h.n, h.mm, h.ids, h.jn, h.tm, h.ep, fun z hz => by
    obtain ⟨y, hy, h1, h2⟩ := updO_mem (show z ∈ updO s.nt u (ntS x) from hz)
    obtain ⟨g1, g2⟩ := h.nt y hy
    rw [h1]
    rcases h2 with h2 | h2 <;> rw [h2]
    · exact ⟨g1, g2⟩
    · exact ⟨g1, Nat.le_trans (sigL_len _ _ _) g2⟩, h.rp, h.rg, h.mem⟩
theorem J_keyd {κ υ : Type} [DecidableEq κ] {ek : κ → Value} {ev : υ → Value} {n : Nat} {K : Act → World → Prop} {ps : List (κ × υ)} (hh : Has (mapV ek ev (.map (some b)) ps) l) (k : Keyd ps → Jk E l n F K) : Jk E l n F K :=
  J_mapV hh (fun h _ => by cases h) (fun _ _ hk => k hk)
variable {p : Nat}
theorem coRqGet (hp : Pick (coA p s) l m) :
    Con Tryz.prog 69 #[.pointer (some ⟨p, 10, none⟩), .agg (encI i).toArray] E l (fun _ : Unit => .tuple #[evQ ((look s.rt i).getD q00), .bool (look s.rt i).isSome]) (fun _ => coA p s :: m) := fun w H => by
  refine (?_ : Jk E l 0 [] fun _ w => Calls Tryz.prog 69 #[.pointer (some ⟨p, 10, none⟩), .agg (encI i).toArray] w fun e w' => ∃ x, e = .returned ((fun _ : Unit => .tuple #[evQ ((look s.rt i).getD q00), .bool (look s.rt i).isSome]) x) ∧ Sep E w' ((fun _ : Unit => coA p s :: m) x)) w _ H fr0
  refine J_pick hp <| J_coO fun bn be br bg bt bs bp bl bk _ => J_con (rtGetC (ps := s.rt) (i := i) PC) fun x => J_coS (p := p) (s := s) bn be br bg bt bs bp bl bk PX trivial ?_
  exact J_end SU
theorem coRqDrop (hp : Pick (coA p s) l m) :
    Con Tryz.prog 119 #[.pointer (some ⟨p, 10, none⟩), .agg (encI i).toArray] E l (fun _ : Unit => .bool (look s.rt i).isSome) (fun _ => coA p { s with rt := del s.rt i } :: m) := fun w H => by
  refine (?_ : Jk E l 0 [] fun _ w => Calls Tryz.prog 119 #[.pointer (some ⟨p, 10, none⟩), .agg (encI i).toArray] w fun e w' => ∃ x, e = .returned ((fun _ : Unit => .bool (look s.rt i).isSome) x) ∧ Sep E w' ((fun _ : Unit => coA p { s with rt := del s.rt i } :: m) x)) w _ H fr0
  refine J_pick hp <| J_coO fun bn be br bg bt bs bp bl bk _ => J_con (rtDropC (ps := s.rt) (i := i) PC) fun x => J_coS (p := p) (s := { s with rt := del s.rt i }) bn be br bg bt bs bp bl bk PX trivial ?_
  exact J_end SU
theorem coRqAfter (hp : Pick (coA p s) l m) (hI : Ids s.rt) (hb : s.rt.length ≤ 100000) :
    Con Tryz.prog 122 #[.pointer (some ⟨p, 10, none⟩), .agg (encI i).toArray] E l (fun _ : Unit => .tuple #[evQ ((afterQ s.rt i).getD q00), .bool (afterQ s.rt i).isSome]) (fun _ => coA p s :: m) := fun w H => by
  refine (?_ : Jk E l 0 [] fun _ w => Calls Tryz.prog 122 #[.pointer (some ⟨p, 10, none⟩), .agg (encI i).toArray] w fun e w' => ∃ x, e = .returned ((fun _ : Unit => .tuple #[evQ ((afterQ s.rt i).getD q00), .bool (afterQ s.rt i).isSome]) x) ∧ Sep E w' ((fun _ : Unit => coA p s :: m) x)) w _ H fr0
  refine J_pick hp <| J_coO fun bn be br bg bt bs bp bl bk _ => J_con (rtAfterC (ps := s.rt) (i := i) PC hI hb) fun x => J_coS (p := p) (s := s) bn be br bg bt bs bp bl bk PX trivial ?_
  exact J_end SU
theorem coRqOf (hp : Pick (coA p s) l m) {g : Int} (hI : Ids s.rt) (hb : s.rt.length ≤ 100000) :
    Con Tryz.prog 23 #[.pointer (some ⟨p, 10, none⟩), .int .i64 g] E l (fun x : Value => x) (fun x => row 122 13 x ((ofQ s.rt g).map encQ) :: coA p s :: m) := fun w H => by
  refine (?_ : Jk E l 0 [] fun _ w => Calls Tryz.prog 23 #[.pointer (some ⟨p, 10, none⟩), .int .i64 g] w fun e w' => ∃ x, e = .returned ((fun x : Value => x) x) ∧ Sep E w' ((fun x : Value => row 122 13 x ((ofQ s.rt g).map encQ) :: coA p s :: m) x)) w _ H fr0
  refine J_pick hp <| J_coO fun bn be br bg bt bs bp bl bk _ => J_con (rtOf (ps := s.rt) (g := g) PC hI hb) fun x => J_coS (p := p) (s := s) bn be br bg bt bs bp bl bk PX trivial ?_
  exact J_end SU
theorem coRqAdd (hp : Pick (coA p s) l m) {q : Rq} (hI : Ids s.rt) (hb : s.rt.length ≤ 100000) :
    Con Tryz.prog 64 #[.pointer (some ⟨p, 10, none⟩), .agg (encQ q).toArray] E l (fun _ : Unit => .bool (addOk s.rt q)) (fun _ => coA p { s with rt := addQ s.rt q } :: m) := fun w H => by
  refine (?_ : Jk E l 0 [] fun _ w => Calls Tryz.prog 64 #[.pointer (some ⟨p, 10, none⟩), .agg (encQ q).toArray] w fun e w' => ∃ x, e = .returned ((fun _ : Unit => .bool (addOk s.rt q)) x) ∧ Sep E w' ((fun _ : Unit => coA p { s with rt := addQ s.rt q } :: m) x)) w _ H fr0
  refine J_pick hp <| J_coO fun bn be br bg bt bs bp bl bk _ => J_con (rtAddC (ps := s.rt) (q := q) PC hI hb) fun x => J_coS (p := p) (s := { s with rt := addQ s.rt q }) bn be br bg bt bs bp bl bk PX trivial ?_
  exact J_end SU
theorem coJAdd (hp : Pick (coA p s) l m) (hb : s.jn.length ≤ 200000) :
    Con Tryz.prog 174 #[.pointer (some ⟨p, 12, none⟩), .agg (encD d).toArray] E l (fun _ : Unit => .tuple #[]) (fun _ => coA p { s with jn := s.jn ++ [d] } :: m) := fun w H => by
  refine (?_ : Jk E l 0 [] fun _ w => Calls Tryz.prog 174 #[.pointer (some ⟨p, 12, none⟩), .agg (encD d).toArray] w fun e w' => ∃ x, e = .returned ((fun _ : Unit => .tuple #[]) x) ∧ Sep E w' ((fun _ : Unit => coA p { s with jn := s.jn ++ [d] } :: m) x)) w _ H fr0
  refine J_pick hp <| J_coO fun bn be br bg bt bs bp bl bk _ => J_con (jnlAdd (xs := s.jn) (d := d) PC hb) fun x => J_coS (p := p) (s := { s with jn := s.jn ++ [d] }) bn be br bg bt bs bp bl bk PX trivial ?_
  exact J_end SU
theorem coJAll (hp : Pick (coA p s) l m) (hb : s.jn.length ≤ 200000) :
    Con Tryz.prog 21 #[.pointer (some ⟨p, 12, none⟩)] E l (fun x : Value => x) (fun x => row 45 7 x (s.jn.map encD) :: coA p s :: m) := fun w H => by
  refine (?_ : Jk E l 0 [] fun _ w => Calls Tryz.prog 21 #[.pointer (some ⟨p, 12, none⟩)] w fun e w' => ∃ x, e = .returned ((fun x : Value => x) x) ∧ Sep E w' ((fun x : Value => row 45 7 x (s.jn.map encD) :: coA p s :: m) x)) w _ H fr0
  refine J_pick hp <| J_coO fun bn be br bg bt bs bp bl bk _ => J_con (jnlAll (xs := s.jn) PC hb) fun x => J_coS (p := p) (s := s) bn be br bg bt bs bp bl bk PX trivial ?_
  exact J_end SU
theorem coTmDrop (hp : Pick (coA p s) l m) (hb : s.tm.length ≤ 100000) :
    Con Tryz.prog 168 #[.pointer (some ⟨p, 11, none⟩), .agg (encI i).toArray] E l (fun _ : Unit => .bool (decide ((tdrop s.tm i).length < s.tm.length))) (fun _ => coA p { s with tm := tdrop s.tm i } :: m) := fun w H => by
  refine (?_ : Jk E l 0 [] fun _ w => Calls Tryz.prog 168 #[.pointer (some ⟨p, 11, none⟩), .agg (encI i).toArray] w fun e w' => ∃ x, e = .returned ((fun _ : Unit => .bool (decide ((tdrop s.tm i).length < s.tm.length))) x) ∧ Sep E w' ((fun _ : Unit => coA p { s with tm := tdrop s.tm i } :: m) x)) w _ H fr0
  refine J_pick hp <| J_coO fun bn be br bg bt bs bp bl bk _ => J_con (tmrDropC (xs := s.tm) (i := i) PC hb) fun x => J_coS (p := p) (s := { s with tm := tdrop s.tm i }) bn be br bg bt bs bp bl bk PX trivial ?_
  exact J_end SU
theorem coEpDrop (hp : Pick (coA p s) l m) {u : Int} (hl : look s.ep u = some (b, out, inn)) (hbo : out.length ≤ 100000) (hbi : inn.length ≤ 100000) :
  Con Tryz.prog 169 #[.pointer (some ⟨b, 0, none⟩), .agg (encI i).toArray] E l (fun _ : Unit => .bool (decide ((mdrop out i).length + (rdrop inn i).length < out.length + inn.length))) (fun _ => coA p { s with ep := updO s.ep u (epD i) } :: m) := by
 refine J_con0 ?_
 obtain ⟨j, hj⟩ := look_ix hl
 have hjl := (List.getElem?_eq_some_iff.1 hj).1
 refine J_pick hp <| J_coO fun bn be br bg bt bs bp bl bk _ => J_keyd (ps := ptrs s.ep) HS fun hK => J_pick (A := each epF s.ep) PC <| J_eachOut hj ?_
 skip
 refine J_asTo (B := epA b out inn) (by rfl) <| J_con (epDropC (out := out) (inn := inn) (i := i) PC hbo hbi) fun x => J_pick (A := epA b (mdrop out i) (rdrop inn i)) PC <| J_asTo (B := epF (u, b, ((epD i)) (out, inn))) (by rfl) <| J_pick (A := each epF _) PC <| J_pick (A := epF (u, b, _)) PC <| J_eachIn (u, b, ((epD i)) (out, inn)) hjl ?_
 skip
 refine J_asTo (B := each epF (updO s.ep u (epD i))) (by rw [updO_set hK hj]) <| J_pick (A := mapV kZ evA (.map (some be)) (ptrs s.ep)) PC <| J_mapEq (qs := ptrs (updO s.ep u (epD i))) ptrs_updO.symm <| J_coS (p := p) (s := { s with ep := updO s.ep u (epD i) }) bn be br bg bt bs bp bl bk PX trivial ?_
 exact J_end SU
theorem coNtDrop (hp : Pick (coA p s) l m) {u : Int} {w0 : Int} (hl : look s.nt u = some (b, w0, xs)) (hb : xs.length ≤ 100000) :
  Con Tryz.prog 171 #[.pointer (some ⟨b, 0, none⟩), .agg (encI i).toArray] E l (fun _ : Unit => .bool (decide (i ∈ xs))) (fun _ => coA p { s with nt := updO s.nt u (ntD i) } :: m) := by
 refine J_con0 ?_
 obtain ⟨j, hj⟩ := look_ix hl
 have hjl := (List.getElem?_eq_some_iff.1 hj).1
 refine J_pick hp <| J_coO fun bn be br bg bt bs bp bl bk _ => J_keyd (ps := ptrs s.nt) HS fun hK => J_pick (A := each ntF s.nt) PC <| J_eachOut hj ?_
 skip
 refine J_asTo (B := ntA b 0 w0 xs) (by rfl) <| J_con (ntDropC (w := w0) (xs := xs) (i := i) PC hb) fun x => J_pick (A := ntA b 0 w0 (ldrop xs i)) PC <| J_asTo (B := ntF (u, b, ((ntD i)) (w0, xs))) (by rfl) <| J_pick (A := each ntF _) PC <| J_pick (A := ntF (u, b, _)) PC <| J_eachIn (u, b, ((ntD i)) (w0, xs)) hjl ?_
 skip
 refine J_asTo (B := each ntF (updO s.nt u (ntD i))) (by rw [updO_set hK hj]) <| J_pick (A := mapV kZ evA (.map (some bn)) (ptrs s.nt)) PC <| J_mapEq (qs := ptrs (updO s.nt u (ntD i))) ptrs_updO.symm <| J_coS (p := p) (s := { s with nt := updO s.nt u (ntD i) }) bn be br bg bt bs bp bl bk PX trivial ?_
 exact J_end SU
theorem coNtSignal (hp : Pick (coA p s) l m) {u : Int} {w0 : Int} (hl : look s.nt u = some (b, w0, xs)) (hb : xs.length ≤ 100000) {z : Int} :
  Con Tryz.prog 178 #[.pointer (some ⟨b, 0, none⟩), .int .u32 z] E l (fun _ : Unit => .tuple #[.agg (encI (sigI w0 xs z)).toArray, .int .u32 (sigV w0 xs z), .bool (woke w0 xs z)]) (fun _ => coA p { s with nt := updO s.nt u (ntS z) } :: m) := by
 refine J_con0 ?_
 obtain ⟨j, hj⟩ := look_ix hl
 have hjl := (List.getElem?_eq_some_iff.1 hj).1
 refine J_pick hp <| J_coO fun bn be br bg bt bs bp bl bk _ => J_keyd (ps := ptrs s.nt) HS fun hK => J_pick (A := each ntF s.nt) PC <| J_eachOut hj ?_
 skip
 refine J_asTo (B := ntA b 0 w0 xs) (by rfl) <| J_con (ntSignal (w := w0) (xs := xs) (x := z) PC hb) fun x => J_pick (A := ntA b 0 (sigW w0 xs z) (sigL w0 xs z)) PC <| J_asTo (B := ntF (u, b, ((ntS z)) (w0, xs))) (by rfl) <| J_pick (A := each ntF _) PC <| J_pick (A := ntF (u, b, _)) PC <| J_eachIn (u, b, ((ntS z)) (w0, xs)) hjl ?_
 skip
 refine J_asTo (B := each ntF (updO s.nt u (ntS z))) (by rw [updO_set hK hj]) <| J_pick (A := mapV kZ evA (.map (some bn)) (ptrs s.nt)) PC <| J_mapEq (qs := ptrs (updO s.nt u (ntS z))) ptrs_updO.symm <| J_coS (p := p) (s := { s with nt := updO s.nt u (ntS z) }) bn be br bg bt bs bp bl bk PX trivial ?_
 exact J_end SU
theorem coRpDrop (hp : Pick (coA p s) l m) {u : Int} {c : ID × Bool} (hl : look s.rp u = some (b, c)) :
  Con Tryz.prog 173 #[.pointer (some ⟨b, 0, none⟩), .agg (encI i).toArray] E l (fun _ : Unit => .bool (decide (c.2 = true ∧ c.1 = i))) (fun _ => coA p { s with rp := updO s.rp u (rpD i) } :: m) := by
 refine J_con0 ?_
 obtain ⟨j, hj⟩ := look_ix hl
 have hjl := (List.getElem?_eq_some_iff.1 hj).1
 refine J_pick hp <| J_coO fun bn be br bg bt bs bp bl bk _ => J_keyd (ps := ptrs s.rp) HS fun hK => J_pick (A := each rpF s.rp) PC <| J_eachOut hj ?_
 skip
 refine J_asTo (B := rpA b c) (by rfl) <| J_con (rpDropC (c := c) (i := i) PC) fun x => J_pick (A := rpA b (cDrop c i)) PC <| J_asTo (B := rpF (u, b, ((rpD i)) (c))) (by rfl) <| J_pick (A := each rpF _) PC <| J_pick (A := rpF (u, b, _)) PC <| J_eachIn (u, b, ((rpD i)) (c)) hjl ?_
 skip
 refine J_asTo (B := each rpF (updO s.rp u (rpD i))) (by rw [updO_set hK hj]) <| J_pick (A := mapV kZ evA (.map (some br)) (ptrs s.rp)) PC <| J_mapEq (qs := ptrs (updO s.rp u (rpD i))) ptrs_updO.symm <| J_coS (p := p) (s := { s with rp := updO s.rp u (rpD i) }) bn be br bg bt bs bp bl bk PX trivial ?_
 exact J_end SU
theorem coPost (hp : Pick (coA p s) l m) {u : Int} (hl : look s.rg u = some (b, r)) (hb : r.over.length ≤ 100000) (hR : RgOk r) (hM : MemOk s.mem) :
  Con Tryz.prog 175 #[.pointer (some ⟨b, 0, none⟩), .agg (encX c).toArray] E l (fun _ : Unit => .bool (postOk r s.mem)) (fun _ => coA p { s with rg := updO s.rg u (fun r => postR r s.mem c), mem := postM r s.mem c } :: m) := by
 refine J_con0 ?_
 obtain ⟨j, hj⟩ := look_ix hl
 have hjl := (List.getElem?_eq_some_iff.1 hj).1
 refine J_pick hp <| J_coO fun bn be br bg bt bs bp bl bk _ => J_keyd (ps := ptrs s.rg) HS fun hK => J_pick (A := each (rgF s.mb) s.rg) PC <| J_eachOut hj ?_
 skip
 refine J_asTo (B := rgA b s.mb r) (by rfl) <| J_con (ringPost (r := r) (ms := s.mem) (c := c) PX hb hR hM) fun x => J_pick (A := rgA b s.mb (postR r s.mem c)) PC <| J_asTo (B := (rgF s.mb) (u, b, ((fun r => postR r s.mem c)) (r))) (by rfl) <| J_pick (A := each (rgF s.mb) _) PC <| J_pick (A := (rgF s.mb) (u, b, _)) PC <| J_eachIn (u, b, ((fun r => postR r s.mem c)) (r)) hjl ?_
 skip
 refine J_asTo (B := each (rgF s.mb) (updO s.rg u (fun r => postR r s.mem c))) (by rw [updO_set hK hj]) <| J_pick (A := mapV kZ evA (.map (some bg)) (ptrs s.rg)) PC <| J_mapEq (qs := ptrs (updO s.rg u (fun r => postR r s.mem c))) ptrs_updO.symm <| J_coS (p := p) (s := { s with rg := updO s.rg u (fun r => postR r s.mem c), mem := postM r s.mem c }) bn be br bg bt bs bp bl bk PX trivial ?_
 exact J_end SU
theorem coForget (hp : Pick (coA p s) l m) (hF : Fits s N M) :
  Con Tryz.prog 120 #[.pointer (some ⟨p, 0, none⟩), .agg (encI i).toArray] E l (fun _ : Unit => .tuple #[]) (fun _ => coA p (kForget s i) :: m) := by
 refine Con.body (n := 40) Tryz.func120 Z Z _ (env_ok 2 Z) <| J_pick hp <| sr <| L_op <| x_box Z Z Z fun b3 => nq <| J_seq <| J_drawL (some 3) mixed <| ip 0 Z Z Z Z (p_move Z) <| iv 2 Z Z Z Z (fun _ => v_loadA Z ty36 HS CT) <| i1 1 Z <| xc fc62 (A1 Z) Z (coTimers) fun _ => i1 3 Z <| xc fc168 (A2 Z Z) Z (coTmDrop (s := s) (i := i) PC (by have := hF.tm; have := hF.n; omega)) fun _ => J_pick (A := coA p _) PC <| J_asTo (B := coA p (forTo s i ((1 : Nat) : Int))) (by rw [show ((1 : Nat) : Int) = 1 from rfl, forTo_one hF]) <| i0 <| qx <| ag Z Z <| nq <| J_block <| J_loop (α := Nat) (fun k => 1 ≤ k ∧ k ≤ 65) (fun k => coA p (forTo s i (k : Int)) :: blk b3 36 (encI i) :: m) (fun k => [(4, .int .i64 (k : Int)), (0, .pointer (some ⟨p, 0, none⟩)), (3, .pointer (some ⟨b3, 0, none⟩))]) (fun k => 65 - k) 1 (by omega) SU KE ?_
 intro k hk
 refine J_seq <| sr <| mv Z Z <| L_pur Z (p_leq Z Z) <| nq <| C_dec Z (fun h13 => ?_) (fun h13 => ?_)
 have hF2 := hF.forTo i (k : Int)
 have hNN := hF.n
 refine J_skip <| Q_then <| J_seq <| J_block <| J_cut (α := Unit) (fun _ : Unit => coA p { forTo s i (k : Int) with ep := mapTo (epD i) ((k : Int) + 1) s.ep } :: blk b3 36 (encI i) :: m) (fun _ : Unit => [(4, .int .i64 (k : Int)), (0, .pointer (some ⟨p, 0, none⟩)), (3, .pointer (some ⟨b3, 0, none⟩))]) ?_ ?_
 refine sr <| mv Z Z <| mv Z Z <| xo fc60 (A2 Z Z) Z (coEp (s := (forTo s i (k : Int))) (u := (k : Int)) PC) fun _ => J_slot (t := 18) (v := .pointer ((look (ptrs (KS.ep (forTo s i (k : Int)))) (k : Int)).map fun b => ⟨b, 0, none⟩)) Z Z <| ag Z Z <| nx <| mv Z Z <| L_pur Z (p_neNilPtr Tryz.underlying112 Z) <| nq <| C_split Z (fun h20 => ?_) (fun h20 => ?_)
 obtain ⟨b, hb⟩ : ∃ b, look (ptrs (KS.ep (forTo s i (k : Int)))) (k : Int) = some b := by
  cases hq : look (ptrs (KS.ep (forTo s i (k : Int)))) (k : Int) with
  | none => rw [hq] at h20; simp at h20
  | some b => exact ⟨b, rfl⟩
 obtain ⟨⟨ob1, ob2⟩, hob⟩ := look_got hb
 have hb1 : ob1.length ≤ N := (hF2.ep _ (mem_look hob)).2.1
 have hb2 : ob2.length ≤ N := (hF2.ep _ (mem_look hob)).2.2
 refine J_region <| mv Z Z <| J_slot (t := 21) (v := .pointer (some ⟨b, 0, none⟩)) Z (by rw [hb]; rfl) <| L_val Z (v_loadA Z ty36 HS CT) <| xo fc169 (A2 Z Z) Z (coEpDrop (s := (forTo s i (k : Int))) (u := (k : Int)) PC hob (by omega) (by omega)) fun _ => nq <| J_pick (A := coA p _) PC <| J_asTo (B := coA p { forTo s i (k : Int) with ep := mapTo (epD i) ((k : Int) + 1) s.ep }) (by unfold forTo; simp only [mapTo_up]) ?_
 exact J_at () SU KE
 have hno : look (ptrs s.ep) (k : Int) = none := by
  rw [← ptrs_mapTo (f := epD i) (k := (k : Int))]
  cases hq : look (ptrs (mapTo (epD i) (k : Int) s.ep)) (k : Int) with
  | none => rfl
  | some b => rw [show look (ptrs (KS.ep (forTo s i (k : Int)))) (k : Int) = _ from hq] at h20; simp at h20
 refine J_skip <| Q_then <| J_pick (A := coA p _) PC <| J_asTo (B := coA p { forTo s i (k : Int) with ep := mapTo (epD i) ((k : Int) + 1) s.ep }) (by unfold forTo; simp only [mapTo_no (f := epD i) hno]) ?_
 exact J_at () SU KE
 intro _
 refine J_cut (α := Unit) (fun _ : Unit => coA p { forTo s i (k : Int) with ep := mapTo (epD i) ((k : Int) + 1) s.ep, nt := mapTo (ntD i) ((k : Int) + 1) s.nt } :: blk b3 36 (encI i) :: m) (fun _ : Unit => [(4, .int .i64 (k : Int)), (0, .pointer (some ⟨p, 0, none⟩)), (3, .pointer (some ⟨b3, 0, none⟩))]) ?_ ?_
 refine sr <| mv Z Z <| mv Z Z <| xo fc170 (A2 Z Z) Z (coNotif (s := { forTo s i (k : Int) with ep := mapTo (epD i) ((k : Int) + 1) s.ep }) (u := (k : Int)) PC) fun _ => J_slot (t := 26) (v := .pointer ((look (ptrs (KS.nt { forTo s i (k : Int) with ep := mapTo (epD i) ((k : Int) + 1) s.ep })) (k : Int)).map fun b => ⟨b, 0, none⟩)) Z Z <| ag Z Z <| nx <| mv Z Z <| L_pur Z (p_neNilPtr Tryz.underlying223 Z) <| nq <| C_split Z (fun h28 => ?_) (fun h28 => ?_)
 obtain ⟨b, hb⟩ : ∃ b, look (ptrs (KS.nt { forTo s i (k : Int) with ep := mapTo (epD i) ((k : Int) + 1) s.ep })) (k : Int) = some b := by
  cases hq : look (ptrs (KS.nt { forTo s i (k : Int) with ep := mapTo (epD i) ((k : Int) + 1) s.ep })) (k : Int) with
  | none => rw [hq] at h28; simp at h28
  | some b => exact ⟨b, rfl⟩
 obtain ⟨⟨ob1, ob2⟩, hob⟩ := look_got hb
 have hb2 : ob2.length ≤ N := (hF2.nt _ (mem_look hob)).2
 refine J_region <| mv Z Z <| J_slot (t := 29) (v := .pointer (some ⟨b, 0, none⟩)) Z (by rw [hb]; rfl) <| L_val Z (v_loadA Z ty36 HS CT) <| xo fc171 (A2 Z Z) Z (coNtDrop (s := { forTo s i (k : Int) with ep := mapTo (epD i) ((k : Int) + 1) s.ep }) (u := (k : Int)) PC hob (by omega)) fun _ => nq <| J_pick (A := coA p _) PC <| J_asTo (B := coA p { forTo s i (k : Int) with ep := mapTo (epD i) ((k : Int) + 1) s.ep, nt := mapTo (ntD i) ((k : Int) + 1) s.nt }) (by unfold forTo; simp only [mapTo_up]) ?_
 exact J_at () SU KE
 have hno : look (ptrs s.nt) (k : Int) = none := by
  rw [← ptrs_mapTo (f := ntD i) (k := (k : Int))]
  cases hq : look (ptrs (mapTo (ntD i) (k : Int) s.nt)) (k : Int) with
  | none => rfl
  | some b => rw [show look (ptrs (KS.nt { forTo s i (k : Int) with ep := mapTo (epD i) ((k : Int) + 1) s.ep })) (k : Int) = _ from hq] at h28; simp at h28
 refine J_skip <| Q_then <| J_pick (A := coA p _) PC <| J_asTo (B := coA p { forTo s i (k : Int) with ep := mapTo (epD i) ((k : Int) + 1) s.ep, nt := mapTo (ntD i) ((k : Int) + 1) s.nt }) (by unfold forTo; simp only [mapTo_no (f := ntD i) hno]) ?_
 exact J_at () SU KE
 intro _
 refine sr <| mv Z Z <| mv Z Z <| xo fc172 (A2 Z Z) Z (coReply (s := { forTo s i (k : Int) with ep := mapTo (epD i) ((k : Int) + 1) s.ep, nt := mapTo (ntD i) ((k : Int) + 1) s.nt }) (u := (k : Int)) PC) fun _ => J_slot (t := 34) (v := .pointer ((look (ptrs (KS.rp { forTo s i (k : Int) with ep := mapTo (epD i) ((k : Int) + 1) s.ep, nt := mapTo (ntD i) ((k : Int) + 1) s.nt })) (k : Int)).map fun b => ⟨b, 0, none⟩)) Z Z <| ag Z Z <| nx <| mv Z Z <| L_pur Z (p_neNilPtr Tryz.underlying241 Z) <| nq <| C_split Z (fun h36 => ?_) (fun h36 => ?_)
 obtain ⟨b, hb⟩ : ∃ b, look (ptrs (KS.rp { forTo s i (k : Int) with ep := mapTo (epD i) ((k : Int) + 1) s.ep, nt := mapTo (ntD i) ((k : Int) + 1) s.nt })) (k : Int) = some b := by
  cases hq : look (ptrs (KS.rp { forTo s i (k : Int) with ep := mapTo (epD i) ((k : Int) + 1) s.ep, nt := mapTo (ntD i) ((k : Int) + 1) s.nt })) (k : Int) with
  | none => rw [hq] at h36; simp at h36
  | some b => exact ⟨b, rfl⟩
 obtain ⟨ob, hob⟩ := look_got hb
 refine J_region <| mv Z Z <| J_slot (t := 37) (v := .pointer (some ⟨b, 0, none⟩)) Z (by rw [hb]; rfl) <| L_val Z (v_loadA Z ty36 HS CT) <| xo fc173 (A2 Z Z) Z (coRpDrop (s := { forTo s i (k : Int) with ep := mapTo (epD i) ((k : Int) + 1) s.ep, nt := mapTo (ntD i) ((k : Int) + 1) s.nt }) (u := (k : Int)) PC hob) fun _ => L_nil <| Q_blk_normal <| qr <| mv Z Z <| L_pur Z (p_add64 Z Z (by omega)) <| ag Z Z <| nq <| J_pick (A := coA p _) PC <| J_asTo (B := coA p (forTo s i ((k + 1 : Nat) : Int))) (by unfold forTo; simp only [mapTo_up]; push_cast; rfl) ?_
 exact J_again (k + 1) (by omega) (by omega) SU KE
 have hno : look (ptrs s.rp) (k : Int) = none := by
  rw [← ptrs_mapTo (f := rpD i) (k := (k : Int))]
  cases hq : look (ptrs (mapTo (rpD i) (k : Int) s.rp)) (k : Int) with
  | none => rfl
  | some b => rw [show look (ptrs (KS.rp { forTo s i (k : Int) with ep := mapTo (epD i) ((k : Int) + 1) s.ep, nt := mapTo (ntD i) ((k : Int) + 1) s.nt })) (k : Int) = _ from hq] at h36; simp at h36
 refine J_skip <| Q_blk_normal <| qr <| mv Z Z <| L_pur Z (p_add64 Z Z (by omega)) <| ag Z Z <| nq <| J_pick (A := coA p _) PC <| J_asTo (B := coA p (forTo s i ((k + 1 : Nat) : Int))) (by unfold forTo; simp only [mapTo_no (f := rpD i) hno]; push_cast; rfl) ?_
 exact J_again (k + 1) (by omega) (by omega) SU KE
 have hk65 : k = 65 := by omega
 subst hk65
 refine J_pick (A := coA p _) PC <| J_asTo (B := coA p (kForget s i)) (by rw [show ((65 : Nat) : Int) = 65 from rfl, forTo_all hF]) <| J_exit <| Q_then_exit <| Q_then_exit <| Q_blk_this <| J_endnormal ?_
 exact J_return (()) Tryz.results120 .nil Z SU
end Go.Pse
