/-
  Words in bytes, completions as bytes: contracts.
-/
import Derived.Test.YthjgdlhkdjgjpaaGreatC20
import Derived.Laws.BitsAllLaws
namespace Go.Pse
open Go.RowKit Go.Proofs

/-! ### plain: numbers in bytes -/
def le4 (n : Int) : List Int := [n % 256, n / 256 % 256, n / 65536 % 256, n / 16777216 % 256]
def putB (bs : List Int) (a : Nat) (ys : List Int) : List Int := bs.take a ++ ys ++ bs.drop (a + ys.length)
def byteAt (bs : List Int) (k : Nat) : Int := (bs[k]?).getD 0
def getN (bs : List Int) (a : Nat) : Nat → Int
  | 0 => 0
  | i + 1 => getN bs a i + byteAt bs (a + i) * 2 ^ (8 * i)
def Bytes (bs : List Int) : Prop := ∀ x ∈ bs, 0 ≤ x ∧ x ≤ 255
theorem byteAt_is {bs : List Int} (h : Bytes bs) (k : Nat) : 0 ≤ byteAt bs k ∧ byteAt bs k ≤ 255 := by
  unfold byteAt
  cases hk : bs[k]? with
  | none => simp
  | some x => exact h x (List.mem_of_getElem? hk)
theorem getN_is {bs : List Int} (h : Bytes bs) (a : Nat) : ∀ i, 0 ≤ getN bs a i ∧ getN bs a i < 2 ^ (8 * i)
  | 0 => by simp [getN]
  | i + 1 => by
    have h1 := getN_is h a i
    have h2 := byteAt_is h (a + i)
    have h3 : (2 : Int) ^ (8 * (i + 1)) = 256 * 2 ^ (8 * i) := by rw [show 8 * (i + 1) = 8 * i + 8 by omega, Int.pow_add]; omega
    have h4 : (0 : Int) < 2 ^ (8 * i) := Int.pow_pos (by omega)
    have h5 : byteAt bs (a + i) * 2 ^ (8 * i) ≤ 255 * 2 ^ (8 * i) := Int.mul_le_mul_of_nonneg_right h2.2 (by omega)
    have h6 : 0 ≤ byteAt bs (a + i) * 2 ^ (8 * i) := Int.mul_nonneg h2.1 (by omega)
    rw [getN, h3]
    omega
theorem or_nat {x y : Nat} (k : Nat) (hx : x < 2 ^ k) (hs : y * 2 ^ k < 4294967296) (hxs : x < 4294967296) : bits .or .u32 (x : Int) ((y * 2 ^ k : Nat) : Int) = ((x + y * 2 ^ k : Nat) : Int) := by
  rw [u32_or_nat x _ hxs hs, Nat.or_comm, Nat.mul_comm y, ← Nat.two_pow_add_eq_or_of_lt hx, Nat.add_comm]
theorem or_step {x y : Int} {i : Nat} (hi : i < 4) (hx : 0 ≤ x ∧ x < 2 ^ (8 * i)) (hy : 0 ≤ y ∧ y ≤ 255) : bits .or .u32 x (IntKind.u32.wrap (IntKind.u32.wrap y * 2 ^ (8 * (i : Int)).toNat)) = x + y * 2 ^ (8 * i) := by
  obtain ⟨h1, h2⟩ := hx
  obtain ⟨X, rfl⟩ := Int.eq_ofNat_of_zero_le h1
  obtain ⟨Y, rfl⟩ := Int.eq_ofNat_of_zero_le hy.1
  rw [show (8 * (i : Int)).toNat = 8 * i by omega, wrap32u_of (a := (Y : Int)) (by omega)]
  have hX : X < 2 ^ (8 * i) := by exact_mod_cast h2
  have e : ((Y : Int) * 2 ^ (8 * i)) = ((Y * 2 ^ (8 * i) : Nat) : Int) := by push_cast; rfl
  rw [e]
  have hb : Y * 2 ^ (8 * i) < 4294967296 ∧ X < 4294967296 := by
    have : i = 0 ∨ i = 1 ∨ i = 2 ∨ i = 3 := by omega
    rcases this with rfl | rfl | rfl | rfl <;> simp at hX ⊢ <;> omega
  rw [wrap32u_of (by omega), or_nat _ hX hb.1 hb.2]
  push_cast; rfl
theorem putB_nil {bs : List Int} {a : Nat} : putB bs a [] = bs := by simp [putB]
theorem putB_len {bs ys : List Int} {a : Nat} (h : a + ys.length ≤ bs.length) : (putB bs a ys).length = bs.length := by
  simp [putB]; omega
theorem putB_snoc {bs ys : List Int} {a : Nat} {y : Int} (h : a + ys.length < bs.length) : (putB bs a ys).set (a + ys.length) y = putB bs a (ys ++ [y]) := by
  unfold putB
  rw [List.drop_eq_getElem_cons h, List.set_append_right _ _ (by simp; omega), show a + ys.length - (List.take a bs ++ ys).length = 0 by simp; omega, List.set_cons_zero]
  simp [Nat.add_assoc]
theorem putB_bytes {bs ys : List Int} {a : Nat} (h : Bytes bs) (hy : Bytes ys) : Bytes (putB bs a ys) := fun x hx => by
  unfold putB at hx
  rcases List.mem_append.1 hx with h1 | h1
  · rcases List.mem_append.1 h1 with h2 | h2
    · exact h x (List.mem_of_mem_take h2)
    · exact hy x h2
  · exact h x (List.mem_of_mem_drop h1)
theorem le4_bytes (n : Int) : Bytes (le4 n) := fun x hx => by
  simp [le4] at hx
  rcases hx with rfl | rfl | rfl | rfl <;> omega
theorem le4_at (n : Int) {i : Nat} (h : i < 4) : (le4 n)[i]? = some (n / 2 ^ (8 * i) % 256) := by
  have : i = 0 ∨ i = 1 ∨ i = 2 ∨ i = 3 := by omega
  rcases this with rfl | rfl | rfl | rfl <;> simp [le4]
theorem wrap_u8 (n : Int) : IntKind.u8.wrap n = n % 256 := by simp [IntKind.wrap, IntKind.bits, IntKind.signed]
theorem put_step {bs : List Int} {a i : Nat} {n : Int} (hi : i < 4) (ha : a + 4 ≤ bs.length) :
    ((putB bs a ((le4 n).take i)).map encU).set ((a : Int) + (i : Int)).toNat [.int .u8 (IntKind.u8.wrap (n / 2 ^ (8 * (i : Int)).toNat))] = (putB bs a ((le4 n).take (i + 1))).map encU := by
  have hl : ((le4 n).take i).length = i := by simp [le4]; omega
  rw [List.take_add_one, le4_at n hi, Option.toList_some, ← putB_snoc (by omega), List.map_set, hl, show ((a : Int) + (i : Int)).toNat = a + i by omega, show (8 * (i : Int)).toNat = 8 * i by omega, wrap_u8]
  rfl
theorem getN_part {bs : List Int} {a : Nat} : getN ((bs.drop a).take 4) 0 4 = getN bs a 4 := by
  have h : ∀ k, k < 4 → byteAt ((bs.drop a).take 4) (0 + k) = byteAt bs (a + k) := fun k hk => by
    unfold byteAt; rw [List.getElem?_take_of_lt (by omega), List.getElem?_drop]; simp
  simp only [getN, h 0 (by omega), h 1 (by omega), h 2 (by omega), h 3 (by omega)]
theorem part_bytes {bs : List Int} {a n : Nat} (h : Bytes bs) : Bytes ((bs.drop a).take n) := fun x hx => h x (List.mem_of_mem_drop (List.mem_of_mem_take hx))





theorem shl32_small : ∀ k : Nat, k ≤ 8 → IntKind.u32.wrap (1 * 2 ^ (k : Int).toNat) = 2 ^ k ∧ IntKind.u32.wrap ((2 : Int) ^ k - 1) = 2 ^ k - 1 := by decide
theorem and_mask {n : Int} {k : Nat} (hk : k ≤ 8) (hn : 0 ≤ n ∧ n < 4294967296) : bits .and .u32 n (2 ^ k - 1) = n % 2 ^ k := by
  obtain ⟨X, rfl⟩ := Int.eq_ofNat_of_zero_le hn.1
  have h2 : 1 ≤ 2 ^ k ∧ 2 ^ k ≤ 256 := ⟨Nat.one_le_two_pow, by have : (2 : Nat) ^ k ≤ 2 ^ 8 := Nat.pow_le_pow_right (by omega) hk; omega⟩
  have e : ((2 : Int) ^ k - 1) = ((2 ^ k - 1 : Nat) : Int) := by rw [Int.ofNat_sub h2.1]; push_cast; rfl
  rw [e, u32_and_nat X _ (by omega) (by omega), Nat.and_two_pow_sub_one_eq_mod]
  push_cast; rfl
theorem mod_small {n : Int} {k : Nat} (hk : k ≤ 4) : 0 ≤ n % 2 ^ k ∧ n % 2 ^ k ≤ 15 := by
  have h2 : (1 : Int) ≤ 2 ^ k ∧ (2 : Int) ^ k ≤ 16 := by
    have : k = 0 ∨ k = 1 ∨ k = 2 ∨ k = 3 ∨ k = 4 := by omega
    rcases this with rfl | rfl | rfl | rfl | rfl <;> decide
  have h3 := Int.emod_nonneg n (b := 2 ^ k) (by omega)
  have h4 := Int.emod_lt_of_pos n (b := 2 ^ k) (by omega)
  omega
def bytesX (c : Cqe) : List Int := le4 c.1 ++ le4 (IntKind.u32.wrap c.2.1) ++ le4 c.2.2.1 ++ le4 c.2.2.2
def z16 : List Int := List.replicate 16 0
theorem bytesX_len (c : Cqe) : (bytesX c).length = 16 := rfl
theorem bytesX_bytes (c : Cqe) : Bytes (bytesX c) := fun x hx => by
  simp only [bytesX, List.mem_append] at hx
  rcases hx with ((h | h) | h) | h <;> exact le4_bytes _ x h
theorem bytesX_put (c : Cqe) : putB (putB (putB (putB z16 0 (le4 c.1)) 4 (le4 (IntKind.u32.wrap c.2.1))) 8 (le4 c.2.2.1)) 12 (le4 c.2.2.2) = bytesX c := rfl
def ofD (d : Deed) : Cqe := (d.2.1, IntKind.i32.wrap d.2.2.2.1, d.2.2.2.2.1, IntKind.u32.wrap d.1.2)
end Go.Pse
