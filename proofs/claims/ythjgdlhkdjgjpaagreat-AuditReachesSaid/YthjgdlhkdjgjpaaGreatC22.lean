/-
  Memory, rings: contracts.
-/
import Derived.Test.YthjgdlhkdjgjpaaGreatC21
import Derived.Test.YthjgdlhkdjgjpaaGreatIns
namespace Go.Pse
open Go.RowKit Go.Proofs

theorem lset_same {α : Type} {xs : List α} {i : Nat} {y : α} (h : xs[i]? = some y) : xs.set i y = xs := by
  obtain ⟨hl, rfl⟩ := List.getElem?_eq_some_iff.1 h
  exact List.set_getElem_self hl
theorem snd_at {xs : List (Value × List Int)} {ms : List (List Int)} {u : Nat} {r : List Int} (h : xs.map Prod.snd = ms) (hr : ms[u]? = some r) : ∃ v, xs[u]? = some (v, r) := by
  subst h
  rw [List.getElem?_map] at hr
  obtain ⟨⟨v, x⟩, h1, rfl⟩ := Option.map_eq_some_iff.1 hr
  exact ⟨v, h1⟩
theorem fst_set {xs : List (Value × List Int)} {u : Nat} {v : Value} {r r' : List Int} (h : xs[u]? = some (v, r)) : ((xs.set u (v, r')).map fun x => [x.1]) = xs.map fun x => [x.1] := by
  rw [List.map_set]
  exact lset_same (by rw [List.getElem?_map, h]; rfl)
def rowAt (ms : List (List Int)) (u : Int) : List Int := (ms[(u - 1).toNat]?).getD []
structure MemOk (ms : List (List Int)) : Prop where
  len : ms.length = 64
  rows : ∀ r ∈ ms, r.length = 512 ∧ Bytes r
structure RgOk (r : Rg) : Prop where
  sq : 1 ≤ r.sq ∧ r.sq ≤ 64
  cq : 1 ≤ r.cq ∧ r.cq ≤ 64
  cb : 0 ≤ r.cb ∧ r.cb ≤ 4
  tail : 0 ≤ r.tail ∧ r.tail < 4294967296
theorem MemOk.at {ms : List (List Int)} (h : MemOk ms) {u : Int} (hu : 1 ≤ u ∧ u ≤ 64) : ms[(u - 1).toNat]? = some (rowAt ms u) ∧ (rowAt ms u).length = 512 ∧ Bytes (rowAt ms u) := by
  have hl : (u - 1).toNat < ms.length := by rw [h.len]; omega
  have e := List.getElem?_eq_getElem hl
  have e2 : rowAt ms u = ms[(u - 1).toNat] := by unfold rowAt; rw [e]; rfl
  exact ⟨by rw [e2]; exact e, by rw [e2]; exact h.rows _ (List.getElem_mem hl)⟩
theorem MemOk.put {ms : List (List Int)} (h : MemOk ms) {u : Nat} {r : List Int} (hr : r.length = 512 ∧ Bytes r) : MemOk (ms.set u r) := ⟨by rw [List.length_set, h.len], fun x hx => by
  rcases List.mem_or_eq_of_mem_set hx with h1 | h1
  · exact h.rows x h1
  · rw [h1]; exact hr⟩
/-- How far a ring's tail is from the head that stands in memory. -/
def rgFar (r : Rg) (ms : List (List Int)) : Int := IntKind.u32.wrap (r.tail - getN (rowAt ms r.cq) 0 4)
def rgRoom (r : Rg) (ms : List (List Int)) : Int := if rgFar r ms > 2 ^ r.cb.toNat then 0 else 2 ^ r.cb.toNat - rgFar r ms
def rgWrOk (r : Rg) (ms : List (List Int)) : Bool := decide (rgFar r ms < 2 ^ r.cb.toNat)
def rgRow (r : Rg) (ms : List (List Int)) (c : Cqe) : List Int := putB (putB (rowAt ms r.cq) (16 + r.tail % 2 ^ r.cb.toNat * 16).toNat (bytesX c)) 4 (le4 (IntKind.u32.wrap (r.tail + 1)))
def rgUp (r : Rg) : Rg := { r with tail := IntKind.u32.wrap (r.tail + 1) }
def postOk (r : Rg) (ms : List (List Int)) : Bool := r.over.isEmpty && rgWrOk r ms
def postR (r : Rg) (ms : List (List Int)) (c : Cqe) : Rg := if postOk r ms then rgUp r else { r with over := r.over ++ [c] }
def postM (r : Rg) (ms : List (List Int)) (c : Cqe) : List (List Int) := if postOk r ms then ms.set (r.cq - 1).toNat (rgRow r ms c) else ms
theorem wrap32_in (n : Int) : 0 ≤ IntKind.u32.wrap n ∧ IntKind.u32.wrap n < 4294967296 := by
  have : IntKind.u32.wrap n = n % 4294967296 := by simp [IntKind.wrap, IntKind.bits, IntKind.signed]
  rw [this]; omega
theorem RgOk.up {r : Rg} (h : RgOk r) : RgOk (rgUp r) := ⟨h.sq, h.cq, h.cb, wrap32_in _⟩
theorem pow_cb {k : Int} (h : 0 ≤ k ∧ k ≤ 4) : (1 : Int) ≤ 2 ^ k.toNat ∧ (2 : Int) ^ k.toNat ≤ 16 ∧ IntKind.u32.wrap (1 * 2 ^ k.toNat) = 2 ^ k.toNat := by
  have : k = 0 ∨ k = 1 ∨ k = 2 ∨ k = 3 ∨ k = 4 := by omega
  rcases this with rfl | rfl | rfl | rfl | rfl <;> decide
theorem place_in {r : Rg} (h : RgOk r) : 0 ≤ r.tail % 2 ^ r.cb.toNat ∧ r.tail % 2 ^ r.cb.toNat ≤ 15 := by
  have h2 := pow_cb h.cb
  have h3 := Int.emod_nonneg r.tail (b := 2 ^ r.cb.toNat) (by omega)
  have h4 := Int.emod_lt_of_pos r.tail (b := 2 ^ r.cb.toNat) (by omega)
  omega
theorem rgRow_ok {r : Rg} {ms : List (List Int)} (h : RgOk r) (hM : MemOk ms) (c : Cqe) : (rgRow r ms c).length = 512 ∧ Bytes (rgRow r ms c) := by
  obtain ⟨h1, h2, h3⟩ := hM.at h.cq
  have h4 := place_in h
  have h5 : (putB (rowAt ms r.cq) (16 + r.tail % 2 ^ r.cb.toNat * 16).toNat (bytesX c)).length = 512 := by rw [putB_len (by rw [bytesX_len]; omega), h2]
  exact ⟨by unfold rgRow; rw [putB_len (by simp [le4]; omega), h5], putB_bytes (putB_bytes h3 (bytesX_bytes c)) (le4_bytes _)⟩
theorem postM_ok {r : Rg} {ms : List (List Int)} (h : RgOk r) (hM : MemOk ms) (c : Cqe) : MemOk (postM r ms c) := by
  unfold postM; split
  · exact hM.put (rgRow_ok h hM c)
  · exact hM
theorem postR_ok {r : Rg} {ms : List (List Int)} (h : RgOk r) (c : Cqe) : RgOk (postR r ms c) := by
  unfold postR; split
  · exact h.up
  · exact ⟨h.sq, h.cq, h.cb, h.tail⟩
end Go.Pse
