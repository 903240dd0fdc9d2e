/-
  Own layer: rows that are sorted by the library's functions: from a row to what their contracts ask, and back.
-/
import Derived.Test.YthjgdlhkdjgjpaaGreatMap
import Derived.Sort.Row
import Derived.Sort.Grow
namespace Go.Pse
open Go.RowKit Go.Sort

theorem onBlock {w : World} {b : Nat} {f : Array Value → Array Value} {C : Array Value} {e : TypeId} {fr : Nat × Nat} (h : w.heap[b]? = some (.cells C e fr)) : (mapBlock w b f).heap[b]? = some (.cells (f C) e fr) := by
  have : (w.heap.modify b (onCells f))[b]? = some (.cells (f C) e fr) := by rw [Array.getElem?_modify, if_pos rfl, h]; rfl
  exact this
theorem offBlock {w : World} {b k : Nat} {f : Array Value → Array Value} (h : k ≠ b) : (mapBlock w b f).heap[k]? = w.heap[k]? := by
  have : (w.heap.modify b (onCells f))[k]? = w.heap[k]? := by rw [Array.getElem?_modify, if_neg (Ne.symm h)]
  exact this
/-- A row whose cells are laid anew, some draws and some blocks on. -/
theorem row_laid {E w w' : World} {el : TypeId} {k b o cap n : Nat} {xs ys : List (List Value)} {l : List As} {f : Array Value → Array Value} {os : Array Obj}
    (H : Sep E w (row el k (.slice (some ⟨b, o, none⟩) xs.length cap) xs :: l)) (hlen : ys.length = xs.length) (hw : Wf k ys)
    (hf : ∀ C : Array Value, o + xs.length * k ≤ C.size → (f C).size = C.size ∧ ∀ i, (f C)[i]? = if o ≤ i ∧ i < o + xs.length * k then ys.flatten[i - o]? else C[i]?)
    (hw' : w' = grow (mapBlock (Sort.ahead w n) b f) os) : Sep E w' (row el k (.slice (some ⟨b, o, none⟩) xs.length cap) ys :: l) := by
  subst hw'
  have hsz : (mapBlock (Sort.ahead w n) b f).heap.size = w.heap.size := by simp [mapBlock]
  have hold : ∀ j, j < w.heap.size → j ≠ b → (grow (mapBlock (Sort.ahead w n) b f) os).heap[j]? = w.heap[j]? := fun j hj hjb => by
    rw [heap_grow_old _ _ (by rw [hsz]; exact hj), offBlock hjb]; rfl
  refine H.rep .here ⟨rfl, rfl, ⟨rfl, Nat.le_add_right _ _⟩, by simp [grow, hsz]⟩ fun S hS => ?_
  obtain ⟨hwf, hS⟩ := hS
  rcases hS with ⟨h, _⟩ | ⟨b', o', cap', C, h1, h2, h3, h4, h5, h6, h7⟩
  · cases h
  · cases h1
    have hb : b < w.heap.size := (Array.getElem?_eq_some_iff.1 h2).1
    have hle : xs.length * k ≤ cap * k := Nat.mul_le_mul_right _ h3
    obtain ⟨g1, g2⟩ := hf C (by omega)
    refine ⟨⟨S, ⟨hw, .inr ⟨b, o, cap, f C, by rw [hlen], ?_, by omega, h4, by rw [g1]; exact h5, ?_, h7⟩⟩, fun _ h => .inl h⟩, fun q hq hS => lk_of_heap (hold q.1 hq fun e => hS ((h7 q).2 e))⟩
    · rw [heap_grow_old _ _ (by rw [hsz]; exact hb)]
      exact onBlock (w := Sort.ahead w n) h2
    · apply List.ext_getElem?
      intro i
      rw [List.getElem?_take, List.getElem?_drop, hlen]
      have h8 := g2 (o + i)
      rw [← Array.getElem?_toList] at h8
      rw [h8]
      by_cases hi : i < xs.length * k
      · rw [if_pos hi, if_pos (by omega)]; congr 1; omega
      · rw [if_neg hi, List.getElem?_eq_none (by rw [hw.len, hlen]; omega)]
theorem mem_flat {k : Nat} {xs : List (List Value)} (hw : Wf k xs) {t : Nat} (ht : t < xs.length * k) : ∃ x, xs[t / k]? = some x ∧ t % k < k ∧ xs.flatten[t]? = x[t % k]? := by
  have hk : 0 < k := by rcases Nat.eq_zero_or_pos k with h | h; · subst h; simp at ht
                        · exact h
  have h1 : t / k < xs.length := (Nat.div_lt_iff_lt_mul hk).2 ht
  refine ⟨xs[t / k], List.getElem?_eq_getElem h1, Nat.mod_lt _ hk, ?_⟩
  have := Wf.get (i := t / k) (k := t % k) hw (List.getElem?_eq_getElem h1) (Nat.mod_lt _ hk)
  rwa [Nat.mul_comm, Nat.div_add_mod] at this
section
variable {E w : World} {el : TypeId} {b o cap : Nat} {l : List As}
theorem row_cell {k : Nat} {xs : List (List Value)} (H : Sep E w (row el k (.slice (some ⟨b, o, none⟩) xs.length cap) xs :: l)) : b < w.heap.size ∧ ∀ i u, xs.flatten[i]? = some u → w.cell? ⟨b, o + i, none⟩ = some u ∧ w.frozen? ⟨b, o + i, none⟩ = false := by
  obtain ⟨S, hwf, hS⟩ := H.head
  rcases hS with ⟨h, _⟩ | ⟨b', o', cap', C, h1, h2, h3, h4, h5, h6, h7⟩
  · cases h
  · cases h1
    refine ⟨(Array.getElem?_eq_some_iff.1 h2).1, fun i u hi => ⟨?_, ?_⟩⟩
    · have h8 : i < xs.length * k := by have := (List.getElem?_eq_some_iff.1 hi).1; rwa [hwf.len] at this
      rw [← h6, List.getElem?_take, if_pos h8, List.getElem?_drop, Array.getElem?_toList] at hi
      simp [World.cell?, h2, hi]
    · simp [World.frozen?, h2]
/-- At whole numbers. -/
def encN (x : Int) : List Value := [.int .i64 x]
theorem wf_encN (xs : List Int) : Wf 1 (xs.map encN) := fun x hx => by obtain ⟨a, _, rfl⟩ := List.mem_map.1 hx; exact ⟨rfl, rfl⟩
theorem flat_encN : ∀ xs : List Int, (xs.map encN).flatten = xs.map (Value.int .i64)
  | [] => rfl
  | x :: xs => by rw [List.map_cons, List.flatten_cons, flat_encN xs]; rfl
theorem int_holds {xs : List Int} (H : Sep E w (row el 1 (.slice (some ⟨b, o, none⟩) (xs.map encN).length cap) (xs.map encN) :: l)) : Holds (Value.int .i64) w b o xs.toArray := fun j hj => by
  have hj' : j < xs.length := by simpa using hj
  refine (row_cell H).2 j _ ?_
  rw [flat_encN, List.getElem?_map, List.getElem?_eq_getElem hj']
  simp [hj']
theorem int_laid {xs ys : List Int} {w' : World} {n : Nat} {os : Array Obj} (H : Sep E w (row el 1 (.slice (some ⟨b, o, none⟩) (xs.map encN).length cap) (xs.map encN) :: l)) (hlen : ys.length = xs.length)
    (hw' : w' = grow (putRow (Value.int .i64) (Sort.ahead w n) b o ys.toArray) os) : Sep E w' (row el 1 (.slice (some ⟨b, o, none⟩) (xs.map encN).length cap) (ys.map encN) :: l) := by
  refine row_laid H (by simp [hlen]) (wf_encN ys) (fun C hC => ⟨by simp [putCells], fun i => ?_⟩) hw'
  rw [flat_encN]
  simp only [List.length_map, Nat.mul_one] at hC ⊢
  unfold putCells
  rw [Array.getElem?_mapIdx]
  simp only [List.size_toArray, hlen]
  by_cases hi : o ≤ i ∧ i < o + xs.length
  · rw [if_pos hi]
    have hiC : i < C.size := by omega
    have hiy : i - o < ys.length := by omega
    rw [Array.getElem?_eq_getElem hiC, Option.map_some, if_pos hi, List.getElem?_map, List.getElem?_eq_getElem hiy]
    simp [hiy]
  · rw [if_neg hi]
    cases C[i]? with
    | none => rfl
    | some u => simp only [Option.map_some, if_neg hi]
end
def sortZ (xs : List Int) : List Int := xs.mergeSort fun x y => decide (x ≤ y)
theorem sortZ_len (xs : List Int) : (sortZ xs).length = xs.length := List.length_mergeSort xs
theorem sortZ_perm {xs ys : List Int} (h : xs.Perm ys) : sortZ xs = sortZ ys := by
  have tr : ∀ a b c : Int, decide (a ≤ b) = true → decide (b ≤ c) = true → decide (a ≤ c) = true := fun a b c h1 h2 => by simp only [decide_eq_true_eq] at *; omega
  have to : ∀ a b : Int, (decide (a ≤ b) || decide (b ≤ a)) = true := fun a b => by simp only [Bool.or_eq_true, decide_eq_true_eq]; omega
  refine List.Perm.eq_of_pairwise (le := fun a b => decide (a ≤ b) = true) (fun a b _ _ h1 h2 => ?_) (List.pairwise_mergeSort tr to xs) (List.pairwise_mergeSort tr to ys) (((List.mergeSort_perm xs _).trans h).trans (List.mergeSort_perm ys _).symm)
  simp only [decide_eq_true_eq] at h1 h2
  omega
/-- The library's sort of whole numbers, out of its two contracts. -/
theorem con_sortZ {P : Program} {f : FuncId} {el : TypeId} {E : World} {l m : List As} {v : Value} {xs : List Int}
    (h1 : ∀ (b o cap : Nat) (w : World), Holds (Value.int .i64) w b o xs.toArray → b < w.heap.size → Calls P f #[.slice (some ⟨b, o, none⟩) xs.length cap] w fun e w' => e = .returned (.tuple #[]) ∧ ∃ n os, w' = grow (putRow (Value.int .i64) (Sort.ahead w n) b o (sortZ xs).toArray) os)
    (h0 : ∀ (p : Option Addr) (cap : Nat) (w : World), Calls P f #[.slice p 0 cap] w fun e w' => e = .returned (.tuple #[]) ∧ w' = w)
    (hp : Pick (row el 1 v (xs.map encN)) l m) : Con P f #[v] E l (fun _ : Unit => .tuple #[]) (fun _ => row el 1 v ((sortZ xs).map encN) :: m) := fun w H => by
  have H' := H.pick hp
  obtain ⟨S, hwf, hS⟩ := H'.head
  rcases hS with ⟨rfl, hx, _⟩ | ⟨b, o, cap, C, rfl, h2, _⟩
  · have hx' : xs = [] := by simpa using hx
    subst hx'
    exact (h0 none 0 w).mono fun e w' ⟨he, hw⟩ => ⟨(), he, by subst hw; rw [show sortZ [] = [] by simp [sortZ]]; exact H'⟩
  · have hh := h1 b o cap w (int_holds H') (row_cell H').1
    rw [← List.length_map encN] at hh
    exact hh.mono fun e w' ⟨he, n, os, hw⟩ => ⟨(), he, by have := int_laid H' (sortZ_len xs) hw; rw [List.length_map] at this; simpa [sortZ_len] using this⟩
end Go.Pse
