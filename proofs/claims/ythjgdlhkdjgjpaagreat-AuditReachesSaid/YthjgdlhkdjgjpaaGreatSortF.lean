/-
  Own layer: rows of structs that are sorted by slices.SortFunc: from a row and the comparer's contract to what the library's contract asks, and back.
-/
import Derived.Test.YthjgdlhkdjgjpaaGreatSort
import Derived.Test.YthjgdlhkdjgjpaaGreatJ
import Derived.Shelf.SlSortCmp.NoneTotal
namespace Go.Pse
open Go.RowKit Go.Sort Go.Proofs Go.Shelf

/-- Whatever leaves all old memory as it lay: a world that has grown. -/
theorem grown_of {W w : World} (H : Sep W w [old W]) : ∃ q os, w = grow (W.drewN q) os := by
  obtain ⟨S, h1, _, h3⟩ := H.has .here
  refine ⟨w.drawn - W.drawn, w.heap.extract W.heap.size w.heap.size, ?_⟩
  have hh : w.heap = W.heap ++ w.heap.extract W.heap.size w.heap.size := by
    apply Array.ext_getElem?
    intro i
    by_cases hi : i < W.heap.size
    · rw [Array.getElem?_append_left hi, h3 i hi]
    · rw [Array.getElem?_append_right (by omega), Array.getElem?_extract]
      by_cases hw : i < w.heap.size
      · rw [if_pos (by omega)]; congr 1; omega
      · rw [if_neg (by omega), Array.getElem?_eq_none (by omega)]
  have hd := H.output.2
  obtain ⟨ho⟩ := H.output
  have h1 := H.os
  have h2 := H.tape
  cases w with
  | mk heap tape drawn os output =>
    simp only [grow, World.drewN]
    simp only at hh hd ho h1 h2
    rw [← hh, h1, h2, ho]
    congr 1
    omega
section
variable {α : Type} [Inhabited α] {enc : α → List Value} {k : Nat}
omit [Inhabited α] in
theorem wf_map (hk : ∀ x, (enc x).length = k) (h1 : ∀ x, ∀ v ∈ enc x, v.oneCell' = true) (xs : List α) : Wf k (xs.map enc) := fun x hx => by obtain ⟨a, _, rfl⟩ := List.mem_map.1 hx; exact ⟨hk a, by unfold ones; exact List.all_eq_true.2 (h1 a)⟩
theorem flat_at (hk : ∀ x, (enc x).length = k) (h1 : ∀ x, ∀ v ∈ enc x, v.oneCell' = true) {xs : List α} {t : Nat} (ht : t < xs.length * k) : (xs.map enc).flatten[t]? = some ((flatK enc k xs.toArray)[t]!) := by
  obtain ⟨x, g1, g2, g3⟩ := mem_flat (wf_map hk h1 xs) (t := t) (by simpa using ht)
  rw [List.getElem?_map] at g1
  obtain ⟨a, ga, rfl⟩ := Option.map_eq_some_iff.1 g1
  rw [g3, get_flatK _ _ _ _ (by simpa using ht)]
  have : xs.toArray[t / k]! = a := by simp [ga]
  rw [this, List.getElem?_eq_getElem (by rw [hk]; exact g2), List.getElem!_eq_getElem?_getD, List.getElem?_eq_getElem (by rw [hk]; exact g2)]
  rfl
variable {E w : World} {el : TypeId} {b o cap : Nat} {l : List As}
theorem struct_holds (hk : ∀ x, (enc x).length = k) (h1 : ∀ x, ∀ v ∈ enc x, v.oneCell' = true) {xs : List α} (H : Sep E w (row el k (.slice (some ⟨b, o, none⟩) (xs.map enc).length cap) (xs.map enc) :: l)) : HoldsK enc k w b o xs.toArray := fun j hj => by
  have hj' : j < xs.length * k := by simpa using hj
  exact (row_cell H).2 j _ (flat_at hk h1 hj')
theorem struct_laid (hk : ∀ x, (enc x).length = k) (h1 : ∀ x, ∀ v ∈ enc x, v.oneCell' = true) {xs ys : List α} {w' : World} {n : Nat} {os : Array Obj} (H : Sep E w (row el k (.slice (some ⟨b, o, none⟩) (xs.map enc).length cap) (xs.map enc) :: l)) (hlen : ys.length = xs.length)
    (hw' : w' = sortWorldK enc k w b o n ys.toArray os) : Sep E w' (row el k (.slice (some ⟨b, o, none⟩) (xs.map enc).length cap) (ys.map enc) :: l) := by
  refine row_laid (n := n) (os := os) (f := putCells id o (flatK enc k ys.toArray)) H (by simp [hlen]) (wf_map hk h1 ys) (fun C hC => ⟨by simp [putCells], fun i => ?_⟩) hw'
  simp only [List.length_map] at hC ⊢
  unfold putCells
  rw [Array.getElem?_mapIdx]
  simp only [size_flatK, List.size_toArray, hlen]
  by_cases hi : o ≤ i ∧ i < o + xs.length * k
  · rw [if_pos hi]
    have hiC : i < C.size := by omega
    rw [Array.getElem?_eq_getElem hiC, Option.map_some, if_pos hi, flat_at hk h1 (by rw [hlen]; omega)]
    rfl
  · rw [if_neg hi]
    cases C[i]? with
    | none => rfl
    | some u => simp only [Option.map_some, if_neg hi]
end
def sortF {α : Type} (cf : α → α → Int) (xs : List α) : List α := xs.mergeSort fun x y => !(ltOf cf) y x
section
variable {α : Type} {cf : α → α → Int}
theorem sortF_len (xs : List α) : (sortF cf xs).length = xs.length := List.length_mergeSort xs
theorem sortF_mem {xs : List α} {a : α} : a ∈ sortF cf xs ↔ a ∈ xs := (List.mergeSort_perm xs _).mem_iff
theorem sortF_isPerm (xs : List α) : (sortF cf xs).Perm xs := List.mergeSort_perm xs _
variable (hO : SWO (ltOf cf)) (hT : ∀ x y, (ltOf cf) x y = false → (ltOf cf) y x = false → x = y)
include hO in
theorem sortF_sorted (xs : List α) : (sortF cf xs).Pairwise fun a b => (ltOf cf) b a = false := by
  have tr : ∀ a b c : α, (!(ltOf cf) b a) = true → (!(ltOf cf) c b) = true → (!(ltOf cf) c a) = true := fun a b c h1 h2 => by
    simp only [Bool.not_eq_true'] at *
    exact hO.ntrans c b a h2 h1
  have to : ∀ a b : α, ((!(ltOf cf) b a) || (!(ltOf cf) a b)) = true := fun a b => by
    cases h1 : (ltOf cf) b a <;> cases h2 : (ltOf cf) a b <;> try rfl
    have := hO.trans a b a h2 h1
    rw [hO.irrefl] at this
    cases this
  exact (List.pairwise_mergeSort tr to xs).imp fun h => by simpa using h
include hO hT in
theorem sortF_perm {xs ys : List α} (h : xs.Perm ys) : sortF cf xs = sortF cf ys :=
  List.Perm.eq_of_pairwise (le := fun a b => (ltOf cf) b a = false) (fun a b _ _ h1 h2 => hT a b h2 h1) (sortF_sorted hO xs) (sortF_sorted hO ys) (((sortF_isPerm xs).trans h).trans (sortF_isPerm ys).symm)
end
/-- slices.SortFunc of structs, out of the library's contract. -/
theorem con_sortF {α : Type} [Inhabited α] {P : Program} {ρ : Ren} {el : TypeId} {k : Nat} {enc : α → List Value} {cf : α → α → Int} {g : FuncId} {E : World} {l m : List As} {v : Value} {xs : List α}
    (L : SlLaysF0.n6 P ρ) (aE : ∀ w, (isAgg (ρ.t 24)).run P w = .ok true w) (zE : ∀ w, (Go.sizeOf (ρ.t 24)).run P w = .ok k w)
    (hk : ∀ x, (enc x).length = k) (h1 : ∀ x, ∀ v ∈ enc x, v.oneCell' = true) (hO : SWO (ltOf cf)) (hT : ∀ x y, (ltOf cf) x y = false → (ltOf cf) y x = false → x = y)
    (eg : ∀ args w, (callFunc g args).run P w = .ok (.enter g args) w)
    (hc : ∀ (x y : α) (W : World), Con P g #[.agg (enc x).toArray, .agg (enc y).toArray] W [old W] (fun _ : Unit => .int .i64 (cf x y)) (fun _ => [old W]))
    (hb : xs.length ≤ 1000000) (hp : Pick (row el k v (xs.map enc)) l m) :
    Con P (ρ.f 6) #[v, .func (.func g) #[] #[]] E l (fun _ : Unit => .tuple #[]) (fun _ => row el k v ((sortF cf xs).map enc) :: m) := fun w H => by
  have H' := H.pick hp
  obtain ⟨S, hwf, hS⟩ := H'.head
  rcases hS with ⟨rfl, hx, _⟩ | ⟨b, o, cap, C, rfl, h2, _⟩
  · have hx' : xs = [] := by simpa using hx
    subst hx'
    exact (AnyF.slices_SortFunc_none L none 0 _ w).mono fun e w' ⟨he, hw⟩ => ⟨(), he, by subst hw; rw [show sortF cf [] = [] by simp [sortF]]; exact H'⟩
  · have hcmp : CmpLays P g #[] enc k cf b o xs.toArray.size w := fun m' os dk _ x y => by
      rw [Array.append_empty]
      exact (hc x y _ _ (Sep.old_in _)).mono fun e w' ⟨_, he, hs⟩ => ⟨he, grown_of hs⟩
    have hh := AnyQ.slices_SortFunc_total L k aE zE enc hk h1 cf hO g #[] b o cap xs.toArray w eg hcmp (struct_holds hk h1 H') (row_cell H').1 (by simp; omega) hT
    simp only [List.size_toArray] at hh
    rw [← List.length_map enc] at hh
    exact hh.mono fun e w' ⟨he, n, os, hw⟩ => ⟨(), he, by have := struct_laid hk h1 H' (sortF_len (cf := cf) xs) hw; rw [List.length_map] at this; simpa [sortF_len] using this⟩
theorem sortF_permOn {α : Type} {cf : α → α → Int} (hO : SWO (ltOf cf)) {xs ys : List α} (hT : ∀ x ∈ xs, ∀ y ∈ xs, (ltOf cf) x y = false → (ltOf cf) y x = false → x = y) (h : xs.Perm ys) : sortF cf xs = sortF cf ys :=
  List.Perm.eq_of_pairwise (le := fun a b => (ltOf cf) b a = false) (fun a b ha hb h1 h2 => hT a (sortF_mem.1 ha) b (h.mem_iff.2 (sortF_mem.1 hb)) h2 h1) (sortF_sorted hO xs) (sortF_sorted hO ys) (((sortF_isPerm xs).trans h).trans (sortF_isPerm ys).symm)
theorem sorted_list {α : Type} [Inhabited α] {cf : α → α → Int} (hO : SWO (ltOf cf)) {xs : List α} (hT : ∀ x ∈ xs, ∀ y ∈ xs, (ltOf cf) x y = false → (ltOf cf) y x = false → x = y) {d' : Array α} (hp : PermIn 0 xs.toArray.size xs.toArray d') (hs : SortedIn (ltOf cf) 0 xs.toArray.size d') : d' = (sortF cf xs).toArray := by
  obtain ⟨h1, _, h3⟩ := hp
  have h1' : d'.size = xs.length := by simpa using h1
  have e1 : d'.extract 0 xs.length = d' := by rw [← h1']; simp
  have e2 : (xs.toArray.extract 0 xs.length).toList = xs := by simp
  have h3' : d'.toList.Perm xs := by
    rw [List.size_toArray, e1, e2] at h3; exact h3
  have : d'.toList = sortF cf xs := List.Perm.eq_of_pairwise (le := fun a b => (ltOf cf) b a = false)
    (fun a b ha hb g1 g2 => hT a (h3'.mem_iff.1 ha) b (sortF_mem.1 hb) g2 g1) (by
      rw [List.pairwise_iff_getElem]
      intro i j hi hj hij
      have hi' : i < d'.size := by simpa using hi
      have hj' : j < d'.size := by simpa using hj
      have := hs i j (Nat.zero_le _) hij (by simp; omega)
      rw [getElem!_pos d' j hj', getElem!_pos d' i hi'] at this
      simpa using this) (sortF_sorted hO xs) (h3'.trans (sortF_isPerm xs).symm)
  rw [← this]
/-- The same, where the comparer parts whatever two that the row holds. -/
theorem con_sortO {α : Type} [Inhabited α] {P : Program} {ρ : Ren} {el : TypeId} {k : Nat} {enc : α → List Value} {cf : α → α → Int} {g : FuncId} {E : World} {l m : List As} {v : Value} {xs : List α}
    (L : SlLaysF0.n6 P ρ) (aE : ∀ w, (isAgg (ρ.t 24)).run P w = .ok true w) (zE : ∀ w, (Go.sizeOf (ρ.t 24)).run P w = .ok k w)
    (hk : ∀ x, (enc x).length = k) (h1 : ∀ x, ∀ v ∈ enc x, v.oneCell' = true) (hO : SWO (ltOf cf)) (hT : ∀ x ∈ xs, ∀ y ∈ xs, (ltOf cf) x y = false → (ltOf cf) y x = false → x = y)
    (eg : ∀ args w, (callFunc g args).run P w = .ok (.enter g args) w)
    (hc : ∀ (x y : α) (W : World), Con P g #[.agg (enc x).toArray, .agg (enc y).toArray] W [old W] (fun _ : Unit => .int .i64 (cf x y)) (fun _ => [old W]))
    (hb : xs.length ≤ 1000000) (hp : Pick (row el k v (xs.map enc)) l m) :
    Con P (ρ.f 6) #[v, .func (.func g) #[] #[]] E l (fun _ : Unit => .tuple #[]) (fun _ => row el k v ((sortF cf xs).map enc) :: m) := fun w H => by
  have H' := H.pick hp
  obtain ⟨S, hwf, hS⟩ := H'.head
  rcases hS with ⟨rfl, hx, _⟩ | ⟨b, o, cap, C, rfl, h2, _⟩
  · have hx' : xs = [] := by simpa using hx
    subst hx'
    exact (AnyF.slices_SortFunc_none L none 0 _ w).mono fun e w' ⟨he, hw⟩ => ⟨(), he, by subst hw; rw [show sortF cf [] = [] by simp [sortF]]; exact H'⟩
  · have hcmp : CmpLays P g #[] enc k cf b o xs.toArray.size w := fun m' os dk _ x y => by
      rw [Array.append_empty]
      exact (hc x y _ _ (Sep.old_in _)).mono fun e w' ⟨_, he, hs⟩ => ⟨he, grown_of hs⟩
    have hh := AnyQ.slices_SortFunc L k aE zE enc hk h1 cf hO g #[] b o cap xs.toArray w eg hcmp (struct_holds hk h1 H') (row_cell H').1 (by simp; omega)
    have hh2 : Calls P (ρ.f 6) #[.slice (some ⟨b, o, none⟩) (xs.map enc).length cap, .func (.func g) #[] #[]] w fun e w' => e = .returned (.tuple #[]) ∧ ∃ n os, w' = sortWorldK enc k w b o n (sortF cf xs).toArray os := by
      rw [List.length_map, ← List.size_toArray]
      exact hh.mono fun _ _ ⟨he, d', n, os, hp, hs, hw⟩ => ⟨he, n, os, by rw [hw, sorted_list hO hT hp hs]⟩
    exact hh2.mono fun e w' ⟨he, n, os, hw⟩ => ⟨(), he, by have := struct_laid hk h1 H' (sortF_len (cf := cf) xs) hw; rw [List.length_map] at this; simpa [sortF_len] using this⟩
end Go.Pse
