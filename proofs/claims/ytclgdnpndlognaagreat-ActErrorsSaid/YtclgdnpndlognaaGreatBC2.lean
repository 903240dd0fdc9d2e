/-
  Own texts, merged: C7, C8, SortF, C10, C11, C12, C13, C13b, C16, C17, C20, C21, Ins, C22, C23, C24, C25.
-/
import Derived.Test.YtclgdnpndlognaaGreatBC1
import Derived.Test.YtclgdnpndlognaaGreatBC0
import Derived.Shelf.SlSortCmp.NoneTotal
import Derived.Laws.BitsAllLaws
import Derived.Lib.Overlaps
set_option linter.unusedVariables false
set_option linter.unusedSimpArgs false
set_option maxRecDepth 100000
set_option maxHeartbeats 4000000
namespace Go.Pse
open Go.RowKit Go.Proofs
variable {E : World} {l m : List As} {gf : FuncId} {fng : Func} {caps : Array Value} {N : Nat} {A B : As}
theorem appSeqI {S : List Int → Prop} (hg : Tryz.prog.funcs[gf]? = some fng) (hgn : (fng.name == "runtime.NumGoroutine") = false) (hgb : fng.body.isNone = false) (hN : N ≤ 1000000) (hseq : Gives Tryz.prog gf caps kZ S N E A B) (hp : Picks [A, B] l m) :
    Con Tryz.prog 349 #[.slice none 0 0, .func (.func gf) #[] caps] E l (fun x : Value × List Int => x.1) (fun x => As.pure (S x.2) :: row 3 1 x.1 (x.2.map encN) :: A :: B :: m) := fun w H =>
  appendSeq (sT := 55) (el := 3) (fT := 471) (cells := encN) Tryz.func349 (by kernel_rfl) (by kernel_rfl) (by kernel_rfl) hg hgn hgb Tryz.underlying55 ty3 ty55 rfl (by omega) rfl (fun _ => .one rfl .nil) (fun _ => ⟨rfl, rfl⟩) (by omega) (by omega) hseq w (hp.sep H)
theorem collectI {S : List Int → Prop} (hg : Tryz.prog.funcs[gf]? = some fng) (hgn : (fng.name == "runtime.NumGoroutine") = false) (hgb : fng.body.isNone = false) (hN : N ≤ 1000000) (hseq : Gives Tryz.prog gf caps kZ S N E A B) (hp : Picks [A, B] l m) :
    Con Tryz.prog 342 #[.func (.func gf) #[] caps] E l (fun x : Value × List Int => x.1) (fun x => As.pure (S x.2) :: row 3 1 x.1 (x.2.map encN) :: A :: B :: m) := by
  refine Con.body (n := 5) Tryz.func342 Z Z _ (env_ok 1 Z) <| sr <| ag Z Z <| nx <| mv Z Z <| xo fc349 (A2 Z Z) Z (appSeqI hg hgn hgb hN hseq hp) fun x4 => ag Z Z <| nq <| J_ret ?_
  exact J_return (x4) Tryz.results342 (.tmp Z .nil) Z SU
variable {v : Value}
theorem sortC {xs : List Int} (hp : Pick (row 3 1 v (xs.map encN)) l m) (hb : xs.length ≤ 1000000) : Con Tryz.prog 343 #[v] E l (fun _ : Unit => .tuple #[]) (fun _ => row 3 1 v ((sortZ xs).map encN) :: m) :=
  con_sortZ (fun b o cap w hH hb' => by rw [← sortZ_merge]; exact AnyM.slices_Sort_int Tryz.sortA b o cap xs w hH hb' (by omega)) (fun p cap w => AnyM.slices_Sort_int_none Tryz.sortA p cap w) hp
theorem sortedI {ks : List Int} (hg : Tryz.prog.funcs[gf]? = some fng) (hgn : (fng.name == "runtime.NumGoroutine") = false) (hgb : fng.body.isNone = false) (hN : ks.length ≤ 1000000) (hseq : Gives Tryz.prog gf caps kZ (fun ss => ss.Perm ks) ks.length E A B) (hp : Picks [A, B] l m) :
    Con Tryz.prog 335 #[.func (.func gf) #[] caps] E l (fun v : Value => v) (fun v => row 3 1 v ((sortZ ks).map encN) :: A :: B :: m) := by
  refine Con.body (n := 9) Tryz.func335 Z Z _ (env_ok 1 Z) <| sr <| ag Z Z <| nx <| mv Z Z <| xo fc342 (A1 Z) Z (collectI hg hgn hgb hN hseq hp) fun x5 => J_pure fun hperm => ?_
  obtain ⟨v5, ss⟩ := x5
  dsimp only at hperm ⊢
  refine ag Z Z <| nx <| mv Z Z <| xo fc343 (A1 Z) Z (sortC (xs := ss) PC (by rw [hperm.length_eq]; exact hN)) fun _ => nx <| mv Z Z <| ag Z Z <| nq <| J_ret <| J_rowEq (ys := (sortZ ks).map encN) (by rw [sortZ_perm hperm]) ?_
  exact J_return (v5) Tryz.results335 (.tmp Z .nil) Z SU
end Go.Pse
namespace Go.Pse
open Go.RowKit Go.Sort Go.Proofs Go.Shelf
variable {w : World}
theorem grown_of {W : World} (H : Sep W w [old W]) : ∃ q os, w = grow (W.drewN q) os := by
  obtain ⟨S, h1, _, h3⟩ := H.has .here
  refine ⟨w.drawn - W.drawn, w.heap.extract W.heap.size w.heap.size, ?_⟩
  have hh : w.heap = W.heap ++ w.heap.extract W.heap.size w.heap.size := by
    apply Array.ext_getElem?
    intro i
    by_cases hi : i < W.heap.size
    · rw [Array.getElem?_append_left hi, h3 i hi]
    · rw [Array.getElem?_append_right (by omega), Array.getElem?_extract]
      by_cases hw : i < w.heap.size
      · rw [if_pos (by omega)]; congr 1; omega
      · rw [if_neg (by omega), Array.getElem?_eq_none (by omega)]
  have hd := H.output.2
  obtain ⟨ho⟩ := H.output
  have h1 := H.os
  have h2 := H.tape
  cases w with
  | mk heap tape drawn os output =>
    simp only [grow, World.drewN]
    simp only at hh hd ho h1 h2
    rw [← hh, h1, h2, ho]
    congr 1
    omega
section
variable {α : Type} [Inhabited α] {enc : α → List Value} {k : Nat}
omit [Inhabited α] in
theorem wf_map (hk : ∀ x, (enc x).length = k) (h1 : ∀ x, ∀ v ∈ enc x, v.oneCell' = true) (xs : List α) : Wf k (xs.map enc) := fun x hx => by obtain ⟨a, _, rfl⟩ := List.mem_map.1 hx; exact ⟨hk a, by unfold ones; exact List.all_eq_true.2 (h1 a)⟩
theorem flat_at (hk : ∀ x, (enc x).length = k) (h1 : ∀ x, ∀ v ∈ enc x, v.oneCell' = true) {xs : List α} {t : Nat} (ht : t < xs.length * k) : (xs.map enc).flatten[t]? = some ((flatK enc k xs.toArray)[t]!) := by
  obtain ⟨x, g1, g2, g3⟩ := mem_flat (wf_map hk h1 xs) (t := t) (by simpa using ht)
  rw [List.getElem?_map] at g1
  obtain ⟨a, ga, rfl⟩ := Option.map_eq_some_iff.1 g1
  rw [g3, get_flatK _ _ _ _ (by simpa using ht)]
  have : xs.toArray[t / k]! = a := by simp [ga]
  rw [this, List.getElem?_eq_getElem (by rw [hk]; exact g2), List.getElem!_eq_getElem?_getD, List.getElem?_eq_getElem (by rw [hk]; exact g2)]
  rfl
variable {E w : World} {el : TypeId} {b o cap : Nat} {l : List As}
theorem struct_holds (hk : ∀ x, (enc x).length = k) (h1 : ∀ x, ∀ v ∈ enc x, v.oneCell' = true) {xs : List α} (H : Sep E w (row el k (.slice (some ⟨b, o, none⟩) (xs.map enc).length cap) (xs.map enc) :: l)) : HoldsK enc k w b o xs.toArray := fun j hj => by
  have hj' : j < xs.length * k := by simpa using hj
  exact (row_cell H).2 j _ (flat_at hk h1 hj')
theorem struct_laid (hk : ∀ x, (enc x).length = k) (h1 : ∀ x, ∀ v ∈ enc x, v.oneCell' = true) {xs ys : List α} {w' : World} {n : Nat} {os : Array Obj} (H : Sep E w (row el k (.slice (some ⟨b, o, none⟩) (xs.map enc).length cap) (xs.map enc) :: l)) (hlen : ys.length = xs.length)
    (hw' : w' = sortWorldK enc k w b o n ys.toArray os) : Sep E w' (row el k (.slice (some ⟨b, o, none⟩) (xs.map enc).length cap) (ys.map enc) :: l) := by
  refine row_laid (n := n) (os := os) (f := putCells id o (flatK enc k ys.toArray)) H (by simp [hlen]) (wf_map hk h1 ys) (fun C hC => ⟨by simp [putCells], fun i => ?_⟩) hw'
  simp only [List.length_map] at hC ⊢
  unfold putCells
  rw [Array.getElem?_mapIdx]
  simp only [size_flatK, List.size_toArray, hlen]
  by_cases hi : o ≤ i ∧ i < o + xs.length * k
  · rw [if_pos hi]
    have hiC : i < C.size := by omega
    rw [Array.getElem?_eq_getElem hiC, Option.map_some, if_pos hi, flat_at hk h1 (by rw [hlen]; omega)]
    rfl
  · rw [if_neg hi]
    cases C[i]? with
    | none => rfl
    | some u => simp only [Option.map_some, if_neg hi]
end
def insF {α : Type} (cf : α → α → Int) (x : α) : List α → List α
  | [] => [x]
  | y :: ys => if (ltOf cf) y x = true then y :: insF cf x ys else x :: y :: ys
def sortF {α : Type} (cf : α → α → Int) : List α → List α
  | [] => []
  | x :: xs => insF cf x (sortF cf xs)
section
variable {α : Type} {cf : α → α → Int}
theorem insF_perm (x : α) : ∀ ys : List α, (insF cf x ys).Perm (x :: ys)
  | [] => List.Perm.refl _
  | y :: ys => by
    unfold insF
    split
    · exact ((insF_perm x ys).cons y).trans (List.Perm.swap x y ys)
    · exact List.Perm.refl _
theorem sortF_isPerm : ∀ xs : List α, (sortF cf xs).Perm xs
  | [] => List.Perm.refl _
  | x :: xs => (insF_perm x (sortF cf xs)).trans ((sortF_isPerm xs).cons x)
theorem sortF_len (xs : List α) : (sortF cf xs).length = xs.length := (sortF_isPerm xs).length_eq
theorem sortF_mem {xs : List α} {a : α} : a ∈ sortF cf xs ↔ a ∈ xs := (sortF_isPerm xs).mem_iff
variable (hO : SWO (ltOf cf)) (hT : ∀ x y, (ltOf cf) x y = false → (ltOf cf) y x = false → x = y)
include hO in
theorem insF_sorted (x : α) : ∀ {ys : List α}, (ys.Pairwise fun a b => (ltOf cf) b a = false) → (insF cf x ys).Pairwise fun a b => (ltOf cf) b a = false
  | [], _ => List.pairwise_singleton _ _
  | y :: ys, h => by
    have h1 := List.pairwise_cons.1 h
    unfold insF
    split
    · rename_i hyx
      refine List.pairwise_cons.2 ⟨fun z hz => ?_, insF_sorted x h1.2⟩
      rcases List.mem_cons.1 ((insF_perm x ys).mem_iff.1 hz) with rfl | hz
      · cases h2 : (ltOf cf) z y with
        | false => rfl
        | true =>
          have := hO.trans z y z h2 hyx
          rw [hO.irrefl] at this
          cases this
      · exact h1.1 z hz
    · rename_i hyx
      have hyx' : (ltOf cf) y x = false := by simpa using hyx
      refine List.pairwise_cons.2 ⟨fun z hz => ?_, h⟩
      rcases List.mem_cons.1 hz with rfl | hz
      · exact hyx'
      · exact hO.ntrans z y x (h1.1 z hz) hyx'
include hO in
theorem sortF_sorted : ∀ xs : List α, (sortF cf xs).Pairwise fun a b => (ltOf cf) b a = false
  | [] => List.Pairwise.nil
  | x :: xs => insF_sorted hO x (sortF_sorted xs)
include hO hT in
theorem sortF_merge (xs : List α) : (xs.mergeSort fun x y => !(ltOf cf) y x) = sortF cf xs := by
  have tr : ∀ a b c : α, (!(ltOf cf) b a) = true → (!(ltOf cf) c b) = true → (!(ltOf cf) c a) = true := fun a b c h1 h2 => by
    simp only [Bool.not_eq_true'] at *
    exact hO.ntrans c b a h2 h1
  have to : ∀ a b : α, ((!(ltOf cf) b a) || (!(ltOf cf) a b)) = true := fun a b => by
    cases h1 : (ltOf cf) b a <;> cases h2 : (ltOf cf) a b <;> try rfl
    have := hO.trans a b a h2 h1
    rw [hO.irrefl] at this
    cases this
  exact List.Perm.eq_of_pairwise (le := fun a b => (ltOf cf) b a = false) (fun a b _ _ h1 h2 => hT a b h2 h1) ((List.pairwise_mergeSort tr to xs).imp fun h => by simpa using h) (sortF_sorted hO xs) ((List.mergeSort_perm xs _).trans (sortF_isPerm xs).symm)
include hO hT in
theorem sortF_perm {xs ys : List α} (h : xs.Perm ys) : sortF cf xs = sortF cf ys :=
  List.Perm.eq_of_pairwise (le := fun a b => (ltOf cf) b a = false) (fun a b _ _ h1 h2 => hT a b h2 h1) (sortF_sorted hO xs) (sortF_sorted hO ys) (((sortF_isPerm xs).trans h).trans (sortF_isPerm ys).symm)
end
variable {P : Program} {k : Nat} {g : FuncId} {E : World} {l m : List As} {v : Value}
theorem con_sortF {α : Type} [Inhabited α] {ρ : Ren} {el : TypeId} {enc : α → List Value} {cf : α → α → Int} {xs : List α}
    (L : SlLaysF0.n6 P ρ) (aE : ∀ w, (isAgg (ρ.t 24)).run P w = .ok true w) (zE : ∀ w, (Go.sizeOf (ρ.t 24)).run P w = .ok k w)
    (hk : ∀ x, (enc x).length = k) (h1 : ∀ x, ∀ v ∈ enc x, v.oneCell' = true) (hO : SWO (ltOf cf)) (hT : ∀ x y, (ltOf cf) x y = false → (ltOf cf) y x = false → x = y)
    (eg : ∀ args w, (callFunc g args).run P w = .ok (.enter g args) w)
    (hc : ∀ (x y : α) (W : World), Con P g #[.agg (enc x).toArray, .agg (enc y).toArray] W [old W] (fun _ : Unit => .int .i64 (cf x y)) (fun _ => [old W]))
    (hb : xs.length ≤ 1000000) (hp : Pick (row el k v (xs.map enc)) l m) :
    Con P (ρ.f 6) #[v, .func (.func g) #[] #[]] E l (fun _ : Unit => .tuple #[]) (fun _ => row el k v ((sortF cf xs).map enc) :: m) := fun w H => by
  have H' := H.pick hp
  obtain ⟨S, hwf, hS⟩ := H'.head
  rcases hS with ⟨rfl, hx, _⟩ | ⟨b, o, cap, C, rfl, h2, _⟩
  · have hx' : xs = [] := by simpa using hx
    subst hx'
    exact (AnyF.slices_SortFunc_none L none 0 _ w).mono fun e w' ⟨he, hw⟩ => ⟨(), he, by subst hw; rw [show sortF cf [] = [] by simp [sortF]]; exact H'⟩
  · have hcmp : CmpLays P g #[] enc k cf b o xs.toArray.size w := fun m' os dk _ x y => by
      rw [Array.append_empty]
      exact (hc x y _ _ (Sep.old_in _)).mono fun e w' ⟨_, he, hs⟩ => ⟨he, grown_of hs⟩
    have hh := AnyQ.slices_SortFunc_total L k aE zE enc hk h1 cf hO g #[] b o cap xs.toArray w eg hcmp (struct_holds hk h1 H') (row_cell H').1 (by simp; omega) hT
    simp only [List.size_toArray] at hh
    rw [← List.length_map enc] at hh
    exact hh.mono fun e w' ⟨he, n, os, hw⟩ => ⟨(), he, by rw [sortF_merge hO hT] at hw; have := struct_laid hk h1 H' (sortF_len (cf := cf) xs) hw; rw [List.length_map] at this; simpa [sortF_len] using this⟩
theorem sortF_permOn {α : Type} {cf : α → α → Int} (hO : SWO (ltOf cf)) {xs ys : List α} (hT : ∀ x ∈ xs, ∀ y ∈ xs, (ltOf cf) x y = false → (ltOf cf) y x = false → x = y) (h : xs.Perm ys) : sortF cf xs = sortF cf ys :=
  List.Perm.eq_of_pairwise (le := fun a b => (ltOf cf) b a = false) (fun a b ha hb h1 h2 => hT a (sortF_mem.1 ha) b (h.mem_iff.2 (sortF_mem.1 hb)) h2 h1) (sortF_sorted hO xs) (sortF_sorted hO ys) (((sortF_isPerm xs).trans h).trans (sortF_isPerm ys).symm)
theorem sorted_list {α : Type} [Inhabited α] {cf : α → α → Int} (hO : SWO (ltOf cf)) {xs : List α} (hT : ∀ x ∈ xs, ∀ y ∈ xs, (ltOf cf) x y = false → (ltOf cf) y x = false → x = y) {d' : Array α} (hp : PermIn 0 xs.toArray.size xs.toArray d') (hs : SortedIn (ltOf cf) 0 xs.toArray.size d') : d' = (sortF cf xs).toArray := by
  obtain ⟨h1, _, h3⟩ := hp
  have h1' : d'.size = xs.length := by simpa using h1
  have e1 : d'.extract 0 xs.length = d' := by rw [← h1']; simp
  have e2 : (xs.toArray.extract 0 xs.length).toList = xs := by simp
  have h3' : d'.toList.Perm xs := by
    rw [List.size_toArray, e1, e2] at h3; exact h3
  have : d'.toList = sortF cf xs := List.Perm.eq_of_pairwise (le := fun a b => (ltOf cf) b a = false)
    (fun a b ha hb g1 g2 => hT a (h3'.mem_iff.1 ha) b (sortF_mem.1 hb) g2 g1) (by
      rw [List.pairwise_iff_getElem]
      intro i j hi hj hij
      have hi' : i < d'.size := by simpa using hi
      have hj' : j < d'.size := by simpa using hj
      have := hs i j (Nat.zero_le _) hij (by simp; omega)
      rw [getElem!_pos d' j hj', getElem!_pos d' i hi'] at this
      simpa using this) (sortF_sorted hO xs) (h3'.trans (sortF_isPerm xs).symm)
  rw [← this]
theorem con_sortO {α : Type} [Inhabited α] {ρ : Ren} {el : TypeId} {enc : α → List Value} {cf : α → α → Int} {xs : List α}
    (L : SlLaysF0.n6 P ρ) (aE : ∀ w, (isAgg (ρ.t 24)).run P w = .ok true w) (zE : ∀ w, (Go.sizeOf (ρ.t 24)).run P w = .ok k w)
    (hk : ∀ x, (enc x).length = k) (h1 : ∀ x, ∀ v ∈ enc x, v.oneCell' = true) (hO : SWO (ltOf cf)) (hT : ∀ x ∈ xs, ∀ y ∈ xs, (ltOf cf) x y = false → (ltOf cf) y x = false → x = y)
    (eg : ∀ args w, (callFunc g args).run P w = .ok (.enter g args) w)
    (hc : ∀ (x y : α) (W : World), Con P g #[.agg (enc x).toArray, .agg (enc y).toArray] W [old W] (fun _ : Unit => .int .i64 (cf x y)) (fun _ => [old W]))
    (hb : xs.length ≤ 1000000) (hp : Pick (row el k v (xs.map enc)) l m) :
    Con P (ρ.f 6) #[v, .func (.func g) #[] #[]] E l (fun _ : Unit => .tuple #[]) (fun _ => row el k v ((sortF cf xs).map enc) :: m) := fun w H => by
  have H' := H.pick hp
  obtain ⟨S, hwf, hS⟩ := H'.head
  rcases hS with ⟨rfl, hx, _⟩ | ⟨b, o, cap, C, rfl, h2, _⟩
  · have hx' : xs = [] := by simpa using hx
    subst hx'
    exact (AnyF.slices_SortFunc_none L none 0 _ w).mono fun e w' ⟨he, hw⟩ => ⟨(), he, by subst hw; rw [show sortF cf [] = [] by simp [sortF]]; exact H'⟩
  · have hcmp : CmpLays P g #[] enc k cf b o xs.toArray.size w := fun m' os dk _ x y => by
      rw [Array.append_empty]
      exact (hc x y _ _ (Sep.old_in _)).mono fun e w' ⟨_, he, hs⟩ => ⟨he, grown_of hs⟩
    have hh := AnyQ.slices_SortFunc L k aE zE enc hk h1 cf hO g #[] b o cap xs.toArray w eg hcmp (struct_holds hk h1 H') (row_cell H').1 (by simp; omega)
    have hh2 : Calls P (ρ.f 6) #[.slice (some ⟨b, o, none⟩) (xs.map enc).length cap, .func (.func g) #[] #[]] w fun e w' => e = .returned (.tuple #[]) ∧ ∃ n os, w' = sortWorldK enc k w b o n (sortF cf xs).toArray os := by
      rw [List.length_map, ← List.size_toArray]
      exact hh.mono fun _ _ ⟨he, d', n, os, hp, hs, hw⟩ => ⟨he, n, os, by rw [hw, sorted_list hO hT hp hs]⟩
    exact hh2.mono fun e w' ⟨he, n, os, hw⟩ => ⟨(), he, by have := struct_laid hk h1 H' (sortF_len (cf := cf) xs) hw; rw [List.length_map] at this; simpa [sortF_len] using this⟩
end Go.Pse
namespace Go.Pse
open Go.RowKit Go.Proofs
def cmpZ (x y : Int) : Int := if x < y then -1 else if y < x then 1 else 0
def orZ (x y : Int) : Int := if x = 0 then y else x
def cmpP (a b : Int × Int) : Int := orZ (cmpZ a.1 b.1) (cmpZ a.2 b.2)
variable {E : World} {l : List As} {x : Int}
theorem nanZ :
    Con Tryz.prog 125 #[.int .i64 x] E l (fun _ : Unit => .bool false) (fun _ => l) := by
  refine Con.body (n := 6) Tryz.func125 Z Z _ (env_ok 1 Z) <| sr <| ag Z Z <| nx <| mv Z Z <| mv Z Z <| L_pur Z (p_neq Z Z) <| J_bool (t := 5) (c := false) Z (by simp) <| ag Z Z <| nq <| J_ret ?_
  exact J_return (()) Tryz.results125 (.tmp Z .nil) Z SU
variable {y : Int}
theorem cmpZC :
    Con Tryz.prog 76 #[.int .i64 x, .int .i64 y] E l (fun _ : Unit => .int .i64 (cmpZ x y)) (fun _ => l) := by
  refine Con.body (n := 20) Tryz.func76 Z Z _ (env_ok 2 Z) <| sr <| ag Z Z <| nx <| mv Z Z <| xo fc125 (A1 Z) Z (nanZ) fun _ => ag Z Z <| nx <| mv Z Z <| xo fc125 (A1 Z) Z (nanZ) fun _ => ag Z Z <| nxx <| mv Z Z <| nq <| J_bool (t := 11) (c := false) Z (rfl) <| C_false Z <| J_skip <| Q_then <| J_seq <| sr <| mv Z Z <| nq <| J_bool (t := 13) (c := false) Z (rfl) <| C_false Z <| J_skip <| Q_then <| J_seq <| sr <| mv Z Z <| mv Z Z <| L_pur Z (p_lss Z Z) <| nq <| C_dec Z (fun h16 => ?_) (fun h16 => ?_)
  refine sr <| ag Z Z <| nq <| J_ret <| Q_then_ret <| J_return (()) Tryz.results76 (.tmp Z .nil) ?_ ?_
  · simp only [one, cmpZ]; congr 1; (repeat' split) <;> omega
  · exact SU
  refine J_skip <| Q_then <| J_seq <| sr <| mv Z Z <| mv Z Z <| L_pur Z (p_gtr Z Z) <| nq <| C_dec Z (fun h19 => ?_) (fun h19 => ?_)
  refine sr <| ag Z Z <| nq <| J_ret <| Q_then_ret <| J_return (()) Tryz.results76 (.tmp Z .nil) ?_ ?_
  · simp only [one, cmpZ]; congr 1; (repeat' split) <;> omega
  · exact SU
  refine J_skip <| qx <| ag Z Z <| nq <| J_ret <| J_return (()) Tryz.results76 (.tmp Z .nil) ?_ ?_
  · simp only [one, cmpZ]; congr 1; (repeat' split) <;> omega
  · exact SU
variable {m : List As} {v : Value}
theorem orZC (hp : Pick (row 3 1 v [[.int .i64 x], [.int .i64 y]]) l m) :
    Con Tryz.prog 83 #[v] E l (fun _ : Unit => .int .i64 (orZ x y)) (fun _ => m) := by
  refine Con.body (n := 18) Tryz.func83 Z Z _ (env_ok 1 Z) <| J_pick hp <| J_row .here fun hw a cap hv h1 h2 h3 => ?_
  subst hv
  obtain ⟨b, o, rfl⟩ := h3 (by simp)
  have hm : cap ≤ 9223372036854775807 := h2
  refine sr <| ag Z Z <| nx <| ag Z Z <| nxx <| mv Z Z <| L_pur Z (p_len Z Tryz.underlying55) <| J_slot (t := 7) (v := .int .i64 2) Z Z <| mv Z Z <| nq <| J_block <| J_loop (α := Nat) (fun i => i ≤ 2 ∧ (0 < i → x = 0) ∧ (1 < i → y = 0)) (fun _ => row 3 1 (.slice (some ⟨b, o, none⟩) [[Value.int .i64 x], [Value.int .i64 y]].length cap) [[.int .i64 x], [.int .i64 y]] :: m) (fun i => [(8, .int .i64 (i : Int)), (6, .slice (some ⟨b, o, none⟩) [[Value.int .i64 x], [Value.int .i64 y]].length cap), (7, .int .i64 2), (3, .int .i64 0)]) (fun i => 2 - i) 0 (by omega) SU KE ?_
  intro i hi
  obtain ⟨hi, hx, hy⟩ := hi
  refine sr <| L_pur Z (p_lss Z Z) <| nq <| J_seq <| C_dec Z (fun h9 => ?_) (fun h9 => ?_)
  have hml : [[Value.int .i64 x], [Value.int .i64 y]].length = 2 := rfl
  obtain ⟨c, hcc, hco⟩ : ∃ c : Int, [[Value.int .i64 x], [Value.int .i64 y]][i]? = some [.int .i64 c] ∧ ((i = 0 ∧ c = x) ∨ (i = 1 ∧ c = y)) := by
    have : i = 0 ∨ i = 1 := by omega
    rcases this with rfl | rfl
    · exact ⟨x, rfl, .inl ⟨rfl, rfl⟩⟩
    · exact ⟨y, rfl, .inr ⟨rfl, rfl⟩⟩
  refine J_skip <| Q_then <| J_seq <| J_block <| sr <| L_pur Z (p_indexAddr Z Z Tryz.underlying55 ty3 (by omega) (by omega)) <| L_val Z (v_loadE1 Z ty3 HS (by simpa using hcc)) <| ag Z Z <| nx <| mv Z Z <| mv Z Z <| L_pur Z (p_neq Z Z) <| nq <| C_dec Z (fun h14 => ?_) (fun h14 => ?_)
  refine sr <| mv Z Z <| ag Z Z <| nq <| J_ret <| Q_blk_ret <| Q_then_ret <| Q_then_ret <| Q_blk_ret <| Q_then_ret <| J_return (()) Tryz.results83 (.tmp Z .nil) ?_ ?_
  · have hor : orZ x y = c := by
      unfold orZ
      rcases hco with ⟨h0, rfl⟩ | ⟨h0, rfl⟩
      · exact if_neg h14
      · exact if_pos (hx (by omega))
    rw [hor]; rfl
  · exact SU
  have hc0 : c = 0 := by omega
  refine J_skip <| Q_blk_normal <| qr <| L_pur Z (p_add64 Z Z (by omega)) <| mv Z Z <| nq ?_
  exact J_again (i + 1) (by omega) (by refine ⟨by omega, fun h => ?_, fun h => ?_⟩ <;> rcases hco with ⟨h0, rfl⟩ | ⟨h0, rfl⟩ <;> first | exact hc0 | exact hx (by omega) | omega) SU KE
  have hi2 : i = 2 := by omega
  obtain ⟨hx, hy⟩ : x = 0 ∧ y = 0 := ⟨hx (by omega), hy (by omega)⟩
  subst hx hy
  refine J_exit <| Q_then_exit <| Q_then_exit <| Q_blk_this <| qx <| mv Z Z <| ag Z Z <| nq <| J_ret <| J_return (()) Tryz.results83 (.tmp Z .nil) ?_ ?_
  · simp [one, orZ]
  · exact SU
theorem cmpSl {a b : Int × Int} :
    Con Tryz.prog 79 #[.agg (encI a).toArray, .agg (encI b).toArray] E l (fun _ : Unit => .int .i64 (cmpP a b)) (fun _ => l) := by
  refine Con.body (n := 17) Tryz.func79 Z Z _ (env_ok 2 Z) <| sr <| L_op <| x_box Z Z Z fun b2 => L_op <| x_box Z Z Z fun b3 => ag Z Z <| nq <| J_seq <| J_drawL none mixed <| ip 0 Z Z Z Z (p_fieldAddr Z fa108_0) <| iv 1 Z Z Z Z (fun _ => v_load Z ty3 HS (by exact rfl)) <| ip 2 Z Z Z Z (p_fieldAddr Z fa108_0) <| iv 3 Z Z Z Z (fun _ => v_load Z ty3 HS (by exact rfl)) <| ip 5 Z Z Z Z (p_fieldAddr Z fa108_1) <| iv 6 Z Z Z Z (fun _ => v_load Z ty3 HS (by exact rfl)) <| ip 7 Z Z Z Z (p_fieldAddr Z fa108_1) <| iv 8 Z Z Z Z (fun _ => v_load Z ty3 HS (by exact rfl)) ?_
  refine i1 4 Z <| xc fc76 (A2 Z Z) Z (cmpZC (x := a.1) (y := b.1)) fun _ => i1 9 Z <| xc fc76 (A2 Z Z) Z (cmpZC (x := a.2) (y := b.2)) fun _ => i1 10 Z <| x_lit (vals := [_, _]) Tryz.underlying55 ty3 Z (.cons Z (.cons Z .nil)) (.one Z (.one Z .nil)) (Wf.cons Z Z (Wf.cons Z Z Wf.nil)) Z (by decide) Z Z <| JR fun a15 c15 hw15 hl15 hm15 hz15 => i1 11 Z <| xc fc83 (A1 Z) Z (orZC (x := cmpZ a.1 b.1) (y := cmpZ a.2 b.2) PC) fun _ => ip 12 Z Z Z Z (p_assign Z) <| i0 <| Q_then <| J_ret <| J_return (()) Tryz.results79 (.tmp Z .nil) ?_ ?_
  · rfl
  · exact SU
theorem cmpPg {a b : Int × Int} :
    Con Tryz.prog 82 #[.agg (encI a).toArray, .agg (encI b).toArray] E l (fun _ : Unit => .int .i64 (cmpP a b)) (fun _ => l) := by
  refine Con.body (n := 17) Tryz.func82 Z Z _ (env_ok 2 Z) <| sr <| L_op <| x_box Z Z Z fun b2 => L_op <| x_box Z Z Z fun b3 => ag Z Z <| nq <| J_seq <| J_drawL none mixed <| ip 0 Z Z Z Z (p_fieldAddr Z fa199_0) <| iv 1 Z Z Z Z (fun _ => v_load Z ty3 HS (by exact rfl)) <| ip 2 Z Z Z Z (p_fieldAddr Z fa199_0) <| iv 3 Z Z Z Z (fun _ => v_load Z ty3 HS (by exact rfl)) <| ip 5 Z Z Z Z (p_fieldAddr Z fa199_1) <| iv 6 Z Z Z Z (fun _ => v_load Z ty3 HS (by exact rfl)) <| ip 7 Z Z Z Z (p_fieldAddr Z fa199_1) <| iv 8 Z Z Z Z (fun _ => v_load Z ty3 HS (by exact rfl)) ?_
  refine i1 4 Z <| xc fc76 (A2 Z Z) Z (cmpZC (x := a.1) (y := b.1)) fun _ => i1 9 Z <| xc fc76 (A2 Z Z) Z (cmpZC (x := a.2) (y := b.2)) fun _ => i1 10 Z <| x_lit (vals := [_, _]) Tryz.underlying55 ty3 Z (.cons Z (.cons Z .nil)) (.one Z (.one Z .nil)) (Wf.cons Z Z (Wf.cons Z Z Wf.nil)) Z (by decide) Z Z <| JR fun a15 c15 hw15 hl15 hm15 hz15 => i1 11 Z <| xc fc83 (A1 Z) Z (orZC (x := cmpZ a.1 b.1) (y := cmpZ a.2 b.2) PC) fun _ => ip 12 Z Z Z Z (p_assign Z) <| i0 <| Q_then <| J_ret <| J_return (()) Tryz.results82 (.tmp Z .nil) ?_ ?_
  · rfl
  · exact SU
theorem cmpP_lt (a b : Int × Int) : Go.Proofs.ltOf cmpP a b = (decide (a.1 < b.1) || (decide (a.1 = b.1) && decide (a.2 < b.2))) := by
  have : (cmpP a b < 0) ↔ (a.1 < b.1 ∨ (a.1 = b.1 ∧ a.2 < b.2)) := by
    unfold cmpP orZ cmpZ
    (repeat' split) <;> omega
  unfold Go.Proofs.ltOf
  rw [Bool.eq_iff_iff]
  simp [this]
theorem cmpP_swo : Go.Sort.SWO (Go.Proofs.ltOf cmpP) where
  irrefl x := by rw [cmpP_lt]; simp
  trans x y z h1 h2 := by rw [cmpP_lt] at *; simp at *; omega
  ntrans x y z h1 h2 := by rw [cmpP_lt] at *; simp at *; omega
theorem cmpP_total (x y : Int × Int) (h1 : Go.Proofs.ltOf cmpP x y = false) (h2 : Go.Proofs.ltOf cmpP y x = false) : x = y := by
  rw [cmpP_lt] at h1 h2
  simp at h1 h2
  exact Prod.ext (by omega) (by omega)
def sortP (xs : List (Int × Int)) : List (Int × Int) := sortF cmpP xs
theorem sortP_perm {xs ys : List (Int × Int)} (h : xs.Perm ys) : sortP xs = sortP ys := sortF_perm cmpP_swo cmpP_total h
theorem sortP_len (xs : List (Int × Int)) : (sortP xs).length = xs.length := sortF_len xs
variable {bm : Nat}
theorem keys128 {ps : List ((Int × Int) × SV)} :
  Gives Tryz.prog 128 #[.pointer (some ⟨bm, 0, none⟩)] kI (fun ss => ss.Perm (ps.map Prod.fst)) ps.length E (blk bm 124 [v]) (mapV kI evS v ps) := by
 intro lp L hy
 show Con Tryz.prog 128 #[.func (.yield lp) #[] #[], .pointer (some ⟨bm, 0, none⟩)] E (blk bm 124 [v] :: mapV kI evS v ps :: L []) _ _
 refine Con.body (n := 14) Tryz.func128 Z Z _ (env_ok 2 Z) <| sr <| L_val Z (v_load Z ty124 HS (by exact rfl)) <| L_op <| x_range (ek := kI) (ev := evS) Z Tryz.underlying124 PC Z fun r5 => nq <| J_block <| J_rangeKeyd (ek := kI) (ev := evS) (ps := ps) HS fun hK => J_loop (fun done => Come ps done) (fun done => rangeA kI evS v r5 ps done :: blk bm 124 [v] :: L done) (fun done => [(5, .pointer (some ⟨r5, 0, none⟩)), (0, .func (.yield lp) #[] #[]), (1, .pointer (some ⟨bm, 0, none⟩))]) (fun done => ps.length - done.length) [] Come.nil SU KE ?_
 intro done hC
 refine sr <| L_op (x_next (ek := kI) (ev := evS) Z PC Z (fun k6 u6 hm6 hn6 => ?_) (fun hd6 => ?_))
 refine L_pur Z (p_extract Z Z) <| nq <| J_seq <| C_true Z <| J_skip <| Q_then <| J_block <| sr <| L_val Z (v_entry (ek := kI) (ev := evS) Z HS (by simp) hm6) <| L_pur Z (p_extract Z Z) <| L_op <| x_alloc ty108 Z fun b3 => L_op <| x_store Z Z ty108 Z SM SM RO PT <| nq <| J_seq <| J_regionIn <| LI_op <| J_pur (p_move Z) Z Z Z <| LI_op <| J_val (v_loadA Z ty108 HS CT) Z Z Z <| LI_yield Z Z Z ((hy done k6 _ _ (hC.lt hK hm6 hn6)).drop) <| LI_op <| J_pur (p_not Z) Z Z Z <| LI_nil <| Q_then <| C_false Z <| J_skip <| Q_blk_normal <| Q_then ?_
 exact J_again ((done ++ [k6])) (by have := hC.lt hK hm6 hn6; simp; omega) (hC.step hm6 hn6) SU KE
 refine L_pur Z (p_extract Z Z) <| nq <| J_seq <| C_false Z <| J_exit <| Q_then_exit <| Q_then_exit <| Q_blk_this <| J_endnormal <| J_rangeEnd <| J_pure_in (p := done.Perm (ps.map Prod.fst)) (hC.perm hK hd6) ?_
 exact J_return (done) Tryz.results128 .nil Z SU
variable {ob : Option Nat}
theorem mapsKeys78 :
    Con Tryz.prog 78 #[.map ob] E l (fun b : Nat => .func (.func 128) #[] #[.pointer (some ⟨b, 0, none⟩)]) (fun b => blk b 124 [.map ob] :: l) := by
  refine Con.body (n := 4) Tryz.func78 Z Z _ (env_ok 1 Z) <| sr <| L_op <| x_box Z Z Z fun b1 => ag Z Z <| nx <| L_pur Z (p_makeFunc (.cons Z .nil)) <| ag Z Z <| nq <| J_ret ?_
  exact J_return (b1) Tryz.results78 (.tmp Z .nil) Z SU
variable {gf : FuncId} {fng : Func} {caps : Array Value} {S : List (Int × Int) → Prop} {N : Nat} {A B : As}
theorem slApp (hg : Tryz.prog.funcs[gf]? = some fng) (hgn : (fng.name == "runtime.NumGoroutine") = false) (hgb : fng.body.isNone = false) (hN : N ≤ 1000000) (hseq : Gives Tryz.prog gf caps kI S N E A B) (hp : Picks [A, B] l m) :
    Con Tryz.prog 189 #[.slice none 0 0, .func (.func gf) #[] caps] E l (fun x : Value × List (Int × Int) => x.1) (fun x => As.pure (S x.2) :: row 108 2 x.1 (x.2.map encI) :: A :: B :: m) := fun w H =>
  appendSeqS (sT := 57) (el := 108) (fT := 192) (cells := encI) Tryz.func189 (by kernel_rfl) (by kernel_rfl) (by kernel_rfl) hg hgn hgb Tryz.underlying57 ty108 ty57 rfl (by omega) rfl (fun _ => rfl) (fun _ => ⟨rfl, rfl⟩) (by omega) (by omega) hseq w (hp.sep H)
theorem slCol (hg : Tryz.prog.funcs[gf]? = some fng) (hgn : (fng.name == "runtime.NumGoroutine") = false) (hgb : fng.body.isNone = false) (hN : N ≤ 1000000) (hseq : Gives Tryz.prog gf caps kI S N E A B) (hp : Picks [A, B] l m) :
    Con Tryz.prog 126 #[.func (.func gf) #[] caps] E l (fun x : Value × List (Int × Int) => x.1) (fun x => As.pure (S x.2) :: row 108 2 x.1 (x.2.map encI) :: A :: B :: m) := by
  refine Con.body (n := 5) Tryz.func126 Z Z _ (env_ok 1 Z) <| sr <| ag Z Z <| nx <| mv Z Z <| xo fc189 (A2 Z Z) Z (slApp hg hgn hgb hN hseq hp) fun x4 => ag Z Z <| nq <| J_ret ?_
  exact J_return (x4) Tryz.results126 (.tmp Z .nil) Z SU
theorem slSort {xs : List (Int × Int)} (hp : Pick (row 108 2 v (xs.map encI)) l m) (hb : xs.length ≤ 1000000) : Con Tryz.prog 127 #[v, .func (.func 79) #[] #[]] E l (fun _ : Unit => .tuple #[]) (fun _ => row 108 2 v ((sortP xs).map encI) :: m) :=
  con_sortF Tryz.sortPl (fun w => ty108.isAgg w) (fun w => ty108.sizeOf w) (fun _ => rfl) (fun x v hv => by simp [encI] at hv; rcases hv with rfl | rfl <;> rfl) cmpP_swo cmpP_total (enters_of Tryz.func79 nm79 rfl) (fun x y W => cmpSl) hb hp
theorem slSd {ks : List (Int × Int)} (hg : Tryz.prog.funcs[gf]? = some fng) (hgn : (fng.name == "runtime.NumGoroutine") = false) (hgb : fng.body.isNone = false) (hN : ks.length ≤ 1000000) (hseq : Gives Tryz.prog gf caps kI (fun ss => ss.Perm ks) ks.length E A B) (hp : Picks [A, B] l m) :
    Con Tryz.prog 77 #[.func (.func gf) #[] caps, .func (.func 79) #[] #[]] E l (fun v : Value => v) (fun v => row 108 2 v ((sortP ks).map encI) :: A :: B :: m) := by
  refine Con.body (n := 12) Tryz.func77 Z Z _ (env_ok 2 Z) <| sr <| ag Z Z <| nx <| mv Z Z <| xo fc126 (A1 Z) Z (slCol hg hgn hgb hN hseq hp) fun x7 => J_pure fun hperm => ?_
  obtain ⟨v7, ss⟩ := x7
  dsimp only at hperm ⊢
  refine ag Z Z <| nx <| mv Z Z <| mv Z Z <| xo fc127 (A2 Z Z) Z (slSort (xs := ss) PC (by rw [hperm.length_eq]; exact hN)) fun _ => nx <| mv Z Z <| ag Z Z <| nq <| J_ret <| J_rowEq (ys := (sortP ks).map encI) (by rw [sortP_perm hperm]) ?_
  exact J_return (v7) Tryz.results77 (.tmp Z .nil) Z SU
theorem keys131 {ps : List ((Int × Int) × (Int × Int))} :
  Gives Tryz.prog 131 #[.pointer (some ⟨bm, 0, none⟩)] kI (fun ss => ss.Perm (ps.map Prod.fst)) ps.length E (blk bm 130 [v]) (mapV kI kI v ps) := by
 intro lp L hy
 show Con Tryz.prog 131 #[.func (.yield lp) #[] #[], .pointer (some ⟨bm, 0, none⟩)] E (blk bm 130 [v] :: mapV kI kI v ps :: L []) _ _
 refine Con.body (n := 14) Tryz.func131 Z Z _ (env_ok 2 Z) <| sr <| L_val Z (v_load Z ty130 HS (by exact rfl)) <| L_op <| x_range (ek := kI) (ev := kI) Z Tryz.underlying130 PC Z fun r5 => nq <| J_block <| J_rangeKeyd (ek := kI) (ev := kI) (ps := ps) HS fun hK => J_loop (fun done => Come ps done) (fun done => rangeA kI kI v r5 ps done :: blk bm 130 [v] :: L done) (fun done => [(5, .pointer (some ⟨r5, 0, none⟩)), (0, .func (.yield lp) #[] #[]), (1, .pointer (some ⟨bm, 0, none⟩))]) (fun done => ps.length - done.length) [] Come.nil SU KE ?_
 intro done hC
 refine sr <| L_op (x_next (ek := kI) (ev := kI) Z PC Z (fun k6 u6 hm6 hn6 => ?_) (fun hd6 => ?_))
 refine L_pur Z (p_extract Z Z) <| nq <| J_seq <| C_true Z <| J_skip <| Q_then <| J_block <| sr <| L_val Z (v_entry (ek := kI) (ev := kI) Z HS (by simp) hm6) <| L_pur Z (p_extract Z Z) <| L_op <| x_alloc ty199 Z fun b3 => L_op <| x_store Z Z ty199 Z SM SM RO PT <| nq <| J_seq <| J_regionIn <| LI_op <| J_pur (p_move Z) Z Z Z <| LI_op <| J_val (v_loadA Z ty199 HS CT) Z Z Z <| LI_yield Z Z Z ((hy done k6 _ _ (hC.lt hK hm6 hn6)).drop) <| LI_op <| J_pur (p_not Z) Z Z Z <| LI_nil <| Q_then <| C_false Z <| J_skip <| Q_blk_normal <| Q_then ?_
 exact J_again ((done ++ [k6])) (by have := hC.lt hK hm6 hn6; simp; omega) (hC.step hm6 hn6) SU KE
 refine L_pur Z (p_extract Z Z) <| nq <| J_seq <| C_false Z <| J_exit <| Q_then_exit <| Q_then_exit <| Q_blk_this <| J_endnormal <| J_rangeEnd <| J_pure_in (p := done.Perm (ps.map Prod.fst)) (hC.perm hK hd6) ?_
 exact J_return (done) Tryz.results131 .nil Z SU
theorem mapsKeys81 :
    Con Tryz.prog 81 #[.map ob] E l (fun b : Nat => .func (.func 131) #[] #[.pointer (some ⟨b, 0, none⟩)]) (fun b => blk b 130 [.map ob] :: l) := by
  refine Con.body (n := 4) Tryz.func81 Z Z _ (env_ok 1 Z) <| sr <| L_op <| x_box Z Z Z fun b1 => ag Z Z <| nx <| L_pur Z (p_makeFunc (.cons Z .nil)) <| ag Z Z <| nq <| J_ret ?_
  exact J_return (b1) Tryz.results81 (.tmp Z .nil) Z SU
theorem pgApp (hg : Tryz.prog.funcs[gf]? = some fng) (hgn : (fng.name == "runtime.NumGoroutine") = false) (hgb : fng.body.isNone = false) (hN : N ≤ 1000000) (hseq : Gives Tryz.prog gf caps kI S N E A B) (hp : Picks [A, B] l m) :
    Con Tryz.prog 191 #[.slice none 0 0, .func (.func gf) #[] caps] E l (fun x : Value × List (Int × Int) => x.1) (fun x => As.pure (S x.2) :: row 199 2 x.1 (x.2.map encI) :: A :: B :: m) := fun w H =>
  appendSeqS (sT := 61) (el := 199) (fT := 201) (cells := encI) Tryz.func191 (by kernel_rfl) (by kernel_rfl) (by kernel_rfl) hg hgn hgb Tryz.underlying61 ty199 ty61 rfl (by omega) rfl (fun _ => rfl) (fun _ => ⟨rfl, rfl⟩) (by omega) (by omega) hseq w (hp.sep H)
theorem pgCol (hg : Tryz.prog.funcs[gf]? = some fng) (hgn : (fng.name == "runtime.NumGoroutine") = false) (hgb : fng.body.isNone = false) (hN : N ≤ 1000000) (hseq : Gives Tryz.prog gf caps kI S N E A B) (hp : Picks [A, B] l m) :
    Con Tryz.prog 129 #[.func (.func gf) #[] caps] E l (fun x : Value × List (Int × Int) => x.1) (fun x => As.pure (S x.2) :: row 199 2 x.1 (x.2.map encI) :: A :: B :: m) := by
  refine Con.body (n := 5) Tryz.func129 Z Z _ (env_ok 1 Z) <| sr <| ag Z Z <| nx <| mv Z Z <| xo fc191 (A2 Z Z) Z (pgApp hg hgn hgb hN hseq hp) fun x4 => ag Z Z <| nq <| J_ret ?_
  exact J_return (x4) Tryz.results129 (.tmp Z .nil) Z SU
theorem pgSort {xs : List (Int × Int)} (hp : Pick (row 199 2 v (xs.map encI)) l m) (hb : xs.length ≤ 1000000) : Con Tryz.prog 130 #[v, .func (.func 82) #[] #[]] E l (fun _ : Unit => .tuple #[]) (fun _ => row 199 2 v ((sortP xs).map encI) :: m) :=
  con_sortF Tryz.sortPg (fun w => ty199.isAgg w) (fun w => ty199.sizeOf w) (fun _ => rfl) (fun x v hv => by simp [encI] at hv; rcases hv with rfl | rfl <;> rfl) cmpP_swo cmpP_total (enters_of Tryz.func82 nm82 rfl) (fun x y W => cmpPg) hb hp
theorem pgSd {ks : List (Int × Int)} (hg : Tryz.prog.funcs[gf]? = some fng) (hgn : (fng.name == "runtime.NumGoroutine") = false) (hgb : fng.body.isNone = false) (hN : ks.length ≤ 1000000) (hseq : Gives Tryz.prog gf caps kI (fun ss => ss.Perm ks) ks.length E A B) (hp : Picks [A, B] l m) :
    Con Tryz.prog 80 #[.func (.func gf) #[] caps, .func (.func 82) #[] #[]] E l (fun v : Value => v) (fun v => row 199 2 v ((sortP ks).map encI) :: A :: B :: m) := by
  refine Con.body (n := 12) Tryz.func80 Z Z _ (env_ok 2 Z) <| sr <| ag Z Z <| nx <| mv Z Z <| xo fc129 (A1 Z) Z (pgCol hg hgn hgb hN hseq hp) fun x7 => J_pure fun hperm => ?_
  obtain ⟨v7, ss⟩ := x7
  dsimp only at hperm ⊢
  refine ag Z Z <| nx <| mv Z Z <| mv Z Z <| xo fc130 (A2 Z Z) Z (pgSort (xs := ss) PC (by rw [hperm.length_eq]; exact hN)) fun _ => nx <| mv Z Z <| ag Z Z <| nq <| J_ret <| J_rowEq (ys := (sortP ks).map encI) (by rw [sortP_perm hperm]) ?_
  exact J_return (v7) Tryz.results80 (.tmp Z .nil) Z SU
variable {b o : Nat}
theorem slAllC {ps : List (Place × SV)} (hp : Pick (slA b o ps) l m) (hb : ps.length ≤ 1000000) :
    Con Tryz.prog 29 #[.pointer (some ⟨b, o, none⟩)] E l (fun v : Value => v) (fun v => row 108 2 v ((sortP (ps.map Prod.fst)).map encI) :: slA b o ps :: m) := by
  refine Con.body (n := 9) Tryz.func29 Z Z _ (env_ok 1 Z) <| J_pick hp <| J_slO fun ob _ => sr <| ag Z Z <| nx <| mv Z Z <| nc Z Z <| fa Z Z fa126_0 <| L_val Z (v_loadL Z ty124 HS Z (by exact rfl)) <| xo fc78 (A1 Z) Z (mapsKeys78) fun b7 => xo fc77 (A2 Z Z) Z (slSd (ks := ps.map Prod.fst) (A := blk b7 124 [.map ob]) (B := mapV kI evS (.map ob) ps) Tryz.func128 nm128 bd128 (by simpa using hb) (by simpa using keys128) PX) <| JR fun a8 c8 hw8 hl8 hm8 hz8 => ag Z Z <| nq <| J_ret <| J_slS (b := b) (o := o) (ps := ps) _ PX trivial ?_
  exact J_return (_) Tryz.results29 (.tmp Z .nil) Z SU
theorem spAllC {ps : List (Place × M1)} (hp : Pick (spA b o ps) l m) (hb : ps.length ≤ 1000000) :
    Con Tryz.prog 31 #[.pointer (some ⟨b, o, none⟩)] E l (fun v : Value => v) (fun v => row 199 2 v ((sortP (ps.map Prod.fst)).map encI) :: spA b o ps :: m) := by
  refine Con.body (n := 9) Tryz.func31 Z Z _ (env_ok 1 Z) <| J_pick hp <| J_spO fun ob _ => sr <| ag Z Z <| nx <| mv Z Z <| nc Z Z <| fa Z Z fa132_0 <| L_val Z (v_loadL Z ty130 HS Z (by exact rfl)) <| xo fc81 (A1 Z) Z (mapsKeys81) fun b7 => xo fc80 (A2 Z Z) Z (pgSd (ks := ps.map Prod.fst) (A := blk b7 130 [.map ob]) (B := mapV kI kI (.map ob) ps) Tryz.func131 nm131 bd131 (by simpa using hb) (by simpa using keys131) PX) <| JR fun a8 c8 hw8 hl8 hm8 hz8 => ag Z Z <| nq <| J_ret <| J_spS (b := b) (o := o) (ps := ps) _ PX trivial ?_
  exact J_return (_) Tryz.results31 (.tmp Z .nil) Z SU
theorem slGetC  {ps : List (Place × SV)} (hp : Pick (slA b o ps) l m) {p : Place} :
    Con Tryz.prog 277 #[.pointer (some ⟨b, o, none⟩), .agg (encI p).toArray] E l (fun _ : Unit => .tuple #[.agg (encC ((look ps p).getD s0).1).toArray, .bool (look ps p).isSome]) (fun _ => slA b o ps :: m) := by
  refine Con.body (n := 20) Tryz.func277 Z Z _ (env_ok 2 Z) <| J_pick hp <| J_slO fun ob _ => sr <| L_op <| x_box Z Z Z fun b3 => L_op <| x_alloc ty110 Z fun b4 => ag Z Z <| nq <| J_seq <| J_drawL none mixed <| ip 0 Z Z Z Z (p_move Z) <| ip 1 Z Z Z Z (p_nilCheck Z) <| ip 2 Z Z Z Z (p_fieldAddr Z fa126_0) <| iv 3 Z Z Z Z (fun _ => v_loadL Z ty124 HS Z (by exact rfl)) <| iv 4 Z Z Z Z (fun _ => v_loadA Z ty108 HS CT) <| iv 5 Z Z Z Z (fun _ => v_lookOk (ek := kI) (ev := evS) (a := p) Z Z ky108 Tryz.underlying124 zv195 HS) <| J_slot (t := 14) (v := .tuple #[evS ((look ps p).getD s0), .bool (look ps p).isSome]) Z (by cases look ps p <;> rfl) <| ip 6 Z Z Z Z (p_move Z) <| ip 7 Z Z Z Z (p_extract Z Z) <| ip 8 Z Z Z Z (p_extract Z Z) <| i1 9 Z <| x_alloc ty195 Z fun b6 => i1 10 Z <| x_store Z Z ty195 Z SM SM RO PT ?_
  refine ip 11 Z Z Z Z (p_assign Z) <| i0 <| qx <| fa Z Z fa195_0 <| L_val Z (v_loadA Z ty110 HS CT) <| mv Z Z <| L_op <| x_store Z Z ty110 Z SM SM RO PT <| ag Z Z <| nq <| J_ret <| J_slS (b := b) (o := o) (ps := ps) _ PX trivial <| J_return (()) Tryz.results277 (.cellA Z ty110 HS CT (.tmp Z .nil)) ?_ ?_
  · rfl
  · exact SU
variable {p : Nat} {s : KS} {u : Int}
theorem coBell (hp : Pick (coA p s) l m) :
    Con Tryz.prog 177 #[.pointer (some ⟨p, 0, none⟩), .int .i64 u] E l (fun _ : Unit => .tuple #[.int .i64 ((look s.be u).getD (0, 0)).1, .int .u32 ((look s.be u).getD (0, 0)).2]) (fun _ => coA p s :: m) := by
  refine Con.body (n := 17) Tryz.func177 Z Z _ (env_ok 2 Z) <| J_pick hp <| J_coO fun bn be br bg bt bs bp bl bk _ => sr <| ag Z Z <| ag Z Z <| nx <| mv Z Z <| nc Z Z <| fa Z Z fa153_16 <| L_val Z (v_loadL (o := 13) (i := 7) Z ty151 HS Z (by exact rfl)) <| mv Z Z <| L_val Z (v_look (ek := kZ) (ev := evL) (a := u) Z Z ky3 Tryz.underlying151 zv304 HS) <| J_slot (t := 12) (v := evL ((look s.be u).getD (0, 0))) Z (by cases look s.be u <;> rfl) <| L_op <| x_alloc ty304 Z fun b6 => L_op <| x_store Z Z ty304 Z SM SM RO PT <| nq <| J_seq <| J_drawS mixed (by kernel_rfl) <| sp Z (p_fieldAddr Z fa304_0) <| S_val Z (v_load Z ty3 HS (by exact rfl)) <| sp Z (p_fieldAddr Z fa304_1) <| S_val Z (v_load Z ty22 HS (by exact rfl)) <| sp Z (p_assign Z) <| sp Z (p_assign Z) <| sq <| J_ret <| J_coS (p := p) (s := s) bn be br bg bt bs bp bl bk PX trivial ?_
  refine J_return (()) Tryz.results177 (.tmp Z (.tmp Z .nil)) ?_ ?_
  · rfl
  · exact SU
theorem coNotif (hp : Pick (coA p s) l m) :
    Con Tryz.prog 170 #[.pointer (some ⟨p, 0, none⟩), .int .i64 u] E l (fun _ : Unit => ptrOf (look (ptrs s.nt) u)) (fun _ => coA p s :: m) := by
  refine Con.body (n := 11) Tryz.func170 Z Z _ (env_ok 2 Z) <| J_pick hp <| J_coO fun bn be br bg bt bs bp bl bk _ => sr <| ag Z Z <| nx <| mv Z Z <| nc Z Z <| fa Z Z fa153_9 <| L_val Z (v_loadL (o := 13) (i := 0) Z ty144 HS Z (by exact rfl)) <| mv Z Z <| L_val Z (v_look (ek := kZ) (ev := evA) (a := u) Z Z ky3 Tryz.underlying144 zv223 HS) <| J_slot (t := 10) (v := ptrOf (look (ptrs s.nt) u)) Z (by cases look (ptrs s.nt) u <;> rfl) <| ag Z Z <| nq <| J_ret <| J_coS (p := p) (s := s) bn be br bg bt bs bp bl bk PX trivial ?_
  exact J_return (()) Tryz.results170 (.tmp Z .nil) Z SU
theorem coEp (hp : Pick (coA p s) l m) :
    Con Tryz.prog 60 #[.pointer (some ⟨p, 0, none⟩), .int .i64 u] E l (fun _ : Unit => ptrOf (look (ptrs s.ep) u)) (fun _ => coA p s :: m) := by
  refine Con.body (n := 11) Tryz.func60 Z Z _ (env_ok 2 Z) <| J_pick hp <| J_coO fun bn be br bg bt bs bp bl bk _ => sr <| ag Z Z <| nx <| mv Z Z <| nc Z Z <| fa Z Z fa153_10 <| L_val Z (v_loadL (o := 13) (i := 1) Z ty145 HS Z (by exact rfl)) <| mv Z Z <| L_val Z (v_look (ek := kZ) (ev := evA) (a := u) Z Z ky3 Tryz.underlying145 zv112 HS) <| J_slot (t := 10) (v := ptrOf (look (ptrs s.ep) u)) Z (by cases look (ptrs s.ep) u <;> rfl) <| ag Z Z <| nq <| J_ret <| J_coS (p := p) (s := s) bn be br bg bt bs bp bl bk PX trivial ?_
  exact J_return (()) Tryz.results60 (.tmp Z .nil) Z SU
theorem coReply (hp : Pick (coA p s) l m) :
    Con Tryz.prog 172 #[.pointer (some ⟨p, 0, none⟩), .int .i64 u] E l (fun _ : Unit => ptrOf (look (ptrs s.rp) u)) (fun _ => coA p s :: m) := by
  refine Con.body (n := 11) Tryz.func172 Z Z _ (env_ok 2 Z) <| J_pick hp <| J_coO fun bn be br bg bt bs bp bl bk _ => sr <| ag Z Z <| nx <| mv Z Z <| nc Z Z <| fa Z Z fa153_11 <| L_val Z (v_loadL (o := 13) (i := 2) Z ty146 HS Z (by exact rfl)) <| mv Z Z <| L_val Z (v_look (ek := kZ) (ev := evA) (a := u) Z Z ky3 Tryz.underlying146 zv241 HS) <| J_slot (t := 10) (v := ptrOf (look (ptrs s.rp) u)) Z (by cases look (ptrs s.rp) u <;> rfl) <| ag Z Z <| nq <| J_ret <| J_coS (p := p) (s := s) bn be br bg bt bs bp bl bk PX trivial ?_
  exact J_return (()) Tryz.results172 (.tmp Z .nil) Z SU
variable {mb : Nat} {r : Rg}
theorem rgUnitsC (hp : Pick (rgA b mb r) l m) :
    Con Tryz.prog 325 #[.pointer (some ⟨b, 0, none⟩)] E l (fun _ : Unit => .tuple #[.int .i64 r.sq, .int .i64 r.cq]) (fun _ => rgA b mb r :: m) := by
  refine Con.body (n := 12) Tryz.func325 Z Z _ (env_ok 1 Z) <| J_pick hp <| J_rgO fun v _ => sr <| ag Z Z <| ag Z Z <| nq <| J_seq <| J_drawS mixed (by kernel_rfl) <| sm Z Z <| sp Z (p_nilCheck Z) <| sp Z (p_fieldAddr Z fa217_1) <| S_val Z (v_load Z ty3 HS (by exact rfl)) <| sm Z Z <| sp Z (p_nilCheck Z) <| sp Z (p_fieldAddr Z fa217_2) <| S_val Z (v_load Z ty3 HS (by exact rfl)) <| sp Z (p_assign Z) <| sp Z (p_assign Z) <| sq <| J_ret <| J_rgS (b := b) (mb := mb) (r := r) _ PX trivial <| J_return (()) Tryz.results325 (.tmp Z (.tmp Z .nil)) ?_ ?_
  · rfl
  · exact SU
theorem keys344 {ps : List (Int × Nat)} :
  Gives Tryz.prog 344 #[.pointer (some ⟨bm, 0, none⟩)] kZ (fun ss => ss.Perm (ps.map Prod.fst)) ps.length E (blk bm 147 [v]) (mapV kZ evA v ps) := by
 intro lp L hy
 show Con Tryz.prog 344 #[.func (.yield lp) #[] #[], .pointer (some ⟨bm, 0, none⟩)] E (blk bm 147 [v] :: mapV kZ evA v ps :: L []) _ _
 refine Con.body (n := 14) Tryz.func344 Z Z _ (env_ok 2 Z) <| sr <| L_val Z (v_load Z ty147 HS (by exact rfl)) <| L_op <| x_range (ek := kZ) (ev := evA) Z Tryz.underlying147 PC Z fun r5 => nq <| J_block <| J_rangeKeyd (ek := kZ) (ev := evA) (ps := ps) HS fun hK => J_loop (fun done => Come ps done) (fun done => rangeA kZ evA v r5 ps done :: blk bm 147 [v] :: L done) (fun done => [(5, .pointer (some ⟨r5, 0, none⟩)), (0, .func (.yield lp) #[] #[]), (1, .pointer (some ⟨bm, 0, none⟩))]) (fun done => ps.length - done.length) [] Come.nil SU KE ?_
 intro done hC
 refine sr <| L_op (x_next (ek := kZ) (ev := evA) Z PC Z (fun k6 u6 hm6 hn6 => ?_) (fun hd6 => ?_))
 refine L_pur Z (p_extract Z Z) <| nq <| J_seq <| C_true Z <| J_skip <| Q_then <| J_block <| sr <| L_val Z (v_entry (ek := kZ) (ev := evA) Z HS (by simp) hm6) <| L_pur Z (p_extract Z Z) <| ag Z Z <| nq <| J_seq <| J_regionIn <| LI_op <| J_pur (p_move Z) Z Z Z <| LI_op <| J_pur (p_move Z) Z Z Z <| LI_yield Z Z Z ((hy done k6 _ _ (hC.lt hK hm6 hn6))) <| LI_op <| J_pur (p_not Z) Z Z Z <| LI_nil <| Q_then <| C_false Z <| J_skip <| Q_blk_normal <| Q_then ?_
 exact J_again ((done ++ [k6])) (by have := hC.lt hK hm6 hn6; simp; omega) (hC.step hm6 hn6) SU KE
 refine L_pur Z (p_extract Z Z) <| nq <| J_seq <| C_false Z <| J_exit <| Q_then_exit <| Q_then_exit <| Q_blk_this <| J_endnormal <| J_rangeEnd <| J_pure_in (p := done.Perm (ps.map Prod.fst)) (hC.perm hK hd6) ?_
 exact J_return (done) Tryz.results344 .nil Z SU
theorem mapsKeys336 :
    Con Tryz.prog 336 #[.map ob] E l (fun b : Nat => .func (.func 344) #[] #[.pointer (some ⟨b, 0, none⟩)]) (fun b => blk b 147 [.map ob] :: l) := by
  refine Con.body (n := 4) Tryz.func336 Z Z _ (env_ok 1 Z) <| sr <| L_op <| x_box Z Z Z fun b1 => ag Z Z <| nx <| L_pur Z (p_makeFunc (.cons Z .nil)) <| ag Z Z <| nq <| J_ret ?_
  exact J_return (b1) Tryz.results336 (.tmp Z .nil) Z SU
theorem coRings (hp : Pick (coA p s) l m) (hb : s.rg.length ≤ 1000) :
    Con Tryz.prog 324 #[.pointer (some ⟨p, 0, none⟩)] E l (fun v : Value => v) (fun v => row 3 1 v ((sortZ (s.rg.map Prod.fst)).map encN) :: coA p s :: m) := by
  refine Con.body (n := 9) Tryz.func324 Z Z _ (env_ok 1 Z) <| J_pick hp <| J_coO fun bn be br bg bt bs bp bl bk _ => sr <| ag Z Z <| nx <| mv Z Z <| nc Z Z <| fa Z Z fa153_12 <| L_val Z (v_loadL (o := 13) (i := 3) Z ty147 HS Z (by exact rfl)) <| xo fc336 (A1 Z) Z (mapsKeys336) fun b7 => xo fc335 (A1 Z) Z (sortedI (ks := (ptrs s.rg).map Prod.fst) (A := blk b7 147 [.map (some bg)]) (B := mapV kZ evA (.map (some bg)) (ptrs s.rg)) Tryz.func344 nm344 bd344 (by simp [ptrs]; omega) (by simpa using keys344) PX) <| JE ((sortZ (s.rg.map Prod.fst)).map encN) (by simp [ptrs, Function.comp_def]) fun a8 c8 hw8 hl8 hm8 hz8 => ag Z Z <| nq <| J_ret <| J_coS (p := p) (s := s) bn be br bg bt bs bp bl bk PX trivial ?_
  exact J_return (_) Tryz.results324 (.tmp Z .nil) Z SU
def Owns (s : KS) (r : Int) (x : Option Th) : Prop := match x with
  | none => ∀ q ∈ s.th, q.2.ring ≠ r
  | some t => ∃ k, look s.th k = some t ∧ t.ring = r
theorem coOwner (hp : Pick (coA p s) l m) {r : Int} :
    Con Tryz.prog 117 #[.pointer (some ⟨p, 0, none⟩), .int .i64 r] E l (fun x : Option Th => .tuple #[evT (x.getD t0), .bool x.isSome]) (fun x => As.pure (Owns s r x) :: coA p s :: m) := by
  refine Con.body (n := 23) Tryz.func117 Z Z _ (env_ok 2 Z) <| J_pick hp <| J_coO fun bn be br bg bt bs bp bl bk _ => sr <| L_op <| x_alloc ty213 Z fun b4 => ag Z Z <| nxx <| mv Z Z <| nc Z Z <| fa Z Z fa153_13 <| L_val Z (v_loadL (o := 13) (i := 4) Z ty148 HS Z (by exact rfl)) <| L_op <| x_range (ek := kZ) (ev := evT) Z Tryz.underlying148 PC Z fun r12 => nq <| J_block <| J_rangeKeyd (ek := kZ) (ev := evT) (ps := s.th) HS fun hK => ?_
  refine J_loop (fun done => Come s.th done ∧ ∀ q ∈ s.th, q.1 ∈ done → q.2.ring ≠ r) (fun done => rangeA kZ evT (.map (some bt)) r12 s.th done :: blk b4 213 [.int .i64 0, .int .i64 0, .int .i64 0, .int .i64 0, .int .i64 0, .int .i64 0, .int .i64 0, .int .i64 0] :: fld p 0 [.int .i64 s.ct, .int .i64 s.cu, .int .i64 s.cs, .int .i64 s.cc, .bool s.sh, .pointer (some ⟨s.mb, 0, none⟩)] :: memA s.mb s.mem :: slA p 6 s.sl :: mkA p 7 s.mr :: spA p 8 s.mp :: rqA p 9 s.q :: rtA p 10 s.rt :: tmrA p 11 s.tm :: jnlA p 12 s.jn :: fld p 13 [.map (some bn), .map (some be), .map (some br), .map (some bg), .map (some bt), .map (some bs), .map (some bp), .map (some bl), .map (some bk)] :: mapV kZ evA (.map (some bn)) (ptrs s.nt) :: each ntF s.nt :: mapV kZ evA (.map (some be)) (ptrs s.ep) :: each epF s.ep :: mapV kZ evA (.map (some br)) (ptrs s.rp) :: each rpF s.rp :: mapV kZ evA (.map (some bg)) (ptrs s.rg) :: each (rgF s.mb) s.rg :: mapV kZ evB (.map (some bs)) s.sp :: mapV kZ evZ (.map (some bp)) s.pr :: mapV kZ evL (.map (some bl)) s.be :: mapV kZ evZ (.map (some bk)) s.tk :: fld p 22 [.int .u64 s.now] :: m) (fun done => [(12, .pointer (some ⟨r12, 0, none⟩)), (0, .pointer (some ⟨p, 0, none⟩)), (1, .int .i64 r), (4, .pointer (some ⟨b4, 0, none⟩))]) (fun done => s.th.length - done.length) [] ⟨Come.nil, fun _ _ h => by cases h⟩ SU KE ?_
  intro done hC
  obtain ⟨hC, hN⟩ := hC
  refine sr <| L_op (x_next (ek := kZ) (ev := evT) Z PC Z (fun k13 u13 hm13 hn13 => ?_) (fun hd13 => ?_))
  refine L_pur Z (p_extract Z Z) <| nq <| J_seq <| C_true Z <| J_skip <| Q_then <| J_block <| sr <| L_val Z (v_entry (ek := kZ) (ev := evT) Z HS (by simp) hm13) <| L_pur Z (p_extract Z Z) <| L_op <| x_alloc ty213 Z fun b7 => L_op <| x_store Z Z ty213 Z SM SM RO PT <| nx <| fa Z Z fa213_2 <| L_val Z (v_load Z ty3 HS (by exact rfl)) <| mv Z Z <| L_pur Z (p_eql Z Z) <| nq <| C_dec Z (fun h20 => ?_) (fun h20 => ?_)
  refine sr <| L_val Z (v_loadA Z ty213 HS CT) <| L_op <| x_store Z Z ty213 Z SM SM RO PT <| ag Z Z <| nq <| J_ret <| Q_blk_ret <| Q_then_ret <| Q_blk_ret <| Q_then_ret <| J_pick (A := rangeA kZ evT _ _ _ _) PC <| J_rangeEnd <| J_coS (p := p) (s := s) bn be br bg bt bs bp bl bk PX trivial <| J_pure_in (p := Owns s r (some u13)) (⟨k13, look_mem hK hm13, h20⟩) <| J_return (some u13) Tryz.results117 (.cellA Z ty213 HS CT (.tmp Z .nil)) ?_ ?_
  · rfl
  · exact SU
  refine J_skip <| Q_blk_normal <| Q_then ?_
  exact J_again ((done ++ [k13])) (by have := hC.lt hK hm13 hn13; simp; omega) (⟨hC.step hm13 hn13, fun q hq hd => by
      rcases List.mem_append.1 hd with h | h
      · exact hN q hq h
      · obtain rfl := List.mem_singleton.1 h
        have h1 := look_mem hK hq
        rw [look_mem hK hm13] at h1
        cases h1
        exact h20⟩) SU KE
  refine L_pur Z (p_extract Z Z) <| nq <| J_seq <| C_false Z <| J_exit <| Q_then_exit <| Q_then_exit <| Q_blk_this <| qx <| L_pur Z (bld213 .nil (by repeat constructor)) <| L_op <| x_store Z Z ty213 Z SM SM RO PT <| ag Z Z <| nq <| J_ret <| J_pick (A := rangeA kZ evT _ _ _ _) PC <| J_rangeEnd <| J_coS (p := p) (s := s) bn be br bg bt bs bp bl bk PX trivial <| J_pure_in (p := Owns s r none) (fun q hq => hN q hq (hd13 q hq)) <| J_return (none) Tryz.results117 (.cellA Z ty213 HS CT (.tmp Z .nil)) ?_ ?_
  · rfl
  · exact SU
def qMost (q : List (Int × Int)) : Int := q.foldl (fun m c => if c.2 > m then c.2 else m) (-1)
theorem qMost_take {q : List (Int × Int)} {i : Nat} {c : Int × Int} (h : q[i]? = some c) : qMost (q.take (i + 1)) = if c.2 > qMost (q.take i) then c.2 else qMost (q.take i) := by
  unfold qMost
  rw [List.take_add_one, h, Option.toList_some, List.foldl_append]; rfl
def qSel (q : List (Int × Int)) (c : Int × Int) : Bool := decide (c.2 = qMost q)
def qReady (q : List (Int × Int)) : List Int := (q.filter (qSel q)).map Prod.fst
theorem qReadyC {q : List ID} (hp : Pick (rqA b o q) l m) (hb : q.length ≤ 100000) :
  Con Tryz.prog 35 #[.pointer (some ⟨b, o, none⟩)] E l (fun v : Value => v) (fun v => row 3 1 v ((qReady q).map encN) :: rqA b o q :: m) := by
 refine Con.body (n := 43) Tryz.func35 Z Z _ (env_ok 1 Z) <| J_pick hp <| J_rqO fun v _ => J_row (.there .here) fun hw a cap hv h1 h2 h3 => ?_
 subst hv
 have hm : cap ≤ 9223372036854775807 := h2
 have hml : (q.map encI).length = q.length := List.length_map _
 refine sr <| ag Z Z <| nx <| ag Z Z <| nxx <| mv Z Z <| nc Z Z <| fa Z Z fa135_0 <| L_val Z (v_loadL Z ty133 HS Z (by exact rfl)) <| L_pur Z (p_len Z Tryz.underlying133) <| mv Z Z <| nq <| J_block <| J_loop (α := Nat) (fun i => i ≤ q.length) (fun i => fld b o [.slice a (q.map encI).length cap] :: row 208 2 (.slice a (q.map encI).length cap) (q.map encI) :: m) (fun i => [(14, .int .i64 (i : Int)), (3, .int .i64 (qMost (q.take i))), (12, .slice a (q.map encI).length cap), (13, .int .i64 ((q.map encI).length : Int)), (0, .pointer (some ⟨b, o, none⟩))]) (fun i => q.length - i) 0 (by omega) SU KE ?_
 intro i hi
 refine sr <| L_pur Z (p_lss Z Z) <| nq <| J_seq <| C_dec Z (fun h15 => ?_) (fun h15 => ?_)
 have hlt : i < q.length := by omega
 obtain ⟨bx, ox, rfl⟩ := h3 (by intro h; rw [h] at hml; simp at hml; omega)
 obtain ⟨c, hcc⟩ : ∃ c, q[i]? = some c := ⟨_, List.getElem?_eq_getElem hlt⟩
 refine J_skip <| Q_then <| J_seq <| J_block <| sr <| L_pur Z (p_indexAddr Z Z Tryz.underlying133 ty208 (by omega) (by omega)) <| L_val Z (v_loadE Z ty208 HS (by first | (simp only [Int.toNat_natCast, List.getElem?_map, hcc]; rfl) | (simp only [Int.toNat_natCast, List.getElem?_map, hcd]; rfl) | simp | rfl)) ?_
 refine L_op <| x_alloc ty208 Z fun b5 => L_op <| x_store Z Z ty208 Z SM SM RO PT <| ny <| mv Z Z <| fa Z Z fa208_1 <| L_val Z (v_load Z ty3 HS (by exact rfl)) <| L_pur Z (p_max Z Z) <| J_slot (t := 21) (v := .int .i64 (qMost (q.take (i + 1)))) Z (by rw [qMost_take hcc]) <| ag Z Z <| L_nil <| Q_blk_normal <| qr <| L_pur Z (p_add64 Z Z (by omega)) <| mv Z Z <| nq ?_
 exact J_again (i + 1) (by omega) (by omega) SU KE
 have hiq : i = q.length := by omega
 subst hiq
 refine J_slot (t := 3) (v := .int .i64 (qMost q)) Z (by rw [List.take_length]) <| J_exit <| Q_then_exit <| Q_then_exit <| Q_blk_this <| qx <| ag Z Z <| J_nil (el := 3) (sz := 1) <| nxx <| mv Z Z <| nc Z Z <| fa Z Z fa135_0 <| L_val Z (v_loadL Z ty133 HS Z (by exact rfl)) <| L_pur Z (p_len Z Tryz.underlying133) <| mv Z Z <| nq <| J_block <| J_loop2 (fun k v => k ≤ q.length) (fun k v => row 3 1 v ((((q.take k).filter (qSel q)).map Prod.fst).map encN) :: fld b o [.slice a (q.map encI).length cap] :: row 208 2 (.slice a (q.map encI).length cap) (q.map encI) :: m) (fun k v => [(28, .int .i64 (k : Int)), (6, v), (3, .int .i64 (qMost q)), (26, .slice a (q.map encI).length cap), (27, .int .i64 ((q.map encI).length : Int)), (0, .pointer (some ⟨b, o, none⟩))]) (fun k v => q.length - k) 0 _ (by omega) SU KE ?_
 intro k v hk
 refine sr <| L_pur Z (p_lss Z Z) <| nq <| J_seq <| C_dec Z (fun h29 => ?_) (fun h29 => ?_)
 have hlt : k < q.length := by omega
 obtain ⟨bx, ox, rfl⟩ := h3 (by intro h; rw [h] at hml; simp at hml; omega)
 obtain ⟨c, hcc⟩ : ∃ c, q[k]? = some c := ⟨_, List.getElem?_eq_getElem hlt⟩
 refine J_skip <| Q_then <| J_seq <| J_block <| sr <| L_pur Z (p_indexAddr Z Z Tryz.underlying133 ty208 (by omega) (by omega)) <| L_val Z (v_loadE Z ty208 HS (by first | (simp only [Int.toNat_natCast, List.getElem?_map, hcc]; rfl) | (simp only [Int.toNat_natCast, List.getElem?_map, hcd]; rfl) | simp | rfl)) ?_
 refine L_op <| x_alloc ty208 Z fun b8 => L_op <| x_store Z Z ty208 Z SM SM RO PT <| nx <| fa Z Z fa208_1 <| L_val Z (v_load Z ty3 HS (by exact rfl)) <| mv Z Z <| L_pur Z (p_eql Z Z) <| nq <| C_dec Z (fun h35 => ?_) (fun h35 => ?_)
 refine J_region <| mv Z Z <| fa Z Z fa208_0 <| L_val Z (v_load Z ty3 HS (by exact rfl)) <| L_op <| x_lit (vals := [_]) Tryz.underlying55 ty3 Z (.cons Z .nil) (.one Z .nil) (Wf.cons Z Z Wf.nil) Z (by decide) Z Z <| JR fun a39 c39 hw39 hl39 hm39 hz39 => L_op <| x_app Z Z Tryz.underlying55 ty3 Z Z PC (fun w H => sep_reads HS H) (by have := List.length_filter_le (qSel q) (q.take k); rw [List.length_take] at this; simp only [List.length_map, List.length_cons, List.length_nil]; omega) (by have := List.length_filter_le (qSel q) (q.take k); rw [List.length_take] at this; simp only [List.length_map, List.length_cons, List.length_nil]; omega) Z <| JE (((((q.take (k + 1)).filter (qSel q)).map Prod.fst).map encN)) (by rw [List.take_add_one, hcc]; simp [h35, encN, qSel]) fun a40 c40 hw40 hl40 hm40 hz40 => ag Z Z <| J_nil (el := 3) (sz := 1) ?_
 refine L_nil <| Q_blk_normal <| qr <| L_pur Z (p_add64 Z Z (by omega)) <| mv Z Z <| nq ?_
 
 exact J_again2 (k + 1) _ (by omega) (by omega) SU KE
 refine J_skip <| Q_blk_normal <| qr <| L_pur Z (p_add64 Z Z (by omega)) <| mv Z Z <| nq <| J_pick (A := row 3 1 _ _) PC <| J_rowEq (ys := ((((q.take (k + 1)).filter (qSel q)).map Prod.fst).map encN)) (by rw [List.take_add_one, hcc]; simp [h35, qSel]) ?_
 exact J_again2 (k + 1) _ (by omega) (by omega) SU KE
 have hkq : k = q.length := by omega
 subst hkq
 refine J_pick (A := row 3 1 v ((((q.take q.length).filter (qSel q)).map Prod.fst).map encN)) PC <| J_rowEq (ys := (qReady q).map encN) (by rw [List.take_length]; rfl) <| J_exit <| Q_then_exit <| Q_then_exit <| Q_blk_this <| qx <| mv Z Z <| ag Z Z <| nq <| J_ret <| J_rqS (b := b) (o := o) (xs := q) _ PX trivial ?_
 exact J_return (_) Tryz.results35 (.tmp Z .nil) Z SU
abbrev encZ (z : Int) : List Value := [.int .i64 z]
theorem fr0 : Fr 0 [] ({ tmps := #[], defers := [] } : Act) := ⟨rfl, rfl, fun t v hv => by cases hv⟩
variable {P : Program}
theorem J_con0 {α : Type} {f : FuncId} {args : Array Value} {rv : α → Value} {L : α → List As} (k : Jk E l 0 [] fun _ w => Calls P f args w fun e w' => ∃ x, e = .returned (rv x) ∧ Sep E w' (L x)) : Con P f args E l rv L := fun w H => k w _ H fr0
theorem J_con {α : Type} {Q : Program} {f : FuncId} {args : Array Value} {rv : α → Value} {L L' : α → List As} (hc : Con Q f args E l rv L) (k : ∀ x, Jk E (L x) 0 [] fun _ w' => Sep E w' (L' x)) : Jk E l 0 [] fun _ w => Calls Q f args w fun e w' => ∃ x, e = .returned (rv x) ∧ Sep E w' (L' x) :=
  fun w _ H _ => (hc w H).mono fun e w' ⟨x, he, H'⟩ => ⟨x, he, k x w' _ H' fr0⟩
theorem J_end {l' : List As} (h : Sub l l') : Jk E l 0 [] fun _ w => Sep E w l' := fun _ _ H _ => h.sep H
theorem coSlAll (hp : Pick (coA p s) l m) (hb : s.sl.length ≤ 1000000) :
    Con Tryz.prog 29 #[.pointer (some ⟨p, 6, none⟩)] E l (fun x : Value => x) (fun x => row 108 2 x ((sortP (s.sl.map Prod.fst)).map encI) :: coA p s :: m) := fun w H => by
  refine (?_ : Jk E l 0 [] fun _ w => Calls Tryz.prog 29 #[.pointer (some ⟨p, 6, none⟩)] w fun e w' => ∃ x, e = .returned ((fun x : Value => x) x) ∧ Sep E w' ((fun x : Value => row 108 2 x ((sortP (s.sl.map Prod.fst)).map encI) :: coA p s :: m) x)) w _ H fr0
  refine J_pick hp <| J_coO fun bn be br bg bt bs bp bl bk _ => J_con (slAllC (ps := s.sl) PC hb) fun x => J_coS (p := p) (s := s) bn be br bg bt bs bp bl bk PX trivial ?_
  exact J_end SU
theorem coSpAll (hp : Pick (coA p s) l m) (hb : s.mp.length ≤ 1000000) :
    Con Tryz.prog 31 #[.pointer (some ⟨p, 8, none⟩)] E l (fun x : Value => x) (fun x => row 199 2 x ((sortP (s.mp.map Prod.fst)).map encI) :: coA p s :: m) := fun w H => by
  refine (?_ : Jk E l 0 [] fun _ w => Calls Tryz.prog 31 #[.pointer (some ⟨p, 8, none⟩)] w fun e w' => ∃ x, e = .returned ((fun x : Value => x) x) ∧ Sep E w' ((fun x : Value => row 199 2 x ((sortP (s.mp.map Prod.fst)).map encI) :: coA p s :: m) x)) w _ H fr0
  refine J_pick hp <| J_coO fun bn be br bg bt bs bp bl bk _ => J_con (spAllC (ps := s.mp) PC hb) fun x => J_coS (p := p) (s := s) bn be br bg bt bs bp bl bk PX trivial ?_
  exact J_end SU
theorem coReady (hp : Pick (coA p s) l m) (hb : s.q.length ≤ 100000) :
    Con Tryz.prog 35 #[.pointer (some ⟨p, 9, none⟩)] E l (fun x : Value => x) (fun x => row 3 1 x ((qReady s.q).map encN) :: coA p s :: m) := fun w H => by
  refine (?_ : Jk E l 0 [] fun _ w => Calls Tryz.prog 35 #[.pointer (some ⟨p, 9, none⟩)] w fun e w' => ∃ x, e = .returned ((fun x : Value => x) x) ∧ Sep E w' ((fun x : Value => row 3 1 x ((qReady s.q).map encN) :: coA p s :: m) x)) w _ H fr0
  refine J_pick hp <| J_coO fun bn be br bg bt bs bp bl bk _ => J_con (qReadyC (q := s.q) PC hb) fun x => J_coS (p := p) (s := s) bn be br bg bt bs bp bl bk PX trivial ?_
  exact J_end SU
theorem set_same {α : Type} {xs : List α} {i : Nat} {x : α} (h : xs[i]? = some x) : xs.set i x = xs := by
  obtain ⟨h1, h2⟩ := List.getElem?_eq_some_iff.1 h
  rw [← h2]; exact List.set_getElem_self h1
theorem coUnits (hp : Pick (coA p s) l m) {n bR : Nat} (hg : s.rg[n]? = some (u, bR, r)) :
    Con Tryz.prog 325 #[.pointer (some ⟨bR, 0, none⟩)] E l (fun _ : Unit => .tuple #[.int .i64 r.sq, .int .i64 r.cq]) (fun _ => coA p s :: m) := fun w H => by
  refine (?_ : Jk E l 0 [] fun _ w => Calls Tryz.prog 325 #[.pointer (some ⟨bR, 0, none⟩)] w fun e w' => ∃ x, e = .returned ((fun _ : Unit => .tuple #[.int .i64 r.sq, .int .i64 r.cq]) x) ∧ Sep E w' ((fun _ : Unit => coA p s :: m) x)) w _ H fr0
  refine J_pick hp <| J_coO fun bn be br bg bt bs bp bl bk _ => J_pick (A := each (rgF s.mb) s.rg) PC <| J_eachOut hg <| J_asTo (B := rgA bR s.mb r) (by rfl) <| J_con (rgUnitsC (r := r) PC) fun x => J_pick (A := each (rgF s.mb) _) PC <| J_pick (A := rgA bR s.mb r) PC <| J_asTo (B := rgF s.mb (u, bR, r)) (by rfl) <| J_eachIn (u, bR, r) (List.getElem?_eq_some_iff.1 hg).1 ?_
  refine J_asTo (B := each (rgF s.mb) s.rg) (by rw [set_same hg]) <| J_coS (p := p) (s := s) bn be br bg bt bs bp bl bk PX trivial ?_
  exact J_end SU
theorem J_picks2 {n : Nat} {F : Env} {K : Act → World → Prop} (hp : Picks [A, B] l m) (k : Jk E (A :: B :: m) n F K) : Jk E l n F K := fun w a H hF => k w a (hp.sep H) hF
/-! ### maps.DeleteFunc at pages -/
section
variable {κ υ : Type} [DecidableEq κ] {q : κ → υ → Bool} {ps : List (κ × υ)} {done : List κ} {a : κ} {u : υ}
def cur (q : κ → υ → Bool) (ps : List (κ × υ)) (done : List κ) : List (κ × υ) := ps.filter fun e => !(decide (e.1 ∈ done) && q e.1 e.2)
theorem cur_nil : cur q ps [] = ps := by unfold cur; rw [List.filter_eq_self]; intro e _; simp
theorem cur_mem (h : (a, u) ∈ cur q ps done) : (a, u) ∈ ps := (List.mem_filter.1 h).1
theorem cur_del (hK : Keyd ps) (hm : (a, u) ∈ ps) (hq : q a u = true) : del (cur q ps done) a = cur q ps (done ++ [a]) := by
  unfold del cur
  rw [List.filter_filter]
  refine List.filter_congr fun e he => ?_
  by_cases h : e.1 = a
  · have h2 : e.2 = u := by
      have h3 : look ps e.1 = some e.2 := look_mem hK he
      rw [h, look_mem hK hm] at h3; exact (Option.some.inj h3).symm
    simp [h, h2, hq]
  · simp [h]
theorem cur_keep (hK : Keyd ps) (hm : (a, u) ∈ ps) (hq : q a u = false) : cur q ps done = cur q ps (done ++ [a]) := by
  unfold cur
  refine List.filter_congr fun e he => ?_
  by_cases h : e.1 = a
  · have h2 : e.2 = u := by
      have h3 : look ps e.1 = some e.2 := look_mem hK he
      rw [h, look_mem hK hm] at h3; exact (Option.some.inj h3).symm
    simp [h, h2, hq]
  · simp [h]
theorem cur_end (h : ∀ e ∈ cur q ps done, e.1 ∈ done) : cur q ps done = ps.filter fun e => !q e.1 e.2 := by
  have h' := h
  unfold cur at h' ⊢
  refine List.filter_congr fun e he => ?_
  by_cases hd : e.1 ∈ done
  · simp [hd]
  · exact absurd (h' e (List.mem_filter.2 ⟨he, by simp [hd]⟩)) hd
end
variable {g : FuncId} {fn : Func} {C : As}
theorem mapDel {ps : List ((Int × Int) × (Int × Int))} (hf : Tryz.prog.funcs[g]? = some fn) (hn : (fn.name == "runtime.NumGoroutine") = false) (hb : fn.body.isNone = false) {q : (Int × Int) → (Int × Int) → Bool} (hg : ∀ (l' : List As) (a u : Int × Int), Has C l' → Con Tryz.prog g (#[kI a, kI u] ++ caps) E l' (fun _ : Unit => .bool (q a u)) (fun _ => l')) (hp : Picks [C, mapV kI kI v ps] l m) :
  Con Tryz.prog 351 #[v, .func (.func g) #[] caps] E l (fun _ : Unit => .tuple #[]) (fun _ => C :: mapV kI kI v (ps.filter fun e => !q e.1 e.2) :: m) := by
 refine Con.body (n := 19) Tryz.func351 Z Z _ (env_ok 2 Z) <| J_picks2 hp <| sr <| mv Z Z <| L_op <| x_range (ek := kI) (ev := kI) Z Tryz.underlying130 PC Z fun r7 => nq <| J_block <| J_rangeKeyd (ek := kI) (ev := kI) (ps := ps) HS fun hK => J_pick (A := rangeA kI kI v r7 ps []) PC <| J_asTo (B := rangeA kI kI v r7 (cur q ps []) []) (by rw [cur_nil]) <| J_loop (fun done => Come ps done) (fun done => rangeA kI kI v r7 (cur q ps done) done :: C :: m) (fun done => [(7, .pointer (some ⟨r7, 0, none⟩)), (0, v), (1, .func (.func g) #[] caps)]) (fun done => ps.length - done.length) [] Come.nil SU KE ?_
 intro done hC
 refine sr <| L_op (x_next (ek := kI) (ev := kI) Z PC Z (fun k8 u8 hm8 hn8 => ?_) (fun hd8 => ?_))
 refine L_pur Z (p_extract Z Z) <| nq <| J_seq <| C_true Z <| J_skip <| Q_then <| J_block <| sr <| L_val Z (v_entry (ek := kI) (ev := kI) Z HS (by simp) hm8) <| L_pur Z (p_extract Z Z) <| L_pur Z (p_extract Z Z) <| L_op <| x_alloc ty199 Z fun b4 => L_op <| x_alloc ty204 Z fun b5 => L_op <| x_store Z Z ty199 Z SM SM RO PT <| L_op <| x_store Z Z ty204 Z SM SM RO PT <| nx <| mv Z Z <| L_val Z (v_loadA Z ty199 HS CT) <| L_val Z (v_loadA Z ty204 HS CT) <| L_op <| x_callc Z hf hn hb (.cons Z (.cons Z .nil)) Z (hg _ k8 u8 HS) fun _ => nq <| C_split Z (fun h16 => ?_) (fun h16 => ?_)
 refine J_region <| mv Z Z <| L_val Z (v_loadA Z ty199 HS CT) <| L_op <| x_deleteR (ek := kI) (ev := kI) (a := k8) Z Z ky199 Tryz.underlying130 PC <| J_pick (A := rangeA kI kI v r7 _ _) PC <| J_asTo (B := rangeA kI kI v r7 (cur q ps (done ++ [k8])) (done ++ [k8])) (by rw [cur_del hK (cur_mem hm8) h16]) <| L_nil <| Q_blk_normal <| Q_then ?_
 exact J_again ((done ++ [k8])) (by have := hC.lt hK (cur_mem hm8) hn8; simp; omega) (hC.step (cur_mem hm8) hn8) SU KE
 refine J_pick (A := rangeA kI kI v r7 _ _) PC <| J_asTo (B := rangeA kI kI v r7 (cur q ps (done ++ [k8])) (done ++ [k8])) (by rw [cur_keep hK (cur_mem hm8) h16]) <| J_skip <| Q_blk_normal <| Q_then ?_
 exact J_again ((done ++ [k8])) (by have := hC.lt hK (cur_mem hm8) hn8; simp; omega) (hC.step (cur_mem hm8) hn8) SU KE
 refine L_pur Z (p_extract Z Z) <| nq <| J_seq <| C_false Z <| J_exit <| Q_then_exit <| Q_then_exit <| Q_blk_this <| J_endnormal <| J_pick (A := rangeA kI kI v r7 _ _) PC <| J_rangeEnd <| J_mapEq (qs := ps.filter fun e => !q e.1 e.2) (cur_end hd8) ?_
 exact J_return (()) Tryz.results351 .nil Z SU
theorem clearsC {ps : List (Place × M1)} (hf : Tryz.prog.funcs[g]? = some fn) (hn : (fn.name == "runtime.NumGoroutine") = false) (hb : fn.body.isNone = false) {q : (Int × Int) → (Int × Int) → Bool} (hg : ∀ (l' : List As) (a u : Int × Int), Has C l' → Con Tryz.prog g (#[kI a, kI u] ++ caps) E l' (fun _ : Unit => .bool (q a u)) (fun _ => l')) (hp : Picks [C, spA b o ps] l m) (hz : ps.length ≤ 1000000) :
    Con Tryz.prog 345 #[.pointer (some ⟨b, o, none⟩), .func (.func g) #[] caps] E l (fun _ : Unit => .int .i64 ((ps.length : Int) - (((ps.filter fun e => !q e.1 e.2).length : Nat) : Int))) (fun _ => C :: spA b o (ps.filter fun e => !q e.1 e.2) :: m) := by
  refine Con.body (n := 24) Tryz.func345 Z Z _ (env_ok 2 Z) <| J_picks2 hp <| J_pick (A := spA b o ps) PC <| J_spO fun ob _ => sr <| ag Z Z <| nx <| mv Z Z <| nc Z Z <| fa Z Z fa132_0 <| L_val Z (v_loadL Z ty130 HS Z (by exact rfl)) <| L_val Z (v_lenMap (ek := kI) (ev := kI) Z Tryz.underlying130 HS) <| J_slot (t := 10) (v := .int .i64 (ps.length : Int)) Z Z <| ag Z Z <| nx <| mv Z Z <| nc Z Z <| fa Z Z fa132_0 <| L_val Z (v_loadL Z ty130 HS Z (by exact rfl)) <| mv Z Z <| xo fc351 (A2 Z Z) Z (mapDel (ps := ps) (C := C) hf hn hb hg PX) fun _ => nx <| mv Z Z <| mv Z Z <| nc Z Z <| fa Z Z fa132_0 <| L_val Z (v_loadL Z ty130 HS Z (by exact rfl)) <| L_val Z (v_lenMap (ek := kI) (ev := kI) Z Tryz.underlying130 HS) ?_
  refine L_pur Z (p_sub64 Z Z (by have h1 : (ps.filter fun e : (Int × Int) × (Int × Int) => !q e.1 e.2).length ≤ ps.length := List.length_filter_le _ _; omega)) <| ag Z Z <| nq <| J_ret <| J_spS (b := b) (o := o) (ps := ps.filter fun e => !q e.1 e.2) _ PX trivial <| J_return (()) Tryz.results345 (.tmp Z .nil) ?_ ?_
  · rfl
  · exact SU
variable {z : Int}
theorem dropClo {bz : Nat} {a u : Int × Int} (hh : Has (blk bz 3 [.int .i64 z]) l) :
    Con Tryz.prog 346 #[kI a, kI u, .pointer (some ⟨bz, 0, none⟩)] E l (fun _ : Unit => .bool (decide (u.1 = z))) (fun _ => l) := by
  refine Con.body (n := 10) Tryz.func346 Z Z _ (env_ok 3 Z) <| sr <| L_op <| x_box Z Z Z fun b3 => L_op <| x_box Z Z Z fun b4 => ag Z Z <| nx <| fa Z Z fa204_0 <| L_val Z (v_load Z ty3 HS (by exact rfl)) <| L_val Z (v_load Z ty3 (.there (.there hh)) (by exact rfl)) <| L_pur Z (p_eql Z Z) <| ag Z Z <| nq <| J_ret <| J_return (()) Tryz.results346 (.tmp Z .nil) ?_ ?_
  · rfl
  · exact SU
theorem emptyClo {bz : Nat} {a u : Int × Int} (hh : Has (blk bz 3 [.int .i64 z]) l) :
    Con Tryz.prog 347 #[kI a, kI u, .pointer (some ⟨bz, 0, none⟩)] E l (fun _ : Unit => .bool (decide (a.1 = z))) (fun _ => l) := by
  refine Con.body (n := 10) Tryz.func347 Z Z _ (env_ok 3 Z) <| sr <| L_op <| x_box Z Z Z fun b3 => L_op <| x_box Z Z Z fun b4 => ag Z Z <| nx <| fa Z Z fa199_0 <| L_val Z (v_load Z ty3 HS (by exact rfl)) <| L_val Z (v_load Z ty3 (.there (.there hh)) (by exact rfl)) <| L_pur Z (p_eql Z Z) <| ag Z Z <| nq <| J_ret <| J_return (()) Tryz.results347 (.tmp Z .nil) ?_ ?_
  · rfl
  · exact SU
theorem dropC {ps : List (Place × M1)} (hp : Pick (spA b o ps) l m) (hz : ps.length ≤ 1000000) :
    Con Tryz.prog 338 #[.pointer (some ⟨b, o, none⟩), .int .i64 z] E l (fun n : Int => .int .i64 n) (fun _ => spA b o (ps.filter fun e => !decide (e.2.1 = z)) :: m) := by
  refine Con.body (n := 8) Tryz.func338 Z Z _ (env_ok 2 Z) <| sr <| L_op <| x_box Z Z Z fun b3 => ag Z Z <| nx <| mv Z Z <| L_pur Z (p_makeFunc (.cons Z .nil)) <| xo fc345 (A2 Z Z) Z (clearsC (ps := ps) (C := blk b3 3 [.int .i64 z]) (q := fun _ u => decide (u.1 = z)) Tryz.func346 nm346 bd346 (fun l' a u h => dropClo h) PX hz) fun _ => ag Z Z <| nq <| J_ret <| J_return (((ps.length : Int) - (((ps.filter fun e => !decide (e.2.1 = z)).length : Nat) : Int))) Tryz.results338 (.tmp Z .nil) ?_ ?_
  · rfl
  · exact SU
theorem emptyC {ps : List (Place × M1)} (hp : Pick (spA b o ps) l m) (hz : ps.length ≤ 1000000) :
    Con Tryz.prog 339 #[.pointer (some ⟨b, o, none⟩), .int .i64 z] E l (fun n : Int => .int .i64 n) (fun _ => spA b o (ps.filter fun e => !decide (e.1.1 = z)) :: m) := by
  refine Con.body (n := 8) Tryz.func339 Z Z _ (env_ok 2 Z) <| sr <| L_op <| x_box Z Z Z fun b3 => ag Z Z <| nx <| mv Z Z <| L_pur Z (p_makeFunc (.cons Z .nil)) <| xo fc345 (A2 Z Z) Z (clearsC (ps := ps) (C := blk b3 3 [.int .i64 z]) (q := fun a _ => decide (a.1 = z)) Tryz.func347 nm347 bd347 (fun l' a u h => emptyClo h) PX hz) fun _ => ag Z Z <| nq <| J_ret <| J_return (((ps.length : Int) - (((ps.filter fun e => !decide (e.1.1 = z)).length : Nat) : Int))) Tryz.results339 (.tmp Z .nil) ?_ ?_
  · rfl
  · exact SU
def rem {α : Type} (xs : List (Int × α)) (u : Int) : List (Int × α) := xs.filter fun x => !decide (x.1 = u)
theorem ptrs_rem {α : Type} {xs : List (Int × Nat × α)} : del (ptrs xs) u = ptrs (rem xs u) := by
  unfold del ptrs rem
  rw [List.filter_map]; rfl
def kGone (s : KS) (k u : Int) : KS :=
  if k = 4 then { s with ep := rem s.ep u } else if k = 5 then { s with nt := rem s.nt u } else if k = 7 then { s with rp := rem s.rp u } else if k = 3 then { s with mp := s.mp.filter fun e => !decide (e.2.1 = u) } else if k = 8 then { s with mp := s.mp.filter fun e => !decide (e.1.1 = u), sp := del s.sp u } else if k = 6 then { s with q := qRem s.q u, th := del s.th u } else if k = 9 then { s with rg := rem s.rg u } else s
theorem coGone (hp : Pick (coA p s) l m) {k : Int} (hq : s.q.length ≤ 90000) (hz : s.mp.length ≤ 1000000) :
  Con Tryz.prog 327 #[.pointer (some ⟨p, 0, none⟩), .agg (encI (k, u)).toArray] E l (fun _ : Unit => .tuple #[]) (fun _ => coA p (kGone s k u) :: m) := by
 refine Con.body (n := 74) Tryz.func327 Z Z _ (env_ok 2 Z) <| J_pick hp <| J_coO fun bn be br bg bt bs bp bl bk _ => sr <| L_op <| x_box Z Z Z fun b3 => nx <| fa Z Z fa449_0 <| L_val Z (v_load Z ty3 HS (by exact rfl)) <| nq <| J_block <| sr <| L_pur Z (p_eql Z Z) <| ag Z Z <| nq <| C_dec Z (fun h6 => ?_) (fun h6 => ?_)
 refine J_drawT 6 mixed (by kernel_rfl) <| sm Z Z <| sp Z (p_nilCheck Z) <| sp Z (p_fieldAddr Z fa153_10) <| S_val Z (v_loadL (o := 13) (i := 1) Z ty145 HS Z (by exact rfl)) <| sp Z (p_fieldAddr Z fa449_1) <| S_val Z (v_load Z ty3 HS (by exact rfl)) <| S_nil <| L_op <| x_delete (ek := kZ) (ev := evA) (a := u) Z Z ky3 Tryz.underlying145 PC <| J_pick (A := mapV kZ evA (.map (some be)) _) PC <| J_mapEq (qs := ptrs (rem s.ep u)) ptrs_rem <| J_pick (A := each epF s.ep) PC <| J_eachSub (ys := rem s.ep u) List.filter_sublist <| L_nil <| Q_blk_normal <| J_endnormal <| J_coS (p := p) (s := { s with ep := rem s.ep u }) bn be br bg bt bs bp bl bk PX trivial <| J_asTo (B := coA p (kGone s k u)) (by unfold kGone; rw [if_pos h6]) ?_
 exact J_return (()) Tryz.results327 .nil Z SU
 refine sr <| L_pur Z (p_eql Z Z) <| ag Z Z <| nq <| C_dec Z (fun h14 => ?_) (fun h14 => ?_)
 refine J_drawT 6 mixed (by kernel_rfl) <| sm Z Z <| sp Z (p_nilCheck Z) <| sp Z (p_fieldAddr Z fa153_9) <| S_val Z (v_loadL (o := 13) (i := 0) Z ty144 HS Z (by exact rfl)) <| sp Z (p_fieldAddr Z fa449_1) <| S_val Z (v_load Z ty3 HS (by exact rfl)) <| S_nil <| L_op <| x_delete (ek := kZ) (ev := evA) (a := u) Z Z ky3 Tryz.underlying144 PC <| J_pick (A := mapV kZ evA (.map (some bn)) _) PC <| J_mapEq (qs := ptrs (rem s.nt u)) ptrs_rem <| J_pick (A := each ntF s.nt) PC <| J_eachSub (ys := rem s.nt u) List.filter_sublist <| L_nil <| Q_blk_normal <| J_endnormal <| J_coS (p := p) (s := { s with nt := rem s.nt u }) bn be br bg bt bs bp bl bk PX trivial <| J_asTo (B := coA p (kGone s k u)) (by unfold kGone; rw [if_neg h6, if_pos h14]) ?_
 exact J_return (()) Tryz.results327 .nil Z SU
 refine sr <| L_pur Z (p_eql Z Z) <| ag Z Z <| nq <| C_dec Z (fun h22 => ?_) (fun h22 => ?_)
 refine J_drawT 6 mixed (by kernel_rfl) <| sm Z Z <| sp Z (p_nilCheck Z) <| sp Z (p_fieldAddr Z fa153_11) <| S_val Z (v_loadL (o := 13) (i := 2) Z ty146 HS Z (by exact rfl)) <| sp Z (p_fieldAddr Z fa449_1) <| S_val Z (v_load Z ty3 HS (by exact rfl)) <| S_nil <| L_op <| x_delete (ek := kZ) (ev := evA) (a := u) Z Z ky3 Tryz.underlying146 PC <| J_pick (A := mapV kZ evA (.map (some br)) _) PC <| J_mapEq (qs := ptrs (rem s.rp u)) ptrs_rem <| J_pick (A := each rpF s.rp) PC <| J_eachSub (ys := rem s.rp u) List.filter_sublist <| L_nil <| Q_blk_normal <| J_endnormal <| J_coS (p := p) (s := { s with rp := rem s.rp u }) bn be br bg bt bs bp bl bk PX trivial <| J_asTo (B := coA p (kGone s k u)) (by unfold kGone; rw [if_neg h6, if_neg h14, if_pos h22]) ?_
 exact J_return (()) Tryz.results327 .nil Z SU
 refine sr <| L_pur Z (p_eql Z Z) <| ag Z Z <| nq <| C_dec Z (fun h30 => ?_) (fun h30 => ?_)
 refine J_drawT 5 mixed (by kernel_rfl) <| sm Z Z <| sp Z (p_nilCheck Z) <| sp Z (p_fieldAddr Z fa153_4) <| sp Z (p_fieldAddr Z fa449_1) <| S_val Z (v_load Z ty3 HS (by exact rfl)) <| S_nil <| xo fc338 (A2 Z Z) Z (dropC (ps := s.mp) (z := u) PC hz) fun _ => L_nil <| Q_blk_normal <| J_endnormal <| J_coS (p := p) (s := { s with mp := s.mp.filter fun e => !decide (e.2.1 = u) }) bn be br bg bt bs bp bl bk PX trivial <| J_asTo (B := coA p (kGone s k u)) (by unfold kGone; rw [if_neg h6, if_neg h14, if_neg h22, if_pos h30]) ?_
 exact J_return (()) Tryz.results327 .nil Z SU
 refine sr <| L_pur Z (p_eql Z Z) <| ag Z Z <| nq <| C_dec Z (fun h38 => ?_) (fun h38 => ?_)
 refine J_seq <| J_drawT 5 mixed (by kernel_rfl) <| sm Z Z <| sp Z (p_nilCheck Z) <| sp Z (p_fieldAddr Z fa153_4) <| sp Z (p_fieldAddr Z fa449_1) <| S_val Z (v_load Z ty3 HS (by exact rfl)) <| S_nil <| xo fc339 (A2 Z Z) Z (emptyC (ps := s.mp) (z := u) PC hz) fun _ => nq <| J_drawT 6 mixed (by kernel_rfl) <| sm Z Z <| sp Z (p_nilCheck Z) <| sp Z (p_fieldAddr Z fa153_14) <| S_val Z (v_loadL (o := 13) (i := 5) Z ty149 HS Z (by exact rfl)) <| sp Z (p_fieldAddr Z fa449_1) <| S_val Z (v_load Z ty3 HS (by exact rfl)) <| S_nil <| L_op <| x_delete (ek := kZ) (ev := evB) (a := u) Z Z ky3 Tryz.underlying149 PC <| L_nil <| Q_blk_normal <| J_endnormal <| J_coS (p := p) (s := { s with mp := s.mp.filter fun e => !decide (e.1.1 = u), sp := del s.sp u }) bn be br bg bt bs bp bl bk PX trivial ?_
 refine J_asTo (B := coA p (kGone s k u)) (by unfold kGone; rw [if_neg h6, if_neg h14, if_neg h22, if_neg h30, if_pos h38]) ?_
 exact J_return (()) Tryz.results327 .nil Z SU
 refine sr <| L_pur Z (p_eql Z Z) <| ag Z Z <| nq <| C_dec Z (fun h52 => ?_) (fun h52 => ?_)
 refine J_seq <| J_drawT 5 mixed (by kernel_rfl) <| sm Z Z <| sp Z (p_nilCheck Z) <| sp Z (p_fieldAddr Z fa153_5) <| sp Z (p_fieldAddr Z fa449_1) <| S_val Z (v_load Z ty3 HS (by exact rfl)) <| S_nil <| xo fc291 (A2 Z Z) Z (qRemC (q := s.q) (i := u) PC (by omega)) fun _ => nq <| J_drawT 6 mixed (by kernel_rfl) <| sm Z Z <| sp Z (p_nilCheck Z) <| sp Z (p_fieldAddr Z fa153_13) <| S_val Z (v_loadL (o := 13) (i := 4) Z ty148 HS Z (by exact rfl)) <| sp Z (p_fieldAddr Z fa449_1) <| S_val Z (v_load Z ty3 HS (by exact rfl)) <| S_nil <| L_op <| x_delete (ek := kZ) (ev := evT) (a := u) Z Z ky3 Tryz.underlying148 PC <| L_nil <| Q_blk_normal <| J_endnormal <| J_coS (p := p) (s := { s with q := qRem s.q u, th := del s.th u }) bn be br bg bt bs bp bl bk PX trivial ?_
 refine J_asTo (B := coA p (kGone s k u)) (by unfold kGone; rw [if_neg h6, if_neg h14, if_neg h22, if_neg h30, if_neg h38, if_pos h52]) ?_
 exact J_return (()) Tryz.results327 .nil Z SU
 refine sr <| L_pur Z (p_eql Z Z) <| ag Z Z <| nq <| C_dec Z (fun h66 => ?_) (fun h66 => ?_)
 refine J_drawT 6 mixed (by kernel_rfl) <| sm Z Z <| sp Z (p_nilCheck Z) <| sp Z (p_fieldAddr Z fa153_12) <| S_val Z (v_loadL (o := 13) (i := 3) Z ty147 HS Z (by exact rfl)) <| sp Z (p_fieldAddr Z fa449_1) <| S_val Z (v_load Z ty3 HS (by exact rfl)) <| S_nil <| L_op <| x_delete (ek := kZ) (ev := evA) (a := u) Z Z ky3 Tryz.underlying147 PC <| J_pick (A := mapV kZ evA (.map (some bg)) _) PC <| J_mapEq (qs := ptrs (rem s.rg u)) ptrs_rem <| J_pick (A := each (rgF s.mb) s.rg) PC <| J_eachSub (ys := rem s.rg u) List.filter_sublist <| L_nil <| Q_blk_normal <| J_endnormal <| J_coS (p := p) (s := { s with rg := rem s.rg u }) bn be br bg bt bs bp bl bk PX trivial <| J_asTo (B := coA p (kGone s k u)) (by unfold kGone; rw [if_neg h6, if_neg h14, if_neg h22, if_neg h30, if_neg h38, if_neg h52, if_pos h66]) ?_
 exact J_return (()) Tryz.results327 .nil Z SU
 refine J_skip <| Q_blk_normal <| J_endnormal <| J_coS (p := p) (s := s) bn be br bg bt bs bp bl bk PX trivial <| J_asTo (B := coA p (kGone s k u)) (by unfold kGone; rw [if_neg h6, if_neg h14, if_neg h22, if_neg h30, if_neg h38, if_neg h52, if_neg h66]) ?_
 exact J_return (()) Tryz.results327 .nil Z SU
/-! ### plain: requests -/
def cmpQ (a b : Rq) : Int := cmpZ a.id.2 b.id.2
theorem cmpQ_lt (a b : Rq) : Go.Proofs.ltOf cmpQ a b = decide (a.id.2 < b.id.2) := by
  have : (cmpQ a b < 0) ↔ a.id.2 < b.id.2 := by
    unfold cmpQ cmpZ
    (repeat' split) <;> omega
  unfold Go.Proofs.ltOf
  rw [Bool.eq_iff_iff]
  simp [this]
theorem cmpQ_swo : Go.Sort.SWO (Go.Proofs.ltOf cmpQ) where
  irrefl x := by rw [cmpQ_lt]; simp
  trans x y z h1 h2 := by rw [cmpQ_lt] at *; simp at *; omega
  ntrans x y z h1 h2 := by rw [cmpQ_lt] at *; simp at *; omega
instance : Inhabited Rq := ⟨⟨(0, 0), ⟨0, 0, 0, 0, 0, 0, 0, 0⟩, 0, false, false⟩⟩
def q00 : Rq := ⟨(0, 0), ⟨0, 0, 0, 0, 0, 0, 0, 0⟩, 0, false, false⟩
def Ids (ps : List (ID × Rq)) : Prop := ∀ e ∈ ps, e.2.id = e.1
def ofRing (ps : List (ID × Rq)) (g : Int) : List Rq := (ps.filter fun e => decide (e.1.1 = g)).map Prod.snd
def ofQ (ps : List (ID × Rq)) (g : Int) : List Rq := sortF cmpQ (ofRing ps g)
theorem ofQ_len (ps : List (ID × Rq)) (g : Int) : (ofQ ps g).length ≤ ps.length := by
  unfold ofQ ofRing; rw [sortF_len, List.length_map]; exact List.length_filter_le _ _
variable {ps : List (ID × Rq)}
theorem ofRing_mem {g : Int} {x : Rq} : x ∈ ofRing ps g ↔ ∃ k, (k, x) ∈ ps ∧ k.1 = g := by
  unfold ofRing
  rw [List.mem_map]
  constructor
  · rintro ⟨e, he, rfl⟩
    have := List.mem_filter.1 he
    exact ⟨e.1, this.1, by simpa using this.2⟩
  · rintro ⟨k, h1, h2⟩
    exact ⟨(k, x), List.mem_filter.2 ⟨h1, by simpa using h2⟩, rfl⟩
theorem ofQ_mem {g : Int} {x : Rq} : x ∈ ofQ ps g ↔ ∃ k, (k, x) ∈ ps ∧ k.1 = g := by unfold ofQ; rw [sortF_mem, ofRing_mem]
theorem ofQ_parts {g : Int} (hK : Keyd ps) (hI : Ids ps) {xs : List Rq} (hx : xs.Perm (ofRing ps g)) : ∀ x ∈ xs, ∀ y ∈ xs, Go.Proofs.ltOf cmpQ x y = false → Go.Proofs.ltOf cmpQ y x = false → x = y := fun x h1 y h2 h3 h4 => by
  obtain ⟨k1, a1, b1⟩ := ofRing_mem.1 (hx.mem_iff.1 h1)
  obtain ⟨k2, a2, b2⟩ := ofRing_mem.1 (hx.mem_iff.1 h2)
  rw [cmpQ_lt] at h3 h4
  have e1 : x.id = k1 := hI _ a1
  have e2 : y.id = k2 := hI _ a2
  have : k1 = k2 := Prod.ext (b1.trans b2.symm) (by rw [← e1, ← e2]; simp at h3 h4; omega)
  subst this
  have g1 := look_mem hK a1
  rw [look_mem hK a2] at g1
  exact (Option.some.inj g1).symm
def comeQ (ps : List (ID × Rq)) (g : Int) (done : List ID) : List Rq := (done.filter fun k => decide (k.1 = g)).filterMap (look ps)
variable {done : List ID}
theorem comeQ_on {g : Int} {k : ID} {u : Rq} (hK : Keyd ps) (hm : (k, u) ∈ ps) (h : k.1 = g) : comeQ ps g (done ++ [k]) = comeQ ps g done ++ [u] := by
  unfold comeQ
  rw [List.filter_append, List.filterMap_append]
  congr 1
  simp [h, look_mem hK hm]
theorem comeQ_off {g : Int} {k : ID} (h : ¬ k.1 = g) : comeQ ps g (done ++ [k]) = comeQ ps g done := by
  unfold comeQ
  rw [List.filter_append, List.filterMap_append]
  simp [h]
theorem comeQ_len (ps : List (ID × Rq)) (g : Int) (done : List ID) : (comeQ ps g done).length ≤ done.length := Nat.le_trans (List.length_filterMap_le _ _) (List.length_filter_le _ _)
theorem filterMap_look {ps : List (ID × Rq)} (hK : Keyd ps) (g : Int) : ∀ qs : List (ID × Rq), (∀ e ∈ qs, e ∈ ps) → ((qs.map Prod.fst).filter fun k => decide (k.1 = g)).filterMap (look ps) = (qs.filter fun e => decide (e.1.1 = g)).map Prod.snd
  | [], _ => rfl
  | e :: qs, h => by
    have h1 := look_mem hK (h e (List.mem_cons_self))
    have h2 := filterMap_look hK g qs fun e he => h e (List.mem_cons_of_mem _ he)
    rw [List.map_cons, List.filter_cons, List.filter_cons]
    by_cases hg : e.1.1 = g
    · rw [if_pos (by simpa using hg), if_pos (by simpa using hg), List.filterMap_cons_some h1, List.map_cons, h2]
    · rw [if_neg (by simpa using hg), if_neg (by simpa using hg), h2]
theorem comeQ_perm {g : Int} (hK : Keyd ps) (h : done.Perm (ps.map Prod.fst)) : (comeQ ps g done).Perm (ofRing ps g) := by
  unfold comeQ ofRing
  rw [← filterMap_look hK g ps fun _ h => h]
  exact (h.filter _).filterMap _
def addOk (ps : List (ID × Rq)) (q : Rq) : Bool := !(look ps q.id).isSome && decide ((ofQ ps q.id.1).length < 16)
def addQ (ps : List (ID × Rq)) (q : Rq) : List (ID × Rq) := if addOk ps q then ins ps q.id q else ps
def afterQ (ps : List (ID × Rq)) (i : ID) : Option Rq := (ofQ ps i.1).find? fun r => decide (r.prev = i.2)
theorem Ids.ins {ps : List (ID × Rq)} (h : Ids ps) (q : Rq) : Ids (ins ps q.id q) := fun e he => by
  unfold Go.Pse.ins at he
  split at he
  · obtain ⟨x, hx, rfl⟩ := List.mem_map.1 he
    split
    · rfl
    · exact h x hx
  · rcases List.mem_append.1 he with h1 | h1
    · exact h e h1
    · rw [List.mem_singleton.1 h1]
theorem Ids.add (h : Ids ps) (q : Rq) : Ids (addQ ps q) := by unfold addQ; split <;> first | exact h.ins q | exact h
theorem Ids.del (h : Ids ps) (i : ID) : Ids (del ps i) := fun e he => h e (List.mem_filter.1 he).1
theorem Ids.nil : Ids [] := fun _ h => by cases h
variable {i : ID}
theorem rtHas  (hp : Pick (rtA b o ps) l m) :
    Con Tryz.prog 108 #[.pointer (some ⟨b, o, none⟩), .agg (encI i).toArray] E l (fun _ : Unit => .bool (look ps i).isSome) (fun _ => rtA b o ps :: m) := by
  refine Con.body (n := 17) Tryz.func108 Z Z _ (env_ok 2 Z) <| J_pick hp <| J_rtO fun ob _ => sr <| L_op <| x_box Z Z Z fun b3 => ag Z Z <| nq <| J_seq <| J_drawL none mixed <| ip 0 Z Z Z Z (p_move Z) <| ip 1 Z Z Z Z (p_nilCheck Z) <| ip 2 Z Z Z Z (p_fieldAddr Z fa138_0) <| iv 3 Z Z Z Z (fun _ => v_loadL Z ty136 HS Z (by exact rfl)) <| iv 4 Z Z Z Z (fun _ => v_loadA Z ty36 HS CT) <| iv 5 Z Z Z Z (fun _ => v_lookOk (ek := kI) (ev := evQ) (a := i) Z Z ky36 Tryz.underlying136 zv122 HS) <| J_slot (t := 13) (v := .tuple #[evQ ((look ps i).getD q00), .bool (look ps i).isSome]) Z (by cases look ps i <;> rfl) <| ip 6 Z Z Z Z (p_move Z) <| ip 7 Z Z Z Z (p_extract Z Z) <| ip 8 Z Z Z Z (p_extract Z Z) <| i1 9 Z <| x_alloc ty122 Z fun b5 => i1 10 Z <| x_store Z Z ty122 Z SM SM RO PT ?_
  refine ip 11 Z Z Z Z (p_assign Z) <| i0 <| qx <| mv Z Z <| ag Z Z <| nq <| J_ret <| J_rtS (b := b) (o := o) (ps := ps) _ PX trivial ?_
  exact J_return (()) Tryz.results108 (.tmp Z .nil) Z SU
theorem rtGetC  (hp : Pick (rtA b o ps) l m) :
    Con Tryz.prog 69 #[.pointer (some ⟨b, o, none⟩), .agg (encI i).toArray] E l (fun _ : Unit => .tuple #[evQ ((look ps i).getD q00), .bool (look ps i).isSome]) (fun _ => rtA b o ps :: m) := by
  refine Con.body (n := 19) Tryz.func69 Z Z _ (env_ok 2 Z) <| J_pick hp <| J_rtO fun ob _ => sr <| L_op <| x_box Z Z Z fun b3 => L_op <| x_alloc ty122 Z fun b4 => ag Z Z <| nq <| J_seq <| J_drawL none mixed <| ip 0 Z Z Z Z (p_move Z) <| ip 1 Z Z Z Z (p_nilCheck Z) <| ip 2 Z Z Z Z (p_fieldAddr Z fa138_0) <| iv 3 Z Z Z Z (fun _ => v_loadL Z ty136 HS Z (by exact rfl)) <| iv 4 Z Z Z Z (fun _ => v_loadA Z ty36 HS CT) <| iv 5 Z Z Z Z (fun _ => v_lookOk (ek := kI) (ev := evQ) (a := i) Z Z ky36 Tryz.underlying136 zv122 HS) <| J_slot (t := 14) (v := .tuple #[evQ ((look ps i).getD q00), .bool (look ps i).isSome]) Z (by cases look ps i <;> rfl) <| ip 6 Z Z Z Z (p_move Z) <| ip 7 Z Z Z Z (p_extract Z Z) <| ip 8 Z Z Z Z (p_extract Z Z) <| i1 9 Z <| x_alloc ty122 Z fun b6 => i1 10 Z <| x_store Z Z ty122 Z SM SM RO PT ?_
  refine ip 11 Z Z Z Z (p_assign Z) <| i0 <| qx <| L_val Z (v_loadA Z ty122 HS CT) <| mv Z Z <| L_op <| x_store Z Z ty122 Z SM SM RO PT <| ag Z Z <| nq <| J_ret <| J_rtS (b := b) (o := o) (ps := ps) _ PX trivial <| J_return (()) Tryz.results69 (.cellA Z ty122 HS CT (.tmp Z .nil)) ?_ ?_
  · rfl
  · exact SU
theorem rtDropC  (hp : Pick (rtA b o ps) l m) :
    Con Tryz.prog 119 #[.pointer (some ⟨b, o, none⟩), .agg (encI i).toArray] E l (fun _ : Unit => .bool (look ps i).isSome) (fun _ => rtA b o (del ps i) :: m) := by
  refine Con.body (n := 15) Tryz.func119 Z Z _ (env_ok 2 Z) <| J_pick hp <| sr <| L_op <| x_box Z Z Z fun b3 => ag Z Z <| nx <| mv Z Z <| L_val Z (v_loadA Z ty36 HS CT) <| xo fc108 (A2 Z Z) Z (rtHas (ps := ps) (i := i) PC) fun _ => ag Z Z <| nq <| J_seq <| J_pick (A := rtA b o ps) PC <| J_rtO fun ob _ => J_drawT 5 mixed (by kernel_rfl) <| sm Z Z <| sp Z (p_nilCheck Z) <| sp Z (p_fieldAddr Z fa138_0) <| S_val Z (v_loadL Z ty136 HS Z (by exact rfl)) <| S_val Z (v_loadA Z ty36 HS CT) <| S_nil <| L_op <| x_delete (ek := kI) (ev := evQ) (a := i) Z Z ky36 Tryz.underlying136 PC <| nx <| mv Z Z <| ag Z Z <| nq <| J_ret <| J_rtS (b := b) (o := o) (ps := del ps i) _ PX trivial ?_
  exact J_return (()) Tryz.results119 (.tmp Z .nil) Z SU
theorem cmpReq {a b : Rq} :
    Con Tryz.prog 75 #[.agg (encQ a).toArray, .agg (encQ b).toArray] E l (fun _ : Unit => .int .i64 (cmpQ a b)) (fun _ => l) := by
  refine Con.body (n := 12) Tryz.func75 Z Z _ (env_ok 2 Z) <| sr <| L_op <| x_box Z Z Z fun b2 => L_op <| x_box Z Z Z fun b3 => ag Z Z <| nx <| fa Z Z fa122_0 <| fa Z Z fa36_1 <| L_val Z (v_load Z ty3 HS (by exact rfl)) <| fa Z Z fa122_0 <| fa Z Z fa36_1 <| L_val Z (v_load Z ty3 HS (by exact rfl)) <| xo fc76 (A2 Z Z) Z (cmpZC (x := a.id.2) (y := b.id.2)) fun _ => ag Z Z <| nq <| J_ret <| J_return (()) Tryz.results75 (.tmp Z .nil) ?_ ?_
  · rfl
  · exact SU
theorem reqSort {xs : List Rq} (hp : Pick (row 122 13 v (xs.map encQ)) l m) (hT : ∀ x ∈ xs, ∀ y ∈ xs, Go.Proofs.ltOf cmpQ x y = false → Go.Proofs.ltOf cmpQ y x = false → x = y) (hb : xs.length ≤ 1000000) :
    Con Tryz.prog 74 #[v, .func (.func 75) #[] #[]] E l (fun _ : Unit => .tuple #[]) (fun _ => row 122 13 v ((sortF cmpQ xs).map encQ) :: m) :=
  con_sortO Tryz.sortRq (fun w => ty122.isAgg w) (fun w => ty122.sizeOf w) (fun _ => rfl) (fun x v hv => by simp [encQ] at hv; rcases hv with rfl | rfl | rfl | rfl | rfl | rfl | rfl | rfl | rfl | rfl | rfl | rfl | rfl <;> rfl) cmpQ_swo hT (enters_of Tryz.func75 nm75 rfl) (fun x y W => cmpReq) hb hp
theorem rtOf (hp : Pick (rtA b o ps) l m) {g : Int} (hI : Ids ps) (hb : ps.length ≤ 100000) :
  Con Tryz.prog 23 #[.pointer (some ⟨b, o, none⟩), .int .i64 g] E l (fun v : Value => v) (fun v => row 122 13 v ((ofQ ps g).map encQ) :: rtA b o ps :: m) := by
 refine Con.body (n := 29) Tryz.func23 Z Z _ (env_ok 2 Z) <| J_pick hp <| J_rtO fun ob _ => sr <| ag Z Z <| nx <| ag Z Z <| J_nil (el := 122) (sz := 13) <| nxx <| mv Z Z <| nc Z Z <| fa Z Z fa138_0 <| L_val Z (v_loadL Z ty136 HS Z (by exact rfl)) <| L_op <| x_range (ek := kI) (ev := evQ) Z Tryz.underlying136 PC Z fun r12 => nq <| J_block <| J_rangeKeyd (ek := kI) (ev := evQ) (ps := ps) HS fun hK => J_loop2 (fun done v => Come ps done) (fun done v => rangeA kI evQ (.map ob) r12 ps done :: row 122 13 v ((comeQ ps g done).map encQ) :: fld b o [.map ob] :: m) (fun done v => [(12, .pointer (some ⟨r12, 0, none⟩)), (5, v), (0, .pointer (some ⟨b, o, none⟩)), (1, .int .i64 g)]) (fun done v => ps.length - done.length) [] _ Come.nil SU KE ?_
 intro done v hC
 refine sr <| L_op (x_next (ek := kI) (ev := evQ) Z PC Z (fun k13 u13 hm13 hn13 => ?_) (fun hd13 => ?_))
 have hlt := hC.lt hK hm13 hn13
 have hcl := comeQ_len ps g done
 refine L_pur Z (p_extract Z Z) <| nq <| J_seq <| C_true Z <| J_skip <| Q_then <| J_block <| sr <| L_val Z (v_entry (ek := kI) (ev := evQ) Z HS (by simp) hm13) <| L_pur Z (p_extract Z Z) <| L_pur Z (p_extract Z Z) <| L_op <| x_alloc ty36 Z fun b6 => L_op <| x_alloc ty122 Z fun b7 => L_op <| x_store Z Z ty36 Z SM SM RO PT <| L_op <| x_store Z Z ty122 Z SM SM RO PT <| nx <| fa Z Z fa36_0 <| L_val Z (v_load Z ty3 HS (by exact rfl)) <| mv Z Z <| L_pur Z (p_eql Z Z) <| nq <| C_dec Z (fun h21 => ?_) (fun h21 => ?_)
 refine J_region <| mv Z Z <| L_val Z (v_loadA Z ty122 HS CT) <| L_op <| x_lit (vals := [_]) Tryz.underlying46 ty122 Z (.cons Z .nil) (.agg .nil) (Wf.cons Z Z Wf.nil) Z (by decide) Z Z <| JR fun a24 c24 hw24 hl24 hm24 hz24 => L_op <| x_app Z Z Tryz.underlying46 ty122 Z Z PC (fun w H => sep_reads HS H) (by simp; omega) (by simp; omega) Z <| JE ((comeQ ps g (done ++ [k13])).map encQ) (by rw [comeQ_on hK hm13 h21]; simp) fun a25 c25 hw25 hl25 hm25 hz25 => ag Z Z <| J_nil (el := 122) (sz := 13) <| L_nil <| Q_blk_normal <| Q_then ?_
 
 exact J_again2 (done ++ [k13]) _ (by have := hC.lt hK hm13 hn13; simp; omega) (hC.step hm13 hn13) SU KE
 refine J_skip <| Q_blk_normal <| Q_then <| J_pick (A := row 122 13 _ _) PC <| J_rowEq (ys := (comeQ ps g (done ++ [k13])).map encQ) (by rw [comeQ_off h21]) ?_
 exact J_again2 (done ++ [k13]) _ (by have := hC.lt hK hm13 hn13; simp; omega) (hC.step hm13 hn13) SU KE
 have hperm := comeQ_perm (g := g) hK (hC.perm hK hd13)
 have hlen : (comeQ ps g done).length ≤ 1000000 := by
  rw [hperm.length_eq]
  have h1 := ofQ_len ps g
  unfold ofQ at h1
  rw [sortF_len] at h1
  omega
 refine L_pur Z (p_extract Z Z) <| nq <| J_seq <| C_false Z <| J_exit <| Q_then_exit <| Q_then_exit <| Q_blk_this <| qx <| mv Z Z <| xo fc74 (A2 Z Z) Z (reqSort (xs := comeQ ps g done) PC (ofQ_parts hK hI hperm) hlen) fun _ => nx <| mv Z Z <| ag Z Z <| nq <| J_ret <| J_pick (A := row 122 13 v _) PC <| J_rowEq (ys := (ofQ ps g).map encQ) (by rw [sortF_permOn cmpQ_swo (ofQ_parts hK hI hperm) hperm]; rfl) <| J_pick (A := rangeA kI evQ _ _ _ _) PC <| J_rangeEnd <| J_rtS (b := b) (o := o) (ps := ps) _ PX trivial ?_
 exact J_return (v) Tryz.results23 (.tmp Z .nil) Z SU
variable {q : Rq}
theorem rtAddC  (hp : Pick (rtA b o ps) l m) (hI : Ids ps) (hb : ps.length ≤ 100000) :
    Con Tryz.prog 64 #[.pointer (some ⟨b, o, none⟩), .agg (encQ q).toArray] E l (fun _ : Unit => .bool (addOk ps q)) (fun _ => rtA b o (addQ ps q) :: m) := by
  refine Con.body (n := 34) Tryz.func64 Z Z _ (env_ok 2 Z) <| J_pick hp <| sr <| L_op <| x_box Z Z Z fun b3 => ag Z Z <| nxx <| mv Z Z <| fa Z Z fa122_0 <| L_val Z (v_loadA Z ty36 HS CT) <| xo fc108 (A2 Z Z) Z (rtHas (ps := ps) (i := q.id) PC) fun _ => mv Z Z <| J_gsplit (t := 9) Z (fun h9 => ?_) (fun h9 => ?_)
  refine gz Z Z Z Z Z <| gz Z Z Z Z Z <| gz Z Z Z Z Z <| gz Z Z Z Z Z <| gz Z Z Z Z Z <| gz Z Z Z Z Z <| gz Z Z Z Z Z <| L_pur Z (p_pick_t Z Z) <| nq <| C_true Z <| sr <| ag Z Z <| nq <| J_ret <| Q_then_ret <| J_pick (A := rtA b o _) PC <| J_asTo (B := rtA b o (addQ ps q)) (by simp_all [addQ, addOk]) <| J_return (()) Tryz.results64 (.tmp Z .nil) ?_ ?_
  · first | (simp_all [one, addOk]; done) | (simp_all [one, addOk] <;> omega)
  · exact SU
  refine gp Z Z Z (p_move Z) Z <| gp Z Z Z (p_fieldAddr Z fa122_0) Z <| L_op <| G_on Z Z Z <| J_pur (p_fieldAddr Z fa36_0) Z Z Z <| L_op <| G_on Z Z Z <| J_val (v_load Z ty3 HS (by exact rfl)) Z Z Z <| L_op <| G_on Z Z Z <| xc fc23 (A2 Z Z) Z (rtOf (ps := ps) (g := q.id.1) PC hI hb) <| JR fun a14 c14 hw14 hl14 hm14 hz14 => gp Z Z Z (p_len Z Tryz.underlying46) Z <| J_slot (t := 15) (v := .int .i64 ((ofQ ps q.id.1).length : Int)) Z (by simp) <| gp Z Z Z (p_geq Z Z) Z ?_
  have hol := ofQ_len ps q.id.1
  refine L_pur Z (p_pick_f Z Z) <| nq <| C_dec Z (fun h17 => ?_) (fun h17 => ?_)
  refine sr <| ag Z Z <| nq <| J_ret <| Q_then_ret <| J_pick (A := rtA b o _) PC <| J_asTo (B := rtA b o (addQ ps q)) (by rw [show addQ ps q = ps from if_neg (by unfold addOk; simp; intro _; omega)]) <| J_return (()) Tryz.results64 (.tmp Z .nil) ?_ ?_
  · first | (simp_all [one, addOk]; done) | (simp_all [one, addOk] <;> omega)
  · exact SU
  refine J_skip <| Q_then <| J_seq <| J_seq <| J_pick (A := rtA b o ps) PC <| J_rtO fun ob _ => J_region <| mv Z Z <| nc Z Z <| fa Z Z fa138_0 <| L_val Z (v_loadL Z ty136 HS Z (by exact rfl)) <| L_pur Z (p_eqNilMap Tryz.underlying136 Z) <| nq <| C_split Z (fun h22 => ?_) (fun h22 => ?_)
  obtain rfl : ob = none := by simpa using h22
  refine J_mapNone (ps := ps) HS fun hps => ?_
  subst hps
  refine J_region <| mv Z Z <| L_op <| x_makeMap (ek := kI) (ev := evQ) Z fun b24 => nc Z Z <| fa Z Z fa138_0 <| L_op <| x_storeL Z Z ty136 Z SM SM Z RO Z PT <| nq <| J_seq <| J_drawT 7 mixed (by kernel_rfl) <| sm Z Z <| sp Z (p_nilCheck Z) <| sp Z (p_fieldAddr Z fa138_0) <| S_val Z (v_loadL Z ty136 HS Z (by exact rfl)) <| sp Z (p_fieldAddr Z fa122_0) <| S_val Z (v_loadA Z ty36 HS CT) <| S_val Z (v_loadA Z ty122 HS CT) <| S_nil <| L_op <| x_mapUpdate (ek := kI) (ev := evQ) (a := q.id) (c := q) Z Z Z ky36 Tryz.underlying136 PC <| nx <| ag Z Z <| nq <| J_ret <| J_rtS (b := b) (o := o) (ps := ins [] q.id q) _ PX trivial <| J_pick (A := rtA b o _) PC <| J_asTo (B := rtA b o (addQ [] q)) (by rw [show addQ [] q = ins [] q.id q from if_pos (by unfold addOk; simp at h9 h17 ⊢; exact ⟨h9, by omega⟩)]) <| J_return (()) Tryz.results64 (.tmp Z .nil) ?_ ?_
  · first | (simp_all [one, addOk]; done) | (simp_all [one, addOk] <;> omega)
  · exact SU
  obtain ⟨bm, rfl⟩ : ∃ bm, ob = some bm := by cases ob with | none => simp at h22 | some x => exact ⟨x, rfl⟩
  refine J_skip <| Q_then <| J_seq <| J_drawT 7 mixed (by kernel_rfl) <| sm Z Z <| sp Z (p_nilCheck Z) <| sp Z (p_fieldAddr Z fa138_0) <| S_val Z (v_loadL Z ty136 HS Z (by exact rfl)) <| sp Z (p_fieldAddr Z fa122_0) <| S_val Z (v_loadA Z ty36 HS CT) <| S_val Z (v_loadA Z ty122 HS CT) <| S_nil <| L_op <| x_mapUpdate (ek := kI) (ev := evQ) (a := q.id) (c := q) Z Z Z ky36 Tryz.underlying136 PC <| nx <| ag Z Z <| nq <| J_ret <| J_rtS (b := b) (o := o) (ps := ins ps q.id q) _ PX trivial <| J_pick (A := rtA b o _) PC <| J_asTo (B := rtA b o (addQ ps q)) (by rw [show addQ ps q = ins ps q.id q from if_pos (by unfold addOk; simp at h9 h17 ⊢; exact ⟨h9, by omega⟩)]) <| J_return (()) Tryz.results64 (.tmp Z .nil) ?_ ?_
  · first | (simp_all [one, addOk]; done) | (simp_all [one, addOk] <;> omega)
  · exact SU
variable {k : Nat}
theorem find_here {α : Type} {p : α → Bool} {xs : List α} {c : α} (h0 : ∀ c ∈ xs.take k, p c = false) (h : xs[k]? = some c) (hc : p c = true) : xs.find? p = some c := by
  have hl := (List.getElem?_eq_some_iff.1 h).1
  have e : xs = xs.take k ++ c :: xs.drop (k + 1) := by
    rw [← (List.getElem?_eq_some_iff.1 h).2, ← List.drop_eq_getElem_cons hl, List.take_append_drop]
  rw [e, List.find?_append, List.find?_eq_none.2 (fun x hx => by simp [h0 x hx]), List.find?_cons, hc]; rfl
theorem find_gone {α : Type} {p : α → Bool} {xs : List α} (h0 : ∀ c ∈ xs, p c = false) : xs.find? p = none := List.find?_eq_none.2 fun x hx => by simp [h0 x hx]
theorem rtAfterC  (hp : Pick (rtA b o ps) l m) (hI : Ids ps) (hb : ps.length ≤ 100000) :
    Con Tryz.prog 122 #[.pointer (some ⟨b, o, none⟩), .agg (encI i).toArray] E l (fun _ : Unit => .tuple #[evQ ((afterQ ps i).getD q00), .bool (afterQ ps i).isSome]) (fun _ => rtA b o ps :: m) := by
  refine Con.body (n := 25) Tryz.func122 Z Z _ (env_ok 2 Z) <| J_pick hp <| sr <| L_op <| x_box Z Z Z fun b3 => L_op <| x_alloc ty122 Z fun b4 => ag Z Z <| nxx <| mv Z Z <| fa Z Z fa36_0 <| L_val Z (v_load Z ty3 HS (by exact rfl)) <| xo fc23 (A2 Z Z) Z (rtOf (ps := ps) (g := i.1) PC hI hb) <| JR fun a11 c11 hw11 hl11 hm11 hz11 => ?_
  have hol := ofQ_len ps i.1
  obtain ⟨xs, hxs⟩ : ∃ xs, xs = ofQ ps i.1 := ⟨_, rfl⟩
  refine J_pick (A := row 122 13 _ _) PC <| J_rowTo (ys := xs.map encQ) (v' := .slice a11 (xs.map encQ).length c11) (by rw [hxs]) (by rw [hxs]) <| J_slot (t := 11) (v := .slice a11 (xs.map encQ).length c11) Z (by rw [hxs]) ?_
  rw [← hxs] at hol hz11
  have hm : c11 ≤ 9223372036854775807 := hm11
  have hml : (xs.map encQ).length = xs.length := List.length_map _
  refine L_pur Z (p_len Z Tryz.underlying46) <| mv Z Z <| nq <| J_block <| J_loop (α := Nat) (fun k => k ≤ xs.length ∧ ∀ c ∈ xs.take k, decide (c.prev = i.2) = false) (fun _ => row 122 13 (.slice a11 (xs.map encQ).length c11) (xs.map encQ) :: blk b3 36 (encI i) :: blk b4 122 (encQ q00) :: rtA b o ps :: m) (fun k => [(13, .int .i64 (k : Int)), (11, .slice a11 (xs.map encQ).length c11), (12, .int .i64 ((xs.map encQ).length : Int)), (3, .pointer (some ⟨b3, 0, none⟩)), (4, .pointer (some ⟨b4, 0, none⟩))]) (fun k => xs.length - k) 0 ⟨by omega, by simp⟩ SU KE ?_
  intro k hk
  obtain ⟨hk, h0⟩ := hk
  refine sr <| L_pur Z (p_lss Z Z) <| nq <| J_seq <| C_dec Z (fun h14 => ?_) (fun h14 => ?_)
  have hlt : k < xs.length := by omega
  obtain ⟨bx, ox, rfl⟩ := hz11 (by intro h; rw [h] at hml; simp at hml; omega)
  obtain ⟨c, hcc⟩ : ∃ c, xs[k]? = some c := ⟨_, List.getElem?_eq_getElem hlt⟩
  refine J_skip <| Q_then <| J_seq <| J_block <| sr <| L_pur Z (p_indexAddr Z Z Tryz.underlying46 ty122 (by omega) (by omega)) <| L_val Z (v_loadE Z ty122 HS (by first | (simp only [Int.toNat_natCast, List.getElem?_map, hcc]; rfl) | (simp only [Int.toNat_natCast, List.getElem?_map, hcd]; rfl) | simp | rfl)) ?_
  refine L_op <| x_alloc ty122 Z fun b7 => L_op <| x_store Z Z ty122 Z SM SM RO PT <| nx <| fa Z Z fa122_2 <| L_val Z (v_load Z ty3 HS (by exact rfl)) <| fa Z Z fa36_1 <| L_val Z (v_load Z ty3 HS (by exact rfl)) <| L_pur Z (p_eql Z Z) <| nq <| C_dec Z (fun h21 => ?_) (fun h21 => ?_)
  have haf : afterQ ps i = some c := by unfold afterQ; rw [← hxs]; exact find_here h0 hcc (by simpa using h21)
  refine sr <| L_val Z (v_loadA Z ty122 HS CT) <| L_op <| x_store Z Z ty122 Z SM SM RO PT <| ag Z Z <| nq <| J_ret <| Q_blk_ret <| Q_then_ret <| Q_then_ret <| Q_blk_ret <| Q_then_ret <| J_return (()) Tryz.results122 (.cellA Z ty122 HS CT (.tmp Z .nil)) ?_ ?_
  · rw [haf]; rfl
  · exact SU
  refine J_skip <| Q_blk_normal <| qr <| L_pur Z (p_add64 Z Z (by omega)) <| mv Z Z <| nq ?_
  exact J_again (k + 1) (by omega) (⟨by omega, take_false_succ h0 hcc (by simpa using h21)⟩) SU KE
  have haf : afterQ ps i = none := by
    unfold afterQ; rw [← hxs]
    exact find_gone (by rw [show k = xs.length by omega, List.take_length] at h0; exact h0)
  refine J_exit <| Q_then_exit <| Q_then_exit <| Q_blk_this <| qx <| L_pur Z (bld122 .nil (by repeat constructor)) <| L_op <| x_store Z Z ty122 Z SM SM RO PT <| ag Z Z <| nq <| J_ret <| J_return (()) Tryz.results122 (.cellA Z ty122 HS CT (.tmp Z .nil)) ?_ ?_
  · rw [haf]; rfl
  · exact SU
/-! ### plain: numbers in bytes -/
def le4 (n : Int) : List Int := [n % 256, n / 256 % 256, n / 65536 % 256, n / 16777216 % 256]
def putB (bs : List Int) (a : Nat) (ys : List Int) : List Int := bs.take a ++ ys ++ bs.drop (a + ys.length)
def byteAt (bs : List Int) (k : Nat) : Int := (bs[k]?).getD 0
def getN (bs : List Int) (a : Nat) : Nat → Int
  | 0 => 0
  | i + 1 => getN bs a i + byteAt bs (a + i) * 2 ^ (8 * i)
def Bytes (bs : List Int) : Prop := ∀ x ∈ bs, 0 ≤ x ∧ x ≤ 255
variable {bs : List Int}
theorem byteAt_is (h : Bytes bs) (k : Nat) : 0 ≤ byteAt bs k ∧ byteAt bs k ≤ 255 := by
  unfold byteAt
  cases hk : bs[k]? with
  | none => simp
  | some x => exact h x (List.mem_of_getElem? hk)
theorem getN_is {bs : List Int} (h : Bytes bs) (a : Nat) : ∀ i, 0 ≤ getN bs a i ∧ getN bs a i < 2 ^ (8 * i)
  | 0 => by simp [getN]
  | i + 1 => by
    have h1 := getN_is h a i
    have h2 := byteAt_is h (a + i)
    have h3 : (2 : Int) ^ (8 * (i + 1)) = 256 * 2 ^ (8 * i) := by rw [show 8 * (i + 1) = 8 * i + 8 by omega, Int.pow_add]; omega
    have h4 : (0 : Int) < 2 ^ (8 * i) := Int.pow_pos (by omega)
    have h5 : byteAt bs (a + i) * 2 ^ (8 * i) ≤ 255 * 2 ^ (8 * i) := Int.mul_le_mul_of_nonneg_right h2.2 (by omega)
    have h6 : 0 ≤ byteAt bs (a + i) * 2 ^ (8 * i) := Int.mul_nonneg h2.1 (by omega)
    rw [getN, h3]
    omega
theorem or_nat {x y : Nat} (k : Nat) (hx : x < 2 ^ k) (hs : y * 2 ^ k < 4294967296) (hxs : x < 4294967296) : bits .or .u32 (x : Int) ((y * 2 ^ k : Nat) : Int) = ((x + y * 2 ^ k : Nat) : Int) := by
  rw [u32_or_nat x _ hxs hs, Nat.or_comm, Nat.mul_comm y, ← Nat.two_pow_add_eq_or_of_lt hx, Nat.add_comm]
theorem or_step {i : Nat} (hi : i < 4) (hx : 0 ≤ x ∧ x < 2 ^ (8 * i)) (hy : 0 ≤ y ∧ y ≤ 255) : bits .or .u32 x (IntKind.u32.wrap (IntKind.u32.wrap y * 2 ^ (8 * (i : Int)).toNat)) = x + y * 2 ^ (8 * i) := by
  obtain ⟨h1, h2⟩ := hx
  obtain ⟨X, rfl⟩ := Int.eq_ofNat_of_zero_le h1
  obtain ⟨Y, rfl⟩ := Int.eq_ofNat_of_zero_le hy.1
  rw [show (8 * (i : Int)).toNat = 8 * i by omega, wrap32u_of (a := (Y : Int)) (by omega)]
  have hX : X < 2 ^ (8 * i) := by exact_mod_cast h2
  have e : ((Y : Int) * 2 ^ (8 * i)) = ((Y * 2 ^ (8 * i) : Nat) : Int) := by push_cast; rfl
  rw [e]
  have hb : Y * 2 ^ (8 * i) < 4294967296 ∧ X < 4294967296 := by
    have : i = 0 ∨ i = 1 ∨ i = 2 ∨ i = 3 := by omega
    rcases this with rfl | rfl | rfl | rfl <;> simp at hX ⊢ <;> omega
  rw [wrap32u_of (by omega), or_nat _ hX hb.1 hb.2]
  push_cast; rfl
variable {a : Nat}
theorem putB_nil : putB bs a [] = bs := by simp [putB]
variable {ys : List Int}
theorem putB_len (h : a + ys.length ≤ bs.length) : (putB bs a ys).length = bs.length := by
  simp [putB]; omega
theorem putB_snoc (h : a + ys.length < bs.length) : (putB bs a ys).set (a + ys.length) y = putB bs a (ys ++ [y]) := by
  unfold putB
  rw [List.drop_eq_getElem_cons h, List.set_append_right _ _ (by simp; omega), show a + ys.length - (List.take a bs ++ ys).length = 0 by simp; omega, List.set_cons_zero]
  simp [Nat.add_assoc]
theorem putB_bytes (h : Bytes bs) (hy : Bytes ys) : Bytes (putB bs a ys) := fun x hx => by
  unfold putB at hx
  rcases List.mem_append.1 hx with h1 | h1
  · rcases List.mem_append.1 h1 with h2 | h2
    · exact h x (List.mem_of_mem_take h2)
    · exact hy x h2
  · exact h x (List.mem_of_mem_drop h1)
theorem le4_bytes (n : Int) : Bytes (le4 n) := fun x hx => by
  simp [le4] at hx
  rcases hx with rfl | rfl | rfl | rfl <;> omega
theorem le4_at (n : Int) {i : Nat} (h : i < 4) : (le4 n)[i]? = some (n / 2 ^ (8 * i) % 256) := by
  have : i = 0 ∨ i = 1 ∨ i = 2 ∨ i = 3 := by omega
  rcases this with rfl | rfl | rfl | rfl <;> simp [le4]
theorem wrap_u8 (n : Int) : IntKind.u8.wrap n = n % 256 := by simp [IntKind.wrap, IntKind.bits, IntKind.signed]
theorem put_step {i : Nat} {n : Int} (hi : i < 4) (ha : a + 4 ≤ bs.length) :
    ((putB bs a ((le4 n).take i)).map encU).set ((a : Int) + (i : Int)).toNat [.int .u8 (IntKind.u8.wrap (n / 2 ^ (8 * (i : Int)).toNat))] = (putB bs a ((le4 n).take (i + 1))).map encU := by
  have hl : ((le4 n).take i).length = i := by simp [le4]; omega
  rw [List.take_add_one, le4_at n hi, Option.toList_some, ← putB_snoc (by omega), List.map_set, hl, show ((a : Int) + (i : Int)).toNat = a + i by omega, show (8 * (i : Int)).toNat = 8 * i by omega, wrap_u8]
  rfl
theorem getN_part : getN ((bs.drop a).take 4) 0 4 = getN bs a 4 := by
  have h : ∀ k, k < 4 → byteAt ((bs.drop a).take 4) (0 + k) = byteAt bs (a + k) := fun k hk => by
    unfold byteAt; rw [List.getElem?_take_of_lt (by omega), List.getElem?_drop]; simp
  simp only [getN, h 0 (by omega), h 1 (by omega), h 2 (by omega), h 3 (by omega)]
theorem part_bytes {a n : Nat} (h : Bytes bs) : Bytes ((bs.drop a).take n) := fun x hx => h x (List.mem_of_mem_drop (List.mem_of_mem_take hx))
theorem clone97 {xs : List (List Value)} (hr : ∀ w, Sep E w l → Reads w 1 v xs) (hb : xs.length ≤ 1000000) :
    Con Tryz.prog 97 #[v] E l (fun v' : Value => v') (fun v' => row 5 1 v' xs :: l) := by
  refine Con.body (n := 8) Tryz.func97 Z Z _ (env_ok 1 Z) <| J_reads hr fun hw a cap hv h1 h2 h3 => ?_
  subst hv
  refine sr <| ag Z Z <| nxx <| mv Z Z <| L_pur Z (p_eqnil Tryz.underlying73 Z) <| nq <| C_split Z (fun h4 => ?_) (fun h4 => ?_)
  obtain rfl : a = none := by simpa using h4
  obtain ⟨rfl, rfl⟩ := h3 rfl
  refine J_nil (el := 5) (sz := 1) <| sr <| ag Z Z <| nq <| J_ret <| Q_then_ret ?_
  exact J_return (_) Tryz.results97 (.tmp Z .nil) Z SU
  refine J_skip <| qx <| L_op <| x_lit (vals := []) Tryz.underlying73 ty5 Z .nil .nil Wf.nil Z (by decide) Z Z <| JR fun a5 c5 hw5 hl5 hm5 hz5 => mv Z Z <| L_op <| x_app Z Z Tryz.underlying73 ty5 Z Z PC (fun w H => hr w H.tail) (OM) (OM) Z <| JR fun a7 c7 hw7 hl7 hm7 hz7 => ag Z Z <| nq <| J_ret ?_
  exact J_return (_) Tryz.results97 (.tmp Z .nil) Z SU
theorem getC (hr : ∀ w, Sep E w l → Reads w 1 v (bs.map encU)) (ha : a + 4 ≤ bs.length) (hl : bs.length ≤ 1000000) (hB : Bytes bs) :
    Con Tryz.prog 199 #[v, .int .i64 (a : Int), .int .i64 4] E l (fun _ : Unit => .int .u32 (getN bs a 4)) (fun _ => l) := by
  refine Con.body (n := 39) Tryz.func199 Z Z _ (env_ok 3 Z) <| J_readsB hr fun hw ad cap hv h1 h2 h3 => ?_
  subst hv
  have hm : cap ≤ 9223372036854775807 := h2
  have hml : (bs.map encU).length = bs.length := List.length_map _
  refine sr <| ag Z Z <| nx <| ag Z Z <| nxx <| mv Z Z <| mv Z Z <| nq <| J_block <| J_loop (α := Nat) (fun i => i ≤ 4) (fun _ => l) (fun i => [(10, .int .i64 (i : Int)), (9, .int .i64 4), (7, .int .u32 (getN bs a i)), (0, .slice ad (bs.map encU).length cap), (1, .int .i64 (a : Int))]) (fun i => 4 - i) 0 (by omega) SU KE ?_
  intro i hi
  refine sr <| L_pur Z (p_lss Z Z) <| nq <| J_seq <| C_dec Z (fun h11 => ?_) (fun h11 => ?_)
  have hlt : a + i < bs.length := by omega
  obtain ⟨bx, ox, rfl⟩ := h3 (by intro h; rw [h] at hml; simp at hml; omega)
  obtain ⟨c, hcc⟩ : ∃ c, bs[a + i]? = some c := ⟨_, List.getElem?_eq_getElem hlt⟩
  have hcB := hB c (List.mem_of_getElem? hcc)
  have hgN := getN_is hB a i
  refine J_skip <| Q_then <| J_seq <| J_block <| sr <| mv Z Z <| ag Z Z <| nx <| mv Z Z <| mv Z Z <| L_pur Z (p_neg64 Z (by omega)) <| L_pur Z (p_geq Z Z) <| mv Z Z <| J_bool (t := 17) (c := true) Z (by first | (simp; omega) | simp) <| L_op <| G_on Z Z Z <| J_pur (p_move Z) Z Z Z <| gp Z Z Z (p_move Z) Z <| gp Z Z Z (p_len Z Tryz.underlying73) Z <| L_op <| G_on Z Z Z <| J_pur (p_move Z) Z Z Z <| gp Z Z Z (p_sub64 Z Z (by omega)) Z <| gp Z Z Z (p_lss Z Z) Z <| L_pur Z (p_pick_t Z Z) <| nq <| J_bool (t := 24) (c := true) Z (by first | (simp; omega) | simp) <| C_true Z <| J_region <| mv Z Z <| mv Z Z <| mv Z Z <| mv Z Z <| L_pur Z (p_add64 Z Z (by omega)) <| L_pur Z (p_indexAddr Z Z Tryz.underlying73 ty5 (by omega) (by simp; omega)) <| L_val Z (v_loadR1 Z ty5 (fun w H => hr w H) (by rw [show ((a : Int) + (i : Int)).toNat = a + i by omega, List.getElem?_map, hcc]; rfl)) ?_
  refine L_pur Z (p_conv Z Tryz.underlying5 Tryz.underlying22) <| mv Z Z <| L_pur Z (p_mul64 Z Z (by omega)) <| L_pur Z (p_shl Z Z (by omega) (by have : (IntKind.u32.bits : Int) = 32 := rfl; omega)) <| L_pur Z (p_or Z Z) <| J_slot (t := 36) (v := .int .u32 (getN bs a (i + 1))) Z (by rw [or_step (by omega) hgN hcB, getN, byteAt, hcc]; rfl) <| ag Z Z <| L_nil <| Q_blk_normal <| qr <| L_pur Z (p_add64 Z Z (by omega)) <| mv Z Z <| nq ?_
  exact J_again (i + 1) (by omega) (by omega) SU KE
  have hi4 : i = 4 := by omega
  subst hi4
  refine J_exit <| Q_then_exit <| Q_then_exit <| Q_blk_this <| qx <| mv Z Z <| ag Z Z <| nq <| J_ret <| J_return (()) Tryz.results199 (.tmp Z .nil) ?_ ?_
  · rfl
  · exact SU
theorem putC (hr : ∀ w, Sep E w l → Reads w 1 v (bs.map encU)) (ha : a + 4 ≤ bs.length) (hl : bs.length ≤ 1000000) {n : Int} :
  Con Tryz.prog 306 #[v, .int .i64 (a : Int), .int .i64 4, .int .u32 n] E l (fun v' : Value => v') (fun v' => row 5 1 v' ((putB bs a (le4 n)).map encU) :: l) := by
 refine Con.body (n := 41) Tryz.func306 Z Z _ (env_ok 4 Z) <| J_readsB hr fun hw ad cap hv h1 h2 h3 => ?_
 subst hv
 have hm : cap ≤ 9223372036854775807 := h2
 have hml : (bs.map encU).length = bs.length := List.length_map _
 refine sr <| ag Z Z <| nx <| mv Z Z <| xo fc97 (A1 Z) Z (clone97 (xs := bs.map encU) (fun w H => hr w H) (by simpa using hl)) <| JR fun a12 c12 hw12 hl12 hm12 hz12 => ?_
 obtain ⟨bq, oq, rfl⟩ := hz12 (by intro h; rw [h] at hml; simp at hml; omega)
 have hmq : c12 ≤ 9223372036854775807 := hm12
 refine ag Z Z <| nxx <| mv Z Z <| mv Z Z <| J_pick (A := row 5 1 _ _) PC <| J_rowEq (ys := (putB bs a ((le4 n).take 0)).map encU) (by rw [List.take_zero, putB_nil]) <| nq <| J_block <| J_loop (α := Nat) (fun i => i ≤ 4) (fun i => row 5 1 (.slice (some ⟨bq, oq, none⟩) (bs.map encU).length c12) ((putB bs a ((le4 n).take i)).map encU) :: l) (fun i => [(14, .int .i64 (i : Int)), (13, .int .i64 4), (9, .slice (some ⟨bq, oq, none⟩) (bs.map encU).length c12), (0, .slice ad (bs.map encU).length cap), (1, .int .i64 (a : Int)), (3, .int .u32 n)]) (fun i => 4 - i) 0 (by omega) SU KE ?_
 intro i hi
 refine sr <| L_pur Z (p_lss Z Z) <| nq <| J_seq <| C_dec Z (fun h15 => ?_) (fun h15 => ?_)
 have hpl : ((putB bs a ((le4 n).take i)).map encU).length = bs.length := by rw [List.length_map, putB_len (by simp [le4]; omega)]
 refine J_skip <| Q_then <| J_seq <| J_block <| sr <| mv Z Z <| ag Z Z <| nx <| mv Z Z <| mv Z Z <| L_pur Z (p_neg64 Z (by omega)) <| L_pur Z (p_geq Z Z) <| mv Z Z <| J_bool (t := 21) (c := true) Z (by first | (simp; omega) | simp) <| L_op <| G_on Z Z Z <| J_pur (p_move Z) Z Z Z <| gp Z Z Z (p_move Z) Z <| gp Z Z Z (p_len Z Tryz.underlying73) Z <| L_op <| G_on Z Z Z <| J_pur (p_move Z) Z Z Z <| gp Z Z Z (p_sub64 Z Z (by omega)) Z <| gp Z Z Z (p_lss Z Z) Z <| L_pur Z (p_pick_t Z Z) <| nq <| J_bool (t := 28) (c := true) Z (by first | (simp; omega) | simp) <| C_true Z <| J_region <| mv Z Z <| mv Z Z <| mv Z Z <| L_pur Z (p_add64 Z Z (by omega)) ?_
 refine mv Z Z <| mv Z Z <| L_pur Z (p_mul64 Z Z (by omega)) <| L_pur Z (p_shr Z Z (by omega) (by have : (IntKind.u32.bits : Int) = 32 := rfl; omega)) <| L_pur Z (p_conv Z Tryz.underlying22 Tryz.underlying5) <| L_pur Z (p_indexAddr Z Z Tryz.underlying73 ty5 (by omega) (by simp; omega)) <| L_op <| x_storeE Z Z ty5 Z SM SM PC (by omega) <| J_rowEq (ys := (putB bs a ((le4 n).take (i + 1))).map encU) (put_step (by omega) ha) <| L_nil <| Q_blk_normal <| qr <| L_pur Z (p_add64 Z Z (by omega)) <| mv Z Z <| nq ?_
 exact J_again (i + 1) (by omega) (by omega) SU KE
 have hi4 : i = 4 := by omega
 subst hi4
 refine J_pick (A := row 5 1 _ _) PC <| J_rowEq (ys := (putB bs a (le4 n)).map encU) (by rfl) <| J_exit <| Q_then_exit <| Q_then_exit <| Q_blk_this <| qx <| mv Z Z <| ag Z Z <| nq <| J_ret ?_
 exact J_return (_) Tryz.results306 (.tmp Z .nil) Z SU
theorem u32C (hr : ∀ w, Sep E w l → Reads w 1 v (bs.map encU)) (ha : a + 4 ≤ bs.length) (hl : bs.length ≤ 1000000) (hB : Bytes bs) :
    Con Tryz.prog 139 #[v, .int .i64 (a : Int)] E l (fun _ : Unit => .int .u32 (getN bs a 4)) (fun _ => l) := by
  refine Con.body (n := 8) Tryz.func139 Z Z _ (env_ok 2 Z) <| sr <| ag Z Z <| nx <| mv Z Z <| mv Z Z <| xo fc199 (A3 Z Z Z) Z (getC hr ha hl hB) fun _ => ag Z Z <| nq <| J_ret ?_
  exact J_return (()) Tryz.results139 (.tmp Z .nil) Z SU
theorem put32C (hr : ∀ w, Sep E w l → Reads w 1 v (bs.map encU)) (ha : a + 4 ≤ bs.length) (hl : bs.length ≤ 1000000) {n : Int} :
    Con Tryz.prog 264 #[v, .int .i64 (a : Int), .int .u32 n] E l (fun v' : Value => v') (fun v' => row 5 1 v' ((putB bs a (le4 n)).map encU) :: l) := by
  refine Con.body (n := 11) Tryz.func264 Z Z _ (env_ok 3 Z) <| sr <| ag Z Z <| nx <| mv Z Z <| mv Z Z <| mv Z Z <| xo fc306 (A4 Z Z Z Z) Z (putC hr ha hl) <| JR fun a10 c10 hw10 hl10 hm10 hz10 => ag Z Z <| nq <| J_ret ?_
  exact J_return (_) Tryz.results264 (.tmp Z .nil) Z SU
theorem shl32_small : ∀ k : Nat, k ≤ 8 → IntKind.u32.wrap (1 * 2 ^ (k : Int).toNat) = 2 ^ k ∧ IntKind.u32.wrap ((2 : Int) ^ k - 1) = 2 ^ k - 1 := by decide
theorem and_mask {n : Int} (hk : k ≤ 8) (hn : 0 ≤ n ∧ n < 4294967296) : bits .and .u32 n (2 ^ k - 1) = n % 2 ^ k := by
  obtain ⟨X, rfl⟩ := Int.eq_ofNat_of_zero_le hn.1
  have h2 : 1 ≤ 2 ^ k ∧ 2 ^ k ≤ 256 := ⟨Nat.one_le_two_pow, by have : (2 : Nat) ^ k ≤ 2 ^ 8 := Nat.pow_le_pow_right (by omega) hk; omega⟩
  have e : ((2 : Int) ^ k - 1) = ((2 ^ k - 1 : Nat) : Int) := by rw [Int.ofNat_sub h2.1]; push_cast; rfl
  rw [e, u32_and_nat X _ (by omega) (by omega), Nat.and_two_pow_sub_one_eq_mod]
  push_cast; rfl
theorem maskC (hk : k ≤ 8) :
    Con Tryz.prog 305 #[.int .i64 0, .int .i64 (k : Int)] E l (fun _ : Unit => .int .u32 (2 ^ k - 1)) (fun _ => l) := by
  refine Con.body (n := 21) Tryz.func305 Z Z _ (env_ok 2 Z) <| sr <| ag Z Z <| nxx <| mv Z Z <| L_pur Z (p_lss Z Z) <| mv Z Z <| J_bool (t := 7) (c := false) Z (rfl) <| gp Z Z Z (p_move Z) Z <| gp Z Z Z (p_geq Z Z) Z <| L_pur Z (p_pick_f Z Z) <| mv Z Z <| J_bool (t := 11) (c := false) Z (rfl) <| gp Z Z Z (p_move Z) Z <| gp Z Z Z (p_lss Z Z) Z <| L_pur Z (p_pick_f Z Z) <| nq <| C_split Z (fun h14 => ?_) (fun h14 => ?_)
  obtain rfl : k = 0 := by simp at h14; omega
  refine sr <| ag Z Z <| nq <| J_ret <| Q_then_ret <| J_return (()) Tryz.results305 (.tmp Z .nil) ?_ ?_
  · rfl
  · exact SU
  have hk1 : 1 ≤ k := by simp at h14; omega
  refine J_skip <| qx <| mv Z Z <| mv Z Z <| L_pur Z (p_sub64 Z Z (by omega)) <| L_pur Z (p_min Z Z) <| J_slot (t := 18) (v := .int .i64 (k : Int)) Z (by congr 1; simp; omega) <| L_pur Z (p_shl Z Z (by omega) (by have : (IntKind.u32.bits : Int) = 32 := rfl; omega)) <| J_slot (t := 19) (v := .int .u32 (2 ^ k)) Z (by rw [(shl32_small k hk).1]) <| L_pur Z (p_sub Z Z) <| J_slot (t := 20) (v := .int .u32 (2 ^ k - 1)) Z (by rw [(shl32_small k hk).2]) <| ag Z Z <| nq <| J_ret <| J_return (()) Tryz.results305 (.tmp Z .nil) ?_ ?_
  · rfl
  · exact SU
theorem fieldC {n : Int} (hk : k ≤ 8) (hn : 0 ≤ n ∧ n < 4294967296) :
    Con Tryz.prog 263 #[.int .u32 n, .int .i64 0, .int .i64 (k : Int)] E l (fun _ : Unit => .int .u32 (n % 2 ^ k)) (fun _ => l) := by
  refine Con.body (n := 18) Tryz.func263 Z Z _ (env_ok 3 Z) <| sr <| ag Z Z <| nx <| mv Z Z <| mv Z Z <| xo fc305 (A2 Z Z) Z (maskC hk) fun _ => ag Z Z <| nxx <| mv Z Z <| L_pur Z (p_eql Z Z) <| nq <| C_dec Z (fun h12 => ?_) (fun h12 => ?_)
  have hk0 : n % 2 ^ k = 0 := by
    have : (2 : Int) ^ k = 1 := by omega
    rw [this]; omega
  refine sr <| ag Z Z <| nq <| J_ret <| Q_then_ret <| J_return (()) Tryz.results263 (.tmp Z .nil) ?_ ?_
  · rw [hk0]; rfl
  · exact SU
  refine J_skip <| qx <| mv Z Z <| mv Z Z <| L_pur Z (p_shr Z Z (by omega) (by decide)) <| J_slot (t := 15) (v := .int .u32 n) Z (by simp) <| mv Z Z <| L_pur Z (p_and Z Z) <| J_slot (t := 17) (v := .int .u32 (n % 2 ^ k)) Z (by rw [and_mask hk hn]) <| ag Z Z <| nq <| J_ret <| J_return (()) Tryz.results263 (.tmp Z .nil) ?_ ?_
  · rfl
  · exact SU
theorem mod_small {n : Int} (hk : k ≤ 4) : 0 ≤ n % 2 ^ k ∧ n % 2 ^ k ≤ 15 := by
  have h2 : (1 : Int) ≤ 2 ^ k ∧ (2 : Int) ^ k ≤ 16 := by
    have : k = 0 ∨ k = 1 ∨ k = 2 ∨ k = 3 ∨ k = 4 := by omega
    rcases this with rfl | rfl | rfl | rfl | rfl <;> decide
  have h3 := Int.emod_nonneg n (b := 2 ^ k) (by omega)
  have h4 := Int.emod_lt_of_pos n (b := 2 ^ k) (by omega)
  omega
theorem placeC {n z : Int} (hz : z = 16 ∨ z = 32) (hk : k ≤ 4) (hn : 0 ≤ n ∧ n < 4294967296) :
    Con Tryz.prog 193 #[.int .u32 n, .int .i64 (k : Int), .int .i64 z] E l (fun _ : Unit => .int .i64 (16 + n % 2 ^ k * z)) (fun _ => l) := by
  refine Con.body (n := 14) Tryz.func193 Z Z _ (env_ok 3 Z) <| sr <| ag Z Z <| nx <| mv Z Z <| mv Z Z <| xo fc263 (A3 Z Z Z) Z (fieldC (k := k) (n := n) (by omega) hn) fun _ => ?_
  have hms := mod_small (n := n) hk
  have hmz : 0 ≤ n % 2 ^ k * z ∧ n % 2 ^ k * z ≤ 480 := by rcases hz with rfl | rfl <;> omega
  refine L_pur Z (p_conv Z Tryz.underlying22 Tryz.underlying3) <| J_slot (t := 10) (v := .int .i64 (n % 2 ^ k)) Z (by rw [wrap64_of (by omega)]) <| mv Z Z <| L_pur Z (p_mul64 Z Z (by omega)) <| L_pur Z (p_add64 Z Z (by omega)) <| ag Z Z <| nq <| J_ret <| J_return (()) Tryz.results193 (.tmp Z .nil) ?_ ?_
  · rfl
  · exact SU
theorem distC :
    Con Tryz.prog 94 #[.int .u32 x, .int .u32 y] E l (fun _ : Unit => .int .u32 (IntKind.u32.wrap (x - y))) (fun _ => l) := by
  refine Con.body (n := 8) Tryz.func94 Z Z _ (env_ok 2 Z) <| sr <| ag Z Z <| nx <| mv Z Z <| mv Z Z <| L_pur Z (p_sub Z Z) <| ag Z Z <| nq <| J_ret <| J_return (()) Tryz.results94 (.tmp Z .nil) ?_ ?_
  · rfl
  · exact SU
def bytesX (c : Cqe) : List Int := le4 c.1 ++ le4 (IntKind.u32.wrap c.2.1) ++ le4 c.2.2.1 ++ le4 c.2.2.2
def z16 : List Int := List.replicate 16 0
theorem bytesX_len (c : Cqe) : (bytesX c).length = 16 := rfl
theorem bytesX_bytes (c : Cqe) : Bytes (bytesX c) := fun x hx => by
  simp only [bytesX, List.mem_append] at hx
  rcases hx with ((h | h) | h) | h <;> exact le4_bytes _ x h
theorem bytesX_put (c : Cqe) : putB (putB (putB (putB z16 0 (le4 c.1)) 4 (le4 (IntKind.u32.wrap c.2.1))) 8 (le4 c.2.2.1)) 12 (le4 c.2.2.2) = bytesX c := rfl
def ofD (d : Deed) : Cqe := (d.2.1, IntKind.i32.wrap d.2.2.2.1, d.2.2.2.2.1, IntKind.u32.wrap d.1.2)
variable {c : Cqe}
theorem bytesC :
    Con Tryz.prog 194 #[.agg (encX c).toArray] E l (fun v : Value => v) (fun v => row 5 1 v ((bytesX c).map encU) :: l) := by
  refine Con.body (n := 21) Tryz.func194 Z Z _ (env_ok 1 Z) <| sr <| L_op <| x_box Z Z Z fun b1 => ag Z Z <| nq <| J_seq <| J_drawL none mixed <| ip 1 Z Z Z Z (p_fieldAddr Z fa93_0) <| iv 2 Z Z Z Z (fun _ => v_load Z ty22 HS (by exact rfl)) <| i1 0 Z <| x_make (len := 16) Z Z Tryz.underlying73 ty5 Z Z (by simp) (by simp) Z Z <| JE (z16.map encU) (by rfl) fun a4 c4 hw4 hl4 hm4 hz4 => i1 3 Z <| xc fc264 (A3 Z Z Z) Z (put32C (a := 0) (bs := z16) (fun w H => sep_reads (xs := z16.map encU) HS H) (show 4 ≤ 16 by decide) (show 16 ≤ 1000000 by decide)) <| JR fun a7 c7 hw7 hl7 hm7 hz7 => ip 4 Z Z Z Z (p_assign Z) <| i0 <| qx <| mv Z Z <| fa Z Z fa93_1 <| L_val Z (v_load Z ty21 HS (by exact rfl)) ?_
  refine L_pur Z (p_conv Z Tryz.underlying21 Tryz.underlying22) <| xo fc264 (A3 Z Z Z) Z (put32C (a := 4) (bs := (putB z16 0 (le4 c.1))) (fun w H => sep_reads (xs := (putB z16 0 (le4 c.1)).map encU) HS H) (show 8 ≤ 16 by decide) (show 16 ≤ 1000000 by decide)) <| JR fun a12 c12 hw12 hl12 hm12 hz12 => ag Z Z <| nx <| mv Z Z <| fa Z Z fa93_2 <| L_val Z (v_load Z ty22 HS (by exact rfl)) <| xo fc264 (A3 Z Z Z) Z (put32C (a := 8) (bs := (putB (putB z16 0 (le4 c.1)) 4 (le4 (IntKind.u32.wrap c.2.1)))) (fun w H => sep_reads (xs := (putB (putB z16 0 (le4 c.1)) 4 (le4 (IntKind.u32.wrap c.2.1))).map encU) HS H) (show 12 ≤ 16 by decide) (show 16 ≤ 1000000 by decide)) <| JR fun a16 c16 hw16 hl16 hm16 hz16 => ag Z Z <| nx <| mv Z Z <| fa Z Z fa93_3 <| L_val Z (v_load Z ty22 HS (by exact rfl)) ?_
  refine xo fc264 (A3 Z Z Z) Z (put32C (a := 12) (bs := (putB (putB (putB z16 0 (le4 c.1)) 4 (le4 (IntKind.u32.wrap c.2.1))) 8 (le4 c.2.2.1))) (fun w H => sep_reads (xs := (putB (putB (putB z16 0 (le4 c.1)) 4 (le4 (IntKind.u32.wrap c.2.1))) 8 (le4 c.2.2.1)).map encU) HS H) (show 16 ≤ 16 by decide) (show 16 ≤ 1000000 by decide)) <| JE ((bytesX c).map encU) (by rw [bytesX_put]) fun a20 c20 hw20 hl20 hm20 hz20 => ag Z Z <| nq <| J_ret ?_
  exact J_return (_) Tryz.results194 (.tmp Z .nil) Z SU
variable {d : Deed}
theorem compOfC :
    Con Tryz.prog 176 #[.agg (encD d).toArray] E l (fun _ : Unit => .agg (encX (ofD d)).toArray) (fun _ => l) := by
  refine Con.body (n := 15) Tryz.func176 Z Z _ (env_ok 1 Z) <| sr <| L_op <| x_box Z Z Z fun b1 => L_op <| x_alloc ty93 Z fun b2 => nx <| fa Z Z fa45_1 <| L_val Z (v_load Z ty22 HS (by exact rfl)) <| fa Z Z fa45_3 <| L_val Z (v_load Z ty3 HS (by exact rfl)) <| L_pur Z (p_conv Z Tryz.underlying3 Tryz.underlying21) <| fa Z Z fa45_4 <| L_val Z (v_load Z ty22 HS (by exact rfl)) <| fa Z Z fa45_0 <| fa Z Z fa36_1 <| L_val Z (v_load Z ty3 HS (by exact rfl)) <| L_pur Z (p_conv Z Tryz.underlying3 Tryz.underlying22) <| L_pur Z (bld93 (.cons Z (.cons Z (.cons Z (.cons Z .nil)))) (by repeat constructor)) <| L_op <| x_store Z Z ty93 Z SM SM RO PT <| nq <| J_ret <| J_return (()) Tryz.results176 (.cellA Z ty93 HS CT .nil) ?_ ?_
  · rfl
  · exact SU
section
variable {P : Program} {ops : Array Oper} {Q : Exit → Act → World → Prop} {E : World} {l l' m : List As} {n : Nat} {F : Env} {K : Act → World → Prop}
variable {d : Nat} {T : TypeId} {p : String} {e : Array Edge} {g : Option (Nat × Bool)} {dst : Option Tmp} {t : TypeId} {x y z : Operand} {u v : Value}
variable {w : World} {agg : Bool} {zs : List Value}
theorem run_copy_sz {sT ty el : TypeId} {gb dl dc sl sc sz by_ : Nat} {a : Addr} {cur : Array Value} {bt : TypeId} {cs : List Value} (hu : P.underlying sT = some (.slice el)) (hT : Ty P el sz by_ agg zs)
    (hg : w.heap[gb]? = some (.cells cur bt (0, 0))) (hn : cs.length = Nat.min sl dl * sz) (hsrc : ∀ j v, cs[j]? = some v → w.cell? (a.add j) = some v) (hfit : o + cs.length ≤ cur.size) (h1 : ∀ v ∈ cs, v.oneCell' = true) :
    (Builtin.copy_ #[sT, sT] ty #[.slice (some ⟨gb, o, none⟩) dl dc, .slice (some a) sl sc]).run P w =
      .ok (.int .i64 (Nat.min sl dl : Nat)) (w.setRow gb (cur.toList.take o ++ cs ++ cur.toList.drop (o + cs.length)).toArray) := by
  have hl := run_loadCells_list (P := P) w a cs hsrc
  have hst := run_storeCells_at P gb o bt cs 0 cur w hg (by simpa using hfit) h1
  simp only [Nat.add_zero] at hst
  simp [Builtin.copy_, run_underlying hu, Builtin.lenOf, Builtin.firstCells, hT.sizeOf, ← hn, hl, hst, goInt]
theorem run_copy_nothing {sT ty el : TypeId} {dl dc sl sc sz by_ : Nat} {a b : Option Addr} (hu : P.underlying sT = some (.slice el)) (hT : Ty P el sz by_ agg zs) (h0 : Nat.min sl dl = 0) :
    (Builtin.copy_ #[sT, sT] ty #[.slice b dl dc, .slice a sl sc]).run P w = .ok (.int .i64 (0 : Nat)) w := by
  have h0' : min sl dl = 0 := h0
  cases a <;> cases b <;> simp [Builtin.copy_, run_underlying hu, Builtin.lenOf, Builtin.firstCells, hT.sizeOf, h0', loadCells, loadCellsFrom, storeCells, goInt]
theorem copy_op {sT : TypeId} {v2 : Value} {r : Value} {w' : World} (hx : evl F x = some v) (hy : evl F y = some v2) (hd : Nat.blt d n = true) {a : Act} (hF : Fr n F a)
    (hrun : (Builtin.copy_ #[sT, sT] T #[v, v2]).run P w = .ok r w') (hs : Sep E w' l') (k : Jk E l' n ((d, r) :: F) K) :
    if Region.wanted (⟨some d, .call { callee := .builtin .copy, args := #[x, y], argTypes := #[sT, sT] }, T, p, e, none⟩ : Oper) (yielded ops a.tmps) = true then (⟨some d, .call { callee := .builtin .copy, args := #[x, y], argTypes := #[sT, sT] }, T, p, e, none⟩ : Oper).wp P a w K Q else K (a.put (some d) undef) w := by
  have hw : Region.wanted (⟨some d, .call { callee := .builtin .copy, args := #[x, y], argTypes := #[sT, sT] }, T, p, e, none⟩ : Oper) (yielded ops a.tmps) = true := rfl
  rw [if_pos hw]
  unfold Oper.wp
  have : (execOp a.eval ⟨some d, .call { callee := .builtin .copy, args := #[x, y], argTypes := #[sT, sT] }, T, p, e, none⟩).run P w = .ok (.value r) w' := by
    simp [execOp, resolve, invoke, builtin, hF.evl hx, hF.evl hy, hrun]
  rw [this]
  exact k w' _ hs (hF.put hd)
theorem x_copyTo {el sT : TypeId} {b o len cap sz by_ k0 dl dc : Nat} {xs ys : List (List Value)} {v2 : Value} (hx : evl F x = some (.slice (if cap = k0 then some ⟨b, o, none⟩ else (some (⟨b, o, none⟩ : Addr)).map (·.add (k0 * sz))) dl dc)) (hy : evl F y = some v2)
    (ht : P.underlying sT = some (.slice el)) (hT : Ty P el sz by_ agg zs) (hp : Pick (row el sz (.slice (some ⟨b, o, none⟩) len cap) xs) l m) (hr : ∀ w, Sep E w l → Reads w sz v2 ys) (hi : ys.length ≤ dl) (hk : k0 + ys.length ≤ xs.length) (hd : Nat.blt d n = true)
    (k : Jk E (row el sz (.slice (some ⟨b, o, none⟩) len cap) (xs.take k0 ++ ys ++ xs.drop (k0 + ys.length)) :: m) n ((d, .int .i64 (ys.length : Nat)) :: F) K) :
    Jop P ops Q ⟨some d, .call { callee := .builtin .copy, args := #[x, y], argTypes := #[sT, sT] }, T, p, e, none⟩ E l n F K := fun w a H hF => by
  have hrd := hr w H
  obtain ⟨a2, c2, hv2, hc2, hc2', hn2, ha2⟩ := hrd.is
  have H' := H.pick hp
  obtain ⟨S, hS⟩ := H'.head
  obtain ⟨C, hC, hl, hlc, hsz⟩ := row_block hS
  have hyl := hrd.wf.len
  subst hv2
  by_cases h0 : ys = []
  · subst h0
    refine copy_op hx hy hd hF (w' := w) (r := .int .i64 (0 : Nat)) (run_copy_nothing ht hT (by simp)) ?_ k
    simpa using H'
  · have hpos : 0 < ys.length := List.length_pos_iff.2 h0
    have hne : cap ≠ k0 := by omega
    rw [if_neg hne] at hx
    simp only [Option.map_some, Addr.add_lit] at hx
    cases a2 with
    | none => exact absurd (hn2 rfl).1 h0
    | some ad =>
      have hmul : k0 * sz + ys.length * sz ≤ xs.length * sz := by rw [← Nat.add_mul]; exact Nat.mul_le_mul_right _ hk
      have hmul2 : xs.length * sz ≤ cap * sz := Nat.mul_le_mul_right _ (by omega)
      have hrun := run_copy_sz (P := P) (w := w) (ty := T) (o := o + k0 * sz) (dl := dl) (dc := dc) (sl := ys.length) (sc := c2) (a := ad) (cs := ys.flatten) ht hT hC (by rw [hyl]; congr 1; exact (Nat.min_eq_left hi).symm) (ha2 ad rfl).2 (by rw [hyl]; omega) hrd.wf.one
      have hmin : Nat.min ys.length dl = ys.length := Nat.min_eq_left hi
      rw [hmin] at hrun
      exact copy_op hx hy hd hF hrun (H'.rep .here setRow_same (row_splice hC hrd.wf hk)) k
/-! ### two rows lie apart -/
end
theorem lset_same {α : Type} {xs : List α} {i : Nat} {y : α} (h : xs[i]? = some y) : xs.set i y = xs := by
  obtain ⟨hl, rfl⟩ := List.getElem?_eq_some_iff.1 h
  exact List.set_getElem_self hl
variable {ms : List (List Int)}
theorem snd_at {xs : List (Value × List Int)} {u : Nat} {r : List Int} (h : xs.map Prod.snd = ms) (hr : ms[u]? = some r) : ∃ v, xs[u]? = some (v, r) := by
  subst h
  rw [List.getElem?_map] at hr
  obtain ⟨⟨v, x⟩, h1, rfl⟩ := Option.map_eq_some_iff.1 hr
  exact ⟨v, h1⟩
theorem fst_set {xs : List (Value × List Int)} {u : Nat} {r r' : List Int} (h : xs[u]? = some (v, r)) : ((xs.set u (v, r')).map fun x => [x.1]) = xs.map fun x => [x.1] := by
  rw [List.map_set]
  exact lset_same (by rw [List.getElem?_map, h]; rfl)
theorem partC {b u off n br orr len cr : Nat} {ms : List Int} {xs : List (Value × List Int)} (hb : Has (blk b 292 [v]) l) (hv : Has (row 73 1 v (xs.map fun x => [x.1])) l) (hx : xs[u]? = some (.slice (some ⟨br, orr, none⟩) len cr, ms)) (hxl : xs.length ≤ 64) (ho : off + n ≤ 512) (hc : 512 ≤ cr) :
    Con Tryz.prog 85 #[.pointer (some ⟨b, 0, none⟩), .int .i64 ((u : Int) + 1), .int .i64 (off : Int), .int .i64 (n : Int)] E l (fun _ : Unit => .tuple #[.slice (if cr = off then some ⟨br, orr, none⟩ else (some (⟨br, orr, none⟩ : Addr)).map (·.add (off * 1))) n (cr - off), .bool true]) (fun _ => l) := by
  refine Con.body (n := 52) Tryz.func85 Z Z _ (env_ok 4 Z) ?_
  have hxu := (List.getElem?_eq_some_iff.1 hx).1
  refine J_row hv fun hw a cap hv' h1 h2 h3 => ?_
  have hml : (xs.map fun x : Value × List Int => [x.1]).length = xs.length := List.length_map _
  obtain ⟨bx, ox, rfl⟩ := h3 (by intro h; rw [h] at hml; simp at hml; omega)
  subst hv'
  have hm : cap ≤ 9223372036854775807 := h2
  refine sr <| ag Z Z <| ag Z Z <| nxx <| mv Z Z <| L_pur Z (p_lss Z Z) <| mv Z Z <| J_bool (t := 12) (c := false) Z (by first | (simp; omega) | simp) <| gp Z Z Z (p_move Z) Z <| gp Z Z Z (p_move Z) Z <| L_op <| G_on Z Z Z <| J_pur (p_nilCheck Z) Z Z Z <| gp Z Z Z (p_fieldAddr Z fa292_0) Z <| L_op <| G_on Z Z Z <| J_val (v_load Z ty290 HS (by exact rfl)) Z Z Z <| gp Z Z Z (p_len Z Tryz.underlying290) Z <| gp Z Z Z (p_gtr Z Z) Z <| L_pur Z (p_pick_f Z Z) <| mv Z Z <| J_bool (t := 21) (c := false) Z (by first | (simp; omega) | simp) <| gp Z Z Z (p_move Z) Z <| gp Z Z Z (p_lss Z Z) Z <| L_pur Z (p_pick_f Z Z) <| mv Z Z <| J_bool (t := 25) (c := false) Z (by first | (simp; omega) | simp) <| gp Z Z Z (p_move Z) Z <| gp Z Z Z (p_lss Z Z) Z ?_
  refine L_pur Z (p_pick_f Z Z) <| mv Z Z <| J_bool (t := 29) (c := false) Z (by first | (simp; omega) | simp) <| gp Z Z Z (p_move Z) Z <| L_op <| G_on Z Z Z <| J_pur (p_gtr Z Z) Z Z Z <| L_pur Z (p_pick_f Z Z) <| mv Z Z <| J_bool (t := 33) (c := false) Z (by first | (simp; omega) | simp) <| gp Z Z Z (p_move Z) Z <| L_op <| G_on Z Z Z <| J_pur (p_move Z) Z Z Z <| gp Z Z Z (p_sub64 Z Z (by omega)) Z <| gp Z Z Z (p_gtr Z Z) Z <| L_pur Z (p_pick_f Z Z) <| nq <| J_bool (t := 38) (c := false) Z (by first | (simp; omega) | simp) <| C_false Z <| J_skip <| qx <| mv Z Z <| nc Z Z <| fa Z Z fa292_0 <| L_val Z (v_load Z ty290 HS (by exact rfl)) <| mv Z Z <| L_pur Z (p_sub64 Z Z (by omega)) <| L_pur Z (p_indexAddr Z Z Tryz.underlying290 ty73 (by omega) (by simp; omega)) <| L_val Z (v_loadE1 Z ty73 hv (by rw [show ((u : Int) + 1 - 1).toNat = u by omega, List.getElem?_map, hx]; rfl)) ?_
  refine mv Z Z <| mv Z Z <| mv Z Z <| L_pur Z (p_add64 Z Z (by omega)) <| L_pur Z (p_slice Z Tryz.underlying73 ty5 Z Z (by omega) (by omega) (by omega)) <| J_slot (t := 51) (v := .slice (if cr = off then some ⟨br, orr, none⟩ else (some (⟨br, orr, none⟩ : Addr)).map (·.add (off * 1))) n (cr - off)) Z (by rw [show ((off : Int) + (n : Int)).toNat = off + n by omega, show ((off : Int)).toNat = off by omega, Nat.add_sub_cancel_left]) <| ag Z Z <| ag Z Z <| nq <| J_ret <| J_return (()) Tryz.results85 (.tmp Z (.tmp Z .nil)) ?_ ?_
  · rfl
  · exact SU
theorem readC {u : Nat} {r : List Int} (hp : Pick (memA b ms) l m) (hms : ms.length = 64) (hu : ms[u]? = some r) (hrl : r.length = 512) {off n : Nat} (ho : off + n ≤ 512) :
  Con Tryz.prog 50 #[.pointer (some ⟨b, 0, none⟩), .int .i64 ((u : Int) + 1), .int .i64 (off : Int), .int .i64 (n : Int)] E l (fun v : Value => .tuple #[v, .bool true]) (fun v => row 5 1 v (((r.drop off).take n).map encU) :: memA b ms :: m) := by
 refine Con.body (n := 23) Tryz.func50 Z Z _ (env_ok 4 Z) <| J_pick hp <| J_memO fun v xs hxs => ?_
 have hxl : xs.length = 64 := by rw [← hms, ← show xs.map Prod.snd = ms from hxs, List.length_map]
 obtain ⟨vr, hx⟩ := snd_at hxs hu
 have hxu := (List.getElem?_eq_some_iff.1 hx).1
 refine J_pick (A := each memF xs) PC <| J_eachOut hx <| J_asTo (B := row 5 1 vr (r.map encU)) (by rfl) <| J_row .here fun hwr ar cr hvr hr1 hr2 hr3 => ?_
 have hlr : (r.map encU).length = 512 := by rw [List.length_map]; exact hrl
 obtain ⟨br, orr, rfl⟩ := hr3 (by intro h; rw [h] at hlr; simp at hlr)
 subst hvr
 have hcr : cr ≤ 9223372036854775807 := hr2
 refine sr <| ag Z Z <| ag Z Z <| nx <| mv Z Z <| mv Z Z <| mv Z Z <| mv Z Z <| xo fc85 (A4 Z Z Z Z) Z (partC (len := (r.map encU).length) HS HS hx (by omega) ho (by omega)) fun _ => mv Z Z <| L_pur Z (p_extract Z Z) <| L_pur Z (p_extract Z Z) <| ag Z Z <| ag Z Z <| nx <| mv Z Z <| xo fc97 (A1 Z) Z (clone97 (xs := (((r.map encU).drop off).take n)) (fun w H => ((sep_reads (xs := r.map encU) HS H).drop (lo := off) (by omega)).take (i := n) (by simp; omega)) (by simp; omega)) <| JE (((r.drop off).take n).map encU) (by rw [List.map_take, List.map_drop]) fun a21 c21 hw21 hl21 hm21 hz21 => mv Z Z <| ag Z Z <| ag Z Z <| nq <| J_ret <| J_pick (A := row 5 1 (.slice (some ⟨br, orr, none⟩) (r.map encU).length cr) _) PC <| J_asTo (B := memF (.slice (some ⟨br, orr, none⟩) (r.map encU).length cr, r)) (by rfl) <| J_pick (A := each memF _) PC <| J_pick (A := memF _) PC ?_
 refine J_eachIn (.slice (some ⟨br, orr, none⟩) (r.map encU).length cr, r) hxu ?_
 skip
 refine J_pick (A := row 73 1 v _) PC <| J_rowEq (ys := (xs.set u (.slice (some ⟨br, orr, none⟩) (r.map encU).length cr, r)).map fun x : Value × List Int => [x.1]) (fst_set hx).symm <| J_memS (b := b) (ms := (ms.set u r)) v (xs.set u (.slice (some ⟨br, orr, none⟩) (r.map encU).length cr, r)) PX (by show List.map Prod.snd _ = _; rw [List.map_set, show xs.map Prod.snd = ms from hxs]) <| J_asTo (B := memA b ms) (by rw [lset_same hu]) ?_
 exact J_return (_) Tryz.results50 (.tmp Z (.tmp Z .nil)) Z SU
theorem writeC {u : Nat} {r : List Int} (hp : Pick (memA b ms) l m) (hms : ms.length = 64) (hu : ms[u]? = some r) (hrl : r.length = 512) {off : Nat} {v' : Value} (hr : ∀ w, Sep E w m → Reads w 1 v' (ys.map encU)) (ho : off + ys.length ≤ 512) :
    Con Tryz.prog 40 #[.pointer (some ⟨b, 0, none⟩), .int .i64 ((u : Int) + 1), .int .i64 (off : Int), v'] E l (fun _ : Unit => .bool true) (fun _ => memA b (ms.set u (putB r off ys)) :: m) := by
  refine Con.body (n := 24) Tryz.func40 Z Z _ (env_ok 4 Z) <| J_readsB (fun w H => hr w (H.pick hp).tail) fun hw' a' cap' hv' h1' h2' h3' => ?_
  subst hv'
  refine J_pick hp <| J_memO fun v xs hxs => ?_
  have hxl : xs.length = 64 := by rw [← hms, ← show xs.map Prod.snd = ms from hxs, List.length_map]
  obtain ⟨vr, hx⟩ := snd_at hxs hu
  have hxu := (List.getElem?_eq_some_iff.1 hx).1
  refine J_pick (A := each memF xs) PC <| J_eachOut hx <| J_asTo (B := row 5 1 vr (r.map encU)) (by rfl) <| J_row .here fun hwr ar cr hvr hr1 hr2 hr3 => ?_
  have hlr : (r.map encU).length = 512 := by rw [List.length_map]; exact hrl
  obtain ⟨br, orr, rfl⟩ := hr3 (by intro h; rw [h] at hlr; simp at hlr)
  subst hvr
  have hcr : cr ≤ 9223372036854775807 := hr2
  refine sr <| ag Z Z <| nx <| mv Z Z <| mv Z Z <| mv Z Z <| mv Z Z <| L_pur Z (p_len Z Tryz.underlying73) <| J_slot (t := 16) (v := .int .i64 (ys.length : Int)) Z (by simp) <| xo fc85 (A4 Z Z Z Z) Z (partC (len := (r.map encU).length) (n := ys.length) HS HS hx (by omega) ho (by omega)) fun _ => mv Z Z <| L_pur Z (p_extract Z Z) <| L_pur Z (p_extract Z Z) <| ag Z Z <| ag Z Z <| nx <| mv Z Z <| mv Z Z <| L_op <| x_copyTo (k0 := off) (len := (r.map encU).length) (xs := r.map encU) (ys := ys.map encU) Z Z Tryz.underlying73 ty5 PC (fun w H => hr w (Sub.sep SU H)) (by simp) (by simp; omega) Z <| J_rowEq (ys := (putB r off ys).map encU) (by simp [putB]) <| nx <| mv Z Z <| ag Z Z <| nq <| J_ret <| J_pick (A := row 5 1 (.slice (some ⟨br, orr, none⟩) (r.map encU).length cr) _) PC ?_
  refine J_asTo (B := memF (.slice (some ⟨br, orr, none⟩) (r.map encU).length cr, putB r off ys)) (by rfl) <| J_pick (A := each memF _) PC <| J_pick (A := memF _) PC <| J_eachIn (.slice (some ⟨br, orr, none⟩) (r.map encU).length cr, putB r off ys) hxu ?_
  skip
  refine J_pick (A := row 73 1 v _) PC <| J_rowEq (ys := (xs.set u (.slice (some ⟨br, orr, none⟩) (r.map encU).length cr, putB r off ys)).map fun x : Value × List Int => [x.1]) (fst_set hx).symm <| J_memS (b := b) (ms := (ms.set u (putB r off ys))) v (xs.set u (.slice (some ⟨br, orr, none⟩) (r.map encU).length cr, putB r off ys)) PX (by show List.map Prod.snd _ = _; rw [List.map_set, show xs.map Prod.snd = ms from hxs]) <| J_return (()) Tryz.results40 (.tmp Z .nil) ?_ ?_
  · rfl
  · exact SU
def rowAt (ms : List (List Int)) (u : Int) : List Int := (ms[(u - 1).toNat]?).getD []
structure MemOk (ms : List (List Int)) : Prop where
  len : ms.length = 64
  rows : ∀ r ∈ ms, r.length = 512 ∧ Bytes r
structure RgOk (r : Rg) : Prop where
  sq : 1 ≤ r.sq ∧ r.sq ≤ 64
  cq : 1 ≤ r.cq ∧ r.cq ≤ 64
  cb : 0 ≤ r.cb ∧ r.cb ≤ 4
  tail : 0 ≤ r.tail ∧ r.tail < 4294967296
  sb : 0 ≤ r.sb ∧ r.sb ≤ 3
  head : 0 ≤ r.head ∧ r.head < 4294967296
theorem MemOk.at (h : MemOk ms) (hu : 1 ≤ u ∧ u ≤ 64) : ms[(u - 1).toNat]? = some (rowAt ms u) ∧ (rowAt ms u).length = 512 ∧ Bytes (rowAt ms u) := by
  have hl : (u - 1).toNat < ms.length := by rw [h.len]; omega
  have e := List.getElem?_eq_getElem hl
  have e2 : rowAt ms u = ms[(u - 1).toNat] := by unfold rowAt; rw [e]; rfl
  exact ⟨by rw [e2]; exact e, by rw [e2]; exact h.rows _ (List.getElem_mem hl)⟩
theorem MemOk.put (h : MemOk ms) {u : Nat} {r : List Int} (hr : r.length = 512 ∧ Bytes r) : MemOk (ms.set u r) := ⟨by rw [List.length_set, h.len], fun x hx => by
  rcases List.mem_or_eq_of_mem_set hx with h1 | h1
  · exact h.rows x h1
  · rw [h1]; exact hr⟩
def rgFar (r : Rg) (ms : List (List Int)) : Int := IntKind.u32.wrap (r.tail - getN (rowAt ms r.cq) 0 4)
def rgRoom (r : Rg) (ms : List (List Int)) : Int := if rgFar r ms > 2 ^ r.cb.toNat then 0 else 2 ^ r.cb.toNat - rgFar r ms
def rgWrOk (r : Rg) (ms : List (List Int)) : Bool := decide (rgFar r ms < 2 ^ r.cb.toNat)
def rgRow (r : Rg) (ms : List (List Int)) (c : Cqe) : List Int := putB (putB (rowAt ms r.cq) (16 + r.tail % 2 ^ r.cb.toNat * 16).toNat (bytesX c)) 4 (le4 (IntKind.u32.wrap (r.tail + 1)))
def rgUp (r : Rg) : Rg := { r with tail := IntKind.u32.wrap (r.tail + 1) }
def postOk (r : Rg) (ms : List (List Int)) : Bool := r.over.isEmpty && rgWrOk r ms
def postR (r : Rg) (ms : List (List Int)) (c : Cqe) : Rg := if postOk r ms then rgUp r else { r with over := r.over ++ [c] }
def postM (r : Rg) (ms : List (List Int)) (c : Cqe) : List (List Int) := if postOk r ms then ms.set (r.cq - 1).toNat (rgRow r ms c) else ms
theorem wrap32_in (n : Int) : 0 ≤ IntKind.u32.wrap n ∧ IntKind.u32.wrap n < 4294967296 := by
  have : IntKind.u32.wrap n = n % 4294967296 := by simp [IntKind.wrap, IntKind.bits, IntKind.signed]
  rw [this]; omega
theorem cutI_in {n a b : Int} (h : a ≤ b) : a ≤ cutI n a b ∧ cutI n a b ≤ b := by
  unfold cutI; split <;> split <;> omega
theorem rgNew_is {a b cs cc : Int} (ha : 1 ≤ a ∧ a ≤ 64) (hb : 1 ≤ b ∧ b ≤ 64) : RgOk (rgNew a b cs cc) := ⟨ha, hb, cutI_in (by omega), ⟨by show (0 : Int) ≤ 0; omega, by show (0 : Int) < _; omega⟩, cutI_in (by omega), ⟨by show (0 : Int) ≤ 0; omega, by show (0 : Int) < _; omega⟩⟩
theorem RgOk.up (h : RgOk r) : RgOk (rgUp r) := ⟨h.sq, h.cq, h.cb, wrap32_in _, h.sb, h.head⟩
theorem pow_cb {k : Int} (h : 0 ≤ k ∧ k ≤ 4) : (1 : Int) ≤ 2 ^ k.toNat ∧ (2 : Int) ^ k.toNat ≤ 16 ∧ IntKind.u32.wrap (1 * 2 ^ k.toNat) = 2 ^ k.toNat := by
  have : k = 0 ∨ k = 1 ∨ k = 2 ∨ k = 3 ∨ k = 4 := by omega
  rcases this with rfl | rfl | rfl | rfl | rfl <;> decide
theorem place_in (h : RgOk r) : 0 ≤ r.tail % 2 ^ r.cb.toNat ∧ r.tail % 2 ^ r.cb.toNat ≤ 15 := by
  have h2 := pow_cb h.cb
  have h3 := Int.emod_nonneg r.tail (b := 2 ^ r.cb.toNat) (by omega)
  have h4 := Int.emod_lt_of_pos r.tail (b := 2 ^ r.cb.toNat) (by omega)
  omega
theorem rgRow_ok (h : RgOk r) (hM : MemOk ms) (c : Cqe) : (rgRow r ms c).length = 512 ∧ Bytes (rgRow r ms c) := by
  obtain ⟨h1, h2, h3⟩ := hM.at h.cq
  have h4 := place_in h
  have h5 : (putB (rowAt ms r.cq) (16 + r.tail % 2 ^ r.cb.toNat * 16).toNat (bytesX c)).length = 512 := by rw [putB_len (by rw [bytesX_len]; omega), h2]
  exact ⟨by unfold rgRow; rw [putB_len (by simp [le4]; omega), h5], putB_bytes (putB_bytes h3 (bytesX_bytes c)) (le4_bytes _)⟩
theorem postM_ok (h : RgOk r) (hM : MemOk ms) (c : Cqe) : MemOk (postM r ms c) := by
  unfold postM; split
  · exact hM.put (rgRow_ok h hM c)
  · exact hM
theorem postR_ok (h : RgOk r) (c : Cqe) : RgOk (postR r ms c) := by
  unfold postR; split
  · exact h.up
  · exact ⟨h.sq, h.cq, h.cb, h.tail, h.sb, h.head⟩
theorem ringWord (hp : Picks [blk b 217 [.pointer (some ⟨mb, 0, none⟩), .int .i64 r.sq, .int .i64 r.cq, .int .i64 r.sb, .int .i64 r.cb, .int .u32 r.head, .int .u32 r.tail, v], memA mb ms] l m) {x : List Int} {at_ : Nat} (hat : at_ + 4 ≤ 512) {u : Nat} (hms : ms.length = 64) (hu : ms[u]? = some x) (hxl : x.length = 512) (hB : Bytes x) :
    Con Tryz.prog 95 #[.pointer (some ⟨b, 0, none⟩), .int .i64 ((u : Int) + 1), .int .i64 (at_ : Int)] E l (fun _ : Unit => .int .u32 (getN x at_ 4)) (fun _ => blk b 217 [.pointer (some ⟨mb, 0, none⟩), .int .i64 r.sq, .int .i64 r.cq, .int .i64 r.sb, .int .i64 r.cb, .int .u32 r.head, .int .u32 r.tail, v] :: memA mb ms :: m) := by
  refine Con.body (n := 21) Tryz.func95 Z Z _ (env_ok 3 Z) <| J_picks2 hp <| sr <| ag Z Z <| nx <| mv Z Z <| nc Z Z <| fa Z Z fa217_0 <| L_val Z (v_load Z ty75 HS (by exact rfl)) <| mv Z Z <| mv Z Z <| xo fc50 (A4 Z Z Z Z) Z (readC (ms := ms) (u := u) (off := at_) (n := 4) PC hms hu hxl (by omega)) fun x16 => mv Z Z <| L_pur Z (p_extract Z Z) <| L_pur Z (p_extract Z Z) <| ag Z Z <| ag Z Z <| nx <| mv Z Z <| xo fc139 (A2 Z Z) Z (u32C (a := 0) (bs := (x.drop at_).take 4) (fun w H => sep_reads (xs := ((x.drop at_).take 4).map encU) HS H) (by simp; omega) (by simp; omega) (part_bytes hB)) fun _ => J_slot (t := 20) (v := .int .u32 (getN x at_ 4)) Z (by rw [getN_part]) <| ag Z Z <| nq <| J_ret <| J_return (()) Tryz.results95 (.tmp Z .nil) ?_ ?_
  · rfl
  · exact SU
theorem ringPuts (hp : Picks [blk b 217 [.pointer (some ⟨mb, 0, none⟩), .int .i64 r.sq, .int .i64 r.cq, .int .i64 r.sb, .int .i64 r.cb, .int .u32 r.head, .int .u32 r.tail, v], memA mb ms] l m) {x : List Int} {n : Int} {at_ : Nat} (hat : at_ + 4 ≤ 512) {u : Nat} (hms : ms.length = 64) (hu : ms[u]? = some x) (hxl : x.length = 512)  :
    Con Tryz.prog 195 #[.pointer (some ⟨b, 0, none⟩), .int .i64 ((u : Int) + 1), .int .i64 (at_ : Int), .int .u32 n] E l (fun _ : Unit => .tuple #[]) (fun _ => blk b 217 [.pointer (some ⟨mb, 0, none⟩), .int .i64 r.sq, .int .i64 r.cq, .int .i64 r.sb, .int .i64 r.cb, .int .u32 r.head, .int .u32 r.tail, v] :: memA mb (ms.set u (putB x at_ (le4 n))) :: m) := by
  refine Con.body (n := 18) Tryz.func195 Z Z _ (env_ok 4 Z) <| J_picks2 hp <| J_drawL (some 9) mixed <| ip 0 Z Z Z Z (p_move Z) <| ip 1 Z Z Z Z (p_nilCheck Z) <| ip 2 Z Z Z Z (p_fieldAddr Z fa217_0) <| iv 3 Z Z Z Z (fun _ => v_load Z ty75 HS (by exact rfl)) <| ip 4 Z Z Z Z (p_move Z) <| ip 5 Z Z Z Z (p_move Z) <| ip 7 Z Z Z Z (p_move Z) <| i1 6 Z <| x_make (len := 4) Z Z Tryz.underlying73 ty5 Z Z (by simp) (by simp) Z Z <| JE ((List.replicate 4 0).map encU) (by rfl) fun a14 c14 hw14 hl14 hm14 hz14 => i1 8 Z <| xc fc264 (A3 Z Z Z) Z (put32C (a := 0) (bs := List.replicate 4 0) (fun w H => sep_reads (xs := (List.replicate 4 (0 : Int)).map encU) HS H) (by decide) (by decide)) ?_
  refine JE ((le4 n).map encU) (by rfl) fun a16 c16 hw16 hl16 hm16 hz16 => i1 9 Z <| xc fc40 (A4 Z Z Z Z) Z (writeC (ms := ms) (u := u) (r := x) (off := at_) (ys := le4 n) PC hms hu hxl (fun w H => sep_reads (xs := (le4 n).map encU) HS H) (by simp [le4]; omega)) fun _ => i0 <| J_endnormal ?_
  exact J_return (()) Tryz.results195 .nil Z SU
theorem ringRoom (hp : Picks [blk b 217 [.pointer (some ⟨mb, 0, none⟩), .int .i64 r.sq, .int .i64 r.cq, .int .i64 r.sb, .int .i64 r.cb, .int .u32 r.head, .int .u32 r.tail, v], memA mb ms] l m) (hR : RgOk r) (hM : MemOk ms) :
    Con Tryz.prog 49 #[.pointer (some ⟨b, 0, none⟩)] E l (fun _ : Unit => .tuple #[.int .i64 (rgRoom r ms), .bool (!decide (rgFar r ms > 2 ^ r.cb.toNat))]) (fun _ => blk b 217 [.pointer (some ⟨mb, 0, none⟩), .int .i64 r.sq, .int .i64 r.cq, .int .i64 r.sb, .int .i64 r.cb, .int .u32 r.head, .int .u32 r.tail, v] :: memA mb ms :: m) := by
  refine Con.body (n := 29) Tryz.func49 Z Z _ (env_ok 1 Z) <| J_picks2 hp ?_
  obtain ⟨hu, hxl, hB⟩ := hM.at hR.cq
  obtain ⟨x, hx⟩ : ∃ x, x = rowAt ms r.cq := ⟨_, rfl⟩
  obtain ⟨u, huq⟩ : ∃ u : Nat, r.cq = (u : Int) + 1 := ⟨(r.cq - 1).toNat, by have := hR.cq; omega⟩
  have hu1 : (r.cq - 1).toNat = u := by omega
  rw [← hx, hu1] at hu
  rw [← hx] at hxl hB
  have hcb := pow_cb hR.cb
  have hcr := hR.cb
  refine sr <| ag Z Z <| ag Z Z <| nq <| J_seq <| J_drawL none mixed <| ip 0 Z Z Z Z (p_move Z) <| ip 1 Z Z Z Z (p_nilCheck Z) <| ip 2 Z Z Z Z (p_fieldAddr Z fa217_6) <| iv 3 Z Z Z Z (fun _ => v_load Z ty22 HS (by exact rfl)) <| ip 4 Z Z Z Z (p_move Z) <| ip 5 Z Z Z Z (p_move Z) <| ip 6 Z Z Z Z (p_nilCheck Z) <| ip 7 Z Z Z Z (p_fieldAddr Z fa217_2) <| iv 8 Z Z Z Z (fun _ => v_load Z ty3 HS (by exact rfl)) <| J_slot (t := 14) (v := .int .i64 ((u : Int) + 1)) Z (by rw [huq]) <| ip 11 Z Z Z Z (p_move Z) <| ip 12 Z Z Z Z (p_nilCheck Z) <| ip 13 Z Z Z Z (p_fieldAddr Z fa217_4) <| iv 14 Z Z Z Z (fun _ => v_load Z ty3 HS (by exact rfl)) ?_
  refine ip 15 Z Z Z Z (p_shl Z Z (by omega) (by have : (IntKind.u32.bits : Int) = 32 := rfl; omega)) <| J_slot (t := 21) (v := .int .u32 (2 ^ r.cb.toNat)) Z (by rw [hcb.2.2]) <| i1 9 Z <| xc fc95 (A3 Z Z Z) Z (ringWord (r := r) (ms := ms) (x := x) (u := u) (at_ := 0) PX (by omega) hM.len hu hxl hB) fun _ => i1 10 Z <| xc fc94 (A2 Z Z) Z (distC) fun _ => J_slot (t := 16) (v := .int .u32 (rgFar r ms)) Z (by unfold rgFar; rw [← hx]) <| ip 16 Z Z Z Z (p_assign Z) <| ip 17 Z Z Z Z (p_assign Z) <| i0 <| Q_then <| J_seq <| sr <| mv Z Z <| mv Z Z <| L_pur Z (p_gtr Z Z) <| nq <| C_dec Z (fun h24 => ?_) (fun h24 => ?_)
  refine sr <| ag Z Z <| ag Z Z <| nq <| J_ret <| Q_then_ret <| J_return (()) Tryz.results49 (.tmp Z (.tmp Z .nil)) ?_ ?_
  · simp [one, rgRoom, h24]
  · exact SU
  have hfar := wrap32_in (r.tail - getN (rowAt ms r.cq) 0 4)
  have hfe : rgFar r ms = IntKind.u32.wrap (r.tail - getN (rowAt ms r.cq) 0 4) := rfl
  refine J_skip <| qx <| mv Z Z <| mv Z Z <| L_pur Z (p_sub Z Z) <| L_pur Z (p_conv Z Tryz.underlying22 Tryz.underlying3) <| J_slot (t := 28) (v := .int .i64 (2 ^ r.cb.toNat - rgFar r ms)) Z (by rw [wrap32u_of (by omega), wrap64_of (by omega)]) <| ag Z Z <| ag Z Z <| nq <| J_ret <| J_return (()) Tryz.results49 (.tmp Z (.tmp Z .nil)) ?_ ?_
  · simp [one, rgRoom, h24]
  · exact SU
theorem ringWrites (hp : Picks [blk b 217 [.pointer (some ⟨mb, 0, none⟩), .int .i64 r.sq, .int .i64 r.cq, .int .i64 r.sb, .int .i64 r.cb, .int .u32 r.head, .int .u32 r.tail, v], memA mb ms] l m) (hR : RgOk r) (hM : MemOk ms) :
    Con Tryz.prog 133 #[.pointer (some ⟨b, 0, none⟩), .agg (encX c).toArray] E l (fun _ : Unit => .bool (rgWrOk r ms)) (fun _ => blk b 217 [.pointer (some ⟨mb, 0, none⟩), .int .i64 (if rgWrOk r ms then rgUp r else r).sq, .int .i64 (if rgWrOk r ms then rgUp r else r).cq, .int .i64 (if rgWrOk r ms then rgUp r else r).sb, .int .i64 (if rgWrOk r ms then rgUp r else r).cb, .int .u32 (if rgWrOk r ms then rgUp r else r).head, .int .u32 (if rgWrOk r ms then rgUp r else r).tail, v] :: memA mb (if rgWrOk r ms then ms.set (r.cq - 1).toNat (rgRow r ms c) else ms) :: m) := by
  refine Con.body (n := 55) Tryz.func133 Z Z _ (env_ok 2 Z) <| J_picks2 hp ?_
  obtain ⟨hu, hxl, hB⟩ := hM.at hR.cq
  obtain ⟨x, hx⟩ : ∃ x, x = rowAt ms r.cq := ⟨_, rfl⟩
  obtain ⟨u, huq⟩ : ∃ u : Nat, r.cq = (u : Int) + 1 := ⟨(r.cq - 1).toNat, by have := hR.cq; omega⟩
  have hu1 : (r.cq - 1).toNat = u := by omega
  rw [← hx, hu1] at hu
  rw [← hx] at hxl hB
  have hcb := pow_cb hR.cb
  have hcr := hR.cb
  refine sr <| L_op <| x_box Z Z Z fun b3 => ag Z Z <| nxx <| mv Z Z <| xo fc49 (A1 Z) Z (ringRoom (r := r) (ms := ms) PX hR hM) fun _ => mv Z Z <| L_pur Z (p_extract Z Z) <| L_pur Z (p_extract Z Z) <| ag Z Z <| ag Z Z <| nx <| mv Z Z <| L_pur Z (p_not Z) <| mv Z Z <| J_gsplit (t := 14) Z (fun h14 => ?_) (fun h14 => ?_)
  have hno : rgWrOk r ms = false := by unfold rgWrOk; simp at h14 ⊢; omega
  refine gz Z Z Z Z Z <| gz Z Z Z Z Z <| L_pur Z (p_pick_t Z Z) <| nq <| C_true Z <| sr <| ag Z Z <| nq <| J_ret <| Q_then_ret <| J_pick (A := blk b _ _) PC <| J_asTo (B := blk b 217 [.pointer (some ⟨mb, 0, none⟩), .int .i64 (if rgWrOk r ms then rgUp r else r).sq, .int .i64 (if rgWrOk r ms then rgUp r else r).cq, .int .i64 (if rgWrOk r ms then rgUp r else r).sb, .int .i64 (if rgWrOk r ms then rgUp r else r).cb, .int .u32 (if rgWrOk r ms then rgUp r else r).head, .int .u32 (if rgWrOk r ms then rgUp r else r).tail, v]) (by rw [hno, if_neg (by decide)]) <| J_pick (A := memA mb _) PC <| J_asTo (B := memA mb (if rgWrOk r ms then ms.set (r.cq - 1).toNat (rgRow r ms c) else ms)) (by rw [hno, if_neg (by decide)]) <| J_return (()) Tryz.results133 (.tmp Z .nil) ?_ ?_
  · simp [one, hno]
  · exact SU
  refine gp Z Z Z (p_move Z) Z <| gp Z Z Z (p_lss Z Z) Z <| L_pur Z (p_pick_f Z Z) <| nq <| C_dec Z (fun h17 => ?_) (fun h17 => ?_)
  have hno : rgWrOk r ms = false := by unfold rgWrOk rgRoom at *; simp at h14 h17 ⊢; split at h17 <;> omega
  refine sr <| ag Z Z <| nq <| J_ret <| Q_then_ret <| J_pick (A := blk b _ _) PC <| J_asTo (B := blk b 217 [.pointer (some ⟨mb, 0, none⟩), .int .i64 (if rgWrOk r ms then rgUp r else r).sq, .int .i64 (if rgWrOk r ms then rgUp r else r).cq, .int .i64 (if rgWrOk r ms then rgUp r else r).sb, .int .i64 (if rgWrOk r ms then rgUp r else r).cb, .int .u32 (if rgWrOk r ms then rgUp r else r).head, .int .u32 (if rgWrOk r ms then rgUp r else r).tail, v]) (by rw [hno, if_neg (by decide)]) <| J_pick (A := memA mb _) PC <| J_asTo (B := memA mb (if rgWrOk r ms then ms.set (r.cq - 1).toNat (rgRow r ms c) else ms)) (by rw [hno, if_neg (by decide)]) <| J_return (()) Tryz.results133 (.tmp Z .nil) ?_ ?_
  · simp [one, hno]
  · exact SU
  have hyes : rgWrOk r ms = true := by unfold rgWrOk rgRoom at *; simp at h14 h17 ⊢; split at h17 <;> omega
  have hpl := place_in hR
  obtain ⟨off, hoff⟩ : ∃ off : Nat, 16 + r.tail % 2 ^ r.cb.toNat * 16 = (off : Int) := ⟨(16 + r.tail % 2 ^ r.cb.toNat * 16).toNat, by omega⟩
  obtain ⟨y, hy⟩ : ∃ y, y = putB x off (bytesX c) := ⟨_, rfl⟩
  have hyl : y.length = 512 := by rw [hy, putB_len (by rw [bytesX_len]; omega), hxl]
  have hul : u < ms.length := (List.getElem?_eq_some_iff.1 hu).1
  have hrow : rgRow r ms c = putB y 4 (le4 (IntKind.u32.wrap (r.tail + 1))) := by unfold rgRow; rw [← hx, hoff, Int.toNat_natCast, ← hy]
  refine J_skip <| Q_then <| J_seq <| J_drawL (some 19) mixed <| ip 0 Z Z Z Z (p_move Z) <| ip 1 Z Z Z Z (p_nilCheck Z) <| ip 2 Z Z Z Z (p_fieldAddr Z fa217_0) <| iv 3 Z Z Z Z (fun _ => v_load Z ty75 HS (by exact rfl)) <| ip 4 Z Z Z Z (p_move Z) <| ip 5 Z Z Z Z (p_nilCheck Z) <| ip 6 Z Z Z Z (p_fieldAddr Z fa217_2) <| iv 7 Z Z Z Z (fun _ => v_load Z ty3 HS (by exact rfl)) <| J_slot (t := 25) (v := .int .i64 ((u : Int) + 1)) Z (by rw [huq]) <| ip 8 Z Z Z Z (p_move Z) <| ip 9 Z Z Z Z (p_nilCheck Z) <| ip 10 Z Z Z Z (p_fieldAddr Z fa217_6) <| iv 11 Z Z Z Z (fun _ => v_load Z ty22 HS (by exact rfl)) <| ip 12 Z Z Z Z (p_move Z) <| ip 13 Z Z Z Z (p_nilCheck Z) <| ip 14 Z Z Z Z (p_fieldAddr Z fa217_4) <| iv 15 Z Z Z Z (fun _ => v_load Z ty3 HS (by exact rfl)) ?_
  refine J_slot (t := 33) (v := .int .i64 (r.cb.toNat : Int)) Z (by rw [Int.toNat_of_nonneg hcr.1]) <| iv 17 Z Z Z Z (fun _ => v_loadA Z ty93 HS CT) <| i1 16 Z <| xc fc193 (A3 Z Z Z) Z (placeC (k := r.cb.toNat) (n := r.tail) (.inl Z) (by omega) hR.tail) fun _ => J_slot (t := 34) (v := .int .i64 (off : Int)) Z (by rw [← hoff]) <| i1 18 Z <| xc fc194 (A1 Z) Z (bytesC) <| JR fun a36 c36 hw36 hl36 hm36 hz36 => i1 19 Z <| xc fc40 (A4 Z Z Z Z) Z (writeC (ms := ms) (u := u) (r := x) (off := off) (ys := bytesX c) PC hM.len hu hxl (fun w H => sep_reads (xs := (bytesX c).map encU) HS H) (by rw [bytesX_len]; omega)) fun _ => J_pick (A := memA mb _) PC <| J_asTo (B := memA mb (ms.set u y)) (by rw [hy]) <| i0 <| qx <| mv Z Z <| nc Z Z <| fa Z Z fa217_6 <| L_val Z (v_load Z ty22 HS (by exact rfl)) ?_
  refine L_pur Z (p_add Z Z) <| J_slot (t := 42) (v := .int .u32 (rgUp r).tail) Z Z <| nc Z Z <| fa Z Z fa217_6 <| L_op <| x_store Z Z ty22 Z SM SM RO PT <| J_pick (A := blk b _ _) PC <| J_asTo (B := blk b 217 [.pointer (some ⟨mb, 0, none⟩), .int .i64 (rgUp r).sq, .int .i64 (rgUp r).cq, .int .i64 (rgUp r).sb, .int .i64 (rgUp r).cb, .int .u32 (rgUp r).head, .int .u32 (rgUp r).tail, v]) (by rfl) <| nq <| J_seq <| J_drawT 9 mixed (by kernel_rfl) <| sm Z Z <| sm Z Z <| sp Z (p_nilCheck Z) <| sp Z (p_fieldAddr Z fa217_2) <| S_val Z (v_load Z ty3 HS (by exact rfl)) <| J_slot (t := 49) (v := .int .i64 ((u : Int) + 1)) Z (by rw [← huq]; rfl) <| sm Z Z <| sp Z (p_nilCheck Z) <| sp Z (p_fieldAddr Z fa217_6) <| S_val Z (v_load Z ty22 HS (by exact rfl)) <| S_nil ?_
  refine L_op (xc fc195 (A4 Z Z Z Z) Z (ringPuts (r := rgUp r) (ms := ms.set u y) (x := y) (u := u) (n := (rgUp r).tail) (at_ := 4) PX (by omega) (by rw [List.length_set, hM.len]) (by rw [List.getElem?_set_self hul]) hyl) fun _ => ?_)
  refine J_pick (A := memA mb _) PC <| J_asTo (B := memA mb (ms.set u (rgRow r ms c))) (by rw [List.set_set, hrow]; rfl) <| nx <| ag Z Z <| nq <| J_ret <| J_pick (A := blk b _ _) PC <| J_asTo (B := blk b 217 [.pointer (some ⟨mb, 0, none⟩), .int .i64 (if rgWrOk r ms then rgUp r else r).sq, .int .i64 (if rgWrOk r ms then rgUp r else r).cq, .int .i64 (if rgWrOk r ms then rgUp r else r).sb, .int .i64 (if rgWrOk r ms then rgUp r else r).cb, .int .u32 (if rgWrOk r ms then rgUp r else r).head, .int .u32 (if rgWrOk r ms then rgUp r else r).tail, v]) (by rw [hyes, if_pos Z]) <| J_pick (A := memA mb _) PC <| J_asTo (B := memA mb (if rgWrOk r ms then ms.set (r.cq - 1).toNat (rgRow r ms c) else ms)) (by rw [hyes, if_pos rfl, hu1]) <| J_return (()) Tryz.results133 (.tmp Z .nil) ?_ ?_
  · simp [one, hyes]
  · exact SU
theorem ringPost (hp : Picks [rgA b mb r, memA mb ms] l m) (hl : r.over.length ≤ 100000) (hR : RgOk r) (hM : MemOk ms) :
    Con Tryz.prog 175 #[.pointer (some ⟨b, 0, none⟩), .agg (encX c).toArray] E l (fun _ : Unit => .bool (postOk r ms)) (fun _ => rgA b mb (postR r ms c) :: memA mb (postM r ms c) :: m) := by
  refine Con.body (n := 26) Tryz.func175 Z Z _ (env_ok 2 Z) <| J_picks2 hp <| J_rgO fun v _ => J_row (.there .here) fun hw a cap hv h1 h2 h3 => ?_
  subst hv
  have hm : cap ≤ 9223372036854775807 := h2
  have hml : (r.over.map encX).length = r.over.length := List.length_map _
  refine sr <| L_op <| x_box Z Z Z fun b3 => ag Z Z <| nxx <| mv Z Z <| nc Z Z <| fa Z Z fa217_7 <| L_val Z (v_load Z ty88 HS (by exact rfl)) <| L_pur Z (p_len Z Tryz.underlying88) <| L_pur Z (p_eql Z Z) <| mv Z Z <| J_gsplit (t := 11) Z (fun h11 => ?_) (fun h11 => ?_)
  have he : r.over = [] := by simpa using h11
  refine gp Z Z Z (p_move Z) Z <| L_op <| G_on Z Z Z <| J_val (v_loadA Z ty93 HS CT) Z Z Z <| L_op <| G_on Z Z Z <| xc fc133 (A2 Z Z) Z (ringWrites (c := c) (r := r) (ms := ms) PX hR hM) fun _ => L_pur Z (p_pick_t Z Z) <| nq <| C_split Z (fun h15 => ?_) (fun h15 => ?_)
  have hok : postOk r ms = true := by unfold postOk; rw [he, h15]; rfl
  refine sr <| ag Z Z <| nq <| J_ret <| Q_then_ret <| J_pick (A := row 93 4 _ _) PC <| J_rowEq (ys := (rgUp r).over.map encX) (by rfl) <| J_pick (A := blk b _ _) PC <| J_asTo (B := blk b 217 [.pointer (some ⟨mb, 0, none⟩), .int .i64 (rgUp r).sq, .int .i64 (rgUp r).cq, .int .i64 (rgUp r).sb, .int .i64 (rgUp r).cb, .int .u32 (rgUp r).head, .int .u32 (rgUp r).tail, (.slice a (r.over.map encX).length cap)]) (by rw [h15, if_pos Z]) <| J_pick (A := memA mb _) PC <| J_asTo (B := memA mb (ms.set (r.cq - 1).toNat (rgRow r ms c))) (by rw [h15, if_pos Z]) <| J_rgS (b := b) (mb := mb) (r := rgUp r) _ PX trivial <| J_asTo (B := rgA b mb (postR r ms c)) (by rw [postR, hok]; rfl) <| J_pick (A := memA mb _) PC <| J_asTo (B := memA mb (postM r ms c)) (by rw [postM, hok]; rfl) <| J_return (()) Tryz.results175 (.tmp Z .nil) ?_ ?_
  · simp [one, hok]
  · exact SU
  have hno : rgWrOk r ms = false := h15
  have hok : postOk r ms = false := by unfold postOk; rw [hno, Bool.and_false]
  refine J_skip <| Q_then <| J_seq <| J_pick (A := blk b _ _) PC <| J_asTo (B := blk b 217 [.pointer (some ⟨mb, 0, none⟩), .int .i64 r.sq, .int .i64 r.cq, .int .i64 r.sb, .int .i64 r.cb, .int .u32 r.head, .int .u32 r.tail, (.slice a (r.over.map encX).length cap)]) (by rw [hno, if_neg (by decide)]) <| J_pick (A := memA mb _) PC <| J_asTo (B := memA mb ms) (by rw [hno, if_neg (by decide)]) <| J_drawL (some 7) mixed <| ip 0 Z Z Z Z (p_move Z) <| ip 1 Z Z Z Z (p_move Z) <| ip 2 Z Z Z Z (p_nilCheck Z) <| ip 3 Z Z Z Z (p_fieldAddr Z fa217_7) <| iv 4 Z Z Z Z (fun _ => v_load Z ty88 HS (by exact rfl)) <| iv 5 Z Z Z Z (fun _ => v_loadA Z ty93 HS CT) ?_
  refine i1 6 Z <| x_lit (vals := [_]) Tryz.underlying88 ty93 Z (.cons Z .nil) (.agg .nil) (Wf.cons Z Z Wf.nil) Z (by decide) Z Z <| JR fun a22 c22 hw22 hl22 hm22 hz22 => i1 7 Z <| x_app Z Z Tryz.underlying88 ty93 Z Z PC (fun w H => sep_reads HS H) (by simp; omega) (by simp; omega) Z <| JE ((r.over ++ [c]).map encX) (by simp) fun a23 c23 hw23 hl23 hm23 hz23 => ip 8 Z Z Z Z (p_nilCheck Z) <| ip 9 Z Z Z Z (p_fieldAddr Z fa217_7) <| i1 10 Z <| x_store Z Z ty88 Z SM SM RO PT <| i0 <| qx <| ag Z Z <| nq <| J_ret <| J_rgS (b := b) (mb := mb) (r := { r with over := r.over ++ [c] }) _ PX trivial <| J_asTo (B := rgA b mb (postR r ms c)) (by rw [postR, hok]; rfl) <| J_pick (A := memA mb _) PC <| J_asTo (B := memA mb (postM r ms c)) (by rw [postM, hok]; rfl) <| J_return (()) Tryz.results175 (.tmp Z .nil) ?_ ?_
  · simp [one, hok]
  · exact SU
  have he : r.over.isEmpty = false := by
    cases hov : r.over with
    | nil => rw [hov] at h11; simp at h11
    | cons x xs => rfl
  refine gz Z Z Z Z Z <| gz Z Z Z Z Z <| gz Z Z Z Z Z <| L_pur Z (p_pick_f Z Z) <| nq <| C_false Z <| J_skip <| Q_then <| J_seq ?_
  have hok : postOk r ms = false := by unfold postOk; rw [he]; rfl
  refine J_drawL (some 7) mixed <| ip 0 Z Z Z Z (p_move Z) <| ip 1 Z Z Z Z (p_move Z) <| ip 2 Z Z Z Z (p_nilCheck Z) <| ip 3 Z Z Z Z (p_fieldAddr Z fa217_7) <| iv 4 Z Z Z Z (fun _ => v_load Z ty88 HS (by exact rfl)) <| iv 5 Z Z Z Z (fun _ => v_loadA Z ty93 HS CT) <| i1 6 Z <| x_lit (vals := [_]) Tryz.underlying88 ty93 Z (.cons Z .nil) (.agg .nil) (Wf.cons Z Z Wf.nil) Z (by decide) Z Z <| JR fun a22 c22 hw22 hl22 hm22 hz22 => i1 7 Z <| x_app Z Z Tryz.underlying88 ty93 Z Z PC (fun w H => sep_reads HS H) (by simp; omega) (by simp; omega) Z <| JE ((r.over ++ [c]).map encX) (by simp) fun a23 c23 hw23 hl23 hm23 hz23 => ip 8 Z Z Z Z (p_nilCheck Z) <| ip 9 Z Z Z Z (p_fieldAddr Z fa217_7) <| i1 10 Z <| x_store Z Z ty88 Z SM SM RO PT <| i0 <| qx <| ag Z Z <| nq <| J_ret <| J_rgS (b := b) (mb := mb) (r := { r with over := r.over ++ [c] }) _ PX trivial ?_
  refine J_asTo (B := rgA b mb (postR r ms c)) (by rw [postR, hok]; rfl) <| J_pick (A := memA mb _) PC <| J_asTo (B := memA mb (postM r ms c)) (by rw [postM, hok]; rfl) <| J_return (()) Tryz.results175 (.tmp Z .nil) ?_ ?_
  · simp [one, hok]
  · exact SU
theorem ringClear (hp : Pick (rgA b mb r) l m) :
    Con Tryz.prog 337 #[.pointer (some ⟨b, 0, none⟩)] E l (fun _ : Unit => .int .i64 (r.over.length : Int)) (fun _ => rgA b mb { r with over := [] } :: m) := by
  refine Con.body (n := 13) Tryz.func337 Z Z _ (env_ok 1 Z) <| J_pick hp <| J_rgO fun v _ => J_row (.there .here) fun hw a cap hv h1 h2 h3 => ?_
  subst hv
  refine sr <| ag Z Z <| nx <| mv Z Z <| nc Z Z <| fa Z Z fa217_7 <| L_val Z (v_load Z ty88 HS (by exact rfl)) <| L_pur Z (p_len Z Tryz.underlying88) <| ag Z Z <| nx <| mv Z Z <| nc Z Z <| fa Z Z fa217_7 <| L_op <| x_store Z Z ty88 Z SM SM RO PT <| nx <| mv Z Z <| ag Z Z <| nq <| J_ret <| J_nil (el := 93) (sz := 4) <| J_asTo (B := row 93 4 (.slice none 0 0) (({ r with over := [] } : Rg).over.map encX)) (by rfl) <| J_rgS (b := b) (mb := mb) (r := { r with over := [] }) (.slice none 0 0) PX trivial <| J_return (()) Tryz.results337 (.tmp Z .nil) ?_ ?_
  · simp [one]
  · exact SU
theorem jnlAdd {xs : List Deed} (hp : Pick (jnlA b o xs) l m) (hb : xs.length ≤ 200000) :
    Con Tryz.prog 174 #[.pointer (some ⟨b, o, none⟩), .agg (encD d).toArray] E l (fun _ : Unit => .tuple #[]) (fun _ => jnlA b o (xs ++ [d]) :: m) := by
  refine Con.body (n := 14) Tryz.func174 Z Z _ (env_ok 2 Z) <| J_pick hp <| J_jnlO fun v _ => J_row (.there .here) fun hw a cap hv h1 h2 h3 => ?_
  subst hv
  have hm : cap ≤ 9223372036854775807 := h2
  have hml : (xs.map encD).length = xs.length := List.length_map _
  refine sr <| L_op <| x_box Z Z Z fun b3 => nq <| J_drawL (some 7) mixed <| ip 0 Z Z Z Z (p_move Z) <| ip 1 Z Z Z Z (p_move Z) <| ip 2 Z Z Z Z (p_nilCheck Z) <| ip 3 Z Z Z Z (p_fieldAddr Z fa143_0) <| iv 4 Z Z Z Z (fun _ => v_loadL Z ty40 HS Z (by exact rfl)) <| iv 5 Z Z Z Z (fun _ => v_loadA Z ty45 HS CT) <| i1 6 Z <| x_lit (vals := [_]) Tryz.underlying40 ty45 Z (.cons Z .nil) (.agg .nil) (Wf.cons Z Z Wf.nil) Z (by decide) Z Z <| JR fun a10 c10 hw10 hl10 hm10 hz10 => i1 7 Z <| x_app Z Z Tryz.underlying40 ty45 Z Z PC (fun w H => sep_reads HS H) (by simp; omega) (by simp; omega) Z <| JE ((xs ++ [d]).map encD) (by simp) fun a11 c11 hw11 hl11 hm11 hz11 => ip 8 Z Z Z Z (p_nilCheck Z) <| ip 9 Z Z Z Z (p_fieldAddr Z fa143_0) <| i1 10 Z <| x_storeL Z Z ty40 Z SM SM Z RO Z PT <| i0 <| J_endnormal <| J_jnlS (b := b) (o := o) (xs := xs ++ [d]) _ PX trivial ?_
  exact J_return (()) Tryz.results174 .nil Z SU
theorem clone73 {xs : List (List Value)} (hr : ∀ w, Sep E w l → Reads w 7 v xs) (hb : xs.length ≤ 1000000) :
    Con Tryz.prog 73 #[v] E l (fun v' : Value => v') (fun v' => row 45 7 v' xs :: l) := by
  refine Con.body (n := 8) Tryz.func73 Z Z _ (env_ok 1 Z) <| J_reads hr fun hw a cap hv h1 h2 h3 => ?_
  subst hv
  refine sr <| ag Z Z <| nxx <| mv Z Z <| L_pur Z (p_eqnil Tryz.underlying40 Z) <| nq <| C_split Z (fun h4 => ?_) (fun h4 => ?_)
  obtain rfl : a = none := by simpa using h4
  obtain ⟨rfl, rfl⟩ := h3 rfl
  refine J_nil (el := 45) (sz := 7) <| sr <| ag Z Z <| nq <| J_ret <| Q_then_ret ?_
  exact J_return (_) Tryz.results73 (.tmp Z .nil) Z SU
  refine J_skip <| qx <| L_op <| x_lit (vals := []) Tryz.underlying40 ty45 Z .nil .nil Wf.nil Z (by decide) Z Z <| JR fun a5 c5 hw5 hl5 hm5 hz5 => mv Z Z <| L_op <| x_app Z Z Tryz.underlying40 ty45 Z Z PC (fun w H => hr w H.tail) (OM) (OM) Z <| JR fun a7 c7 hw7 hl7 hm7 hz7 => ag Z Z <| nq <| J_ret ?_
  exact J_return (_) Tryz.results73 (.tmp Z .nil) Z SU
theorem jnlAll {xs : List Deed} (hp : Pick (jnlA b o xs) l m) (hb : xs.length ≤ 200000) :
    Con Tryz.prog 21 #[.pointer (some ⟨b, o, none⟩)] E l (fun v : Value => v) (fun v => row 45 7 v (xs.map encD) :: jnlA b o xs :: m) := by
  refine Con.body (n := 8) Tryz.func21 Z Z _ (env_ok 1 Z) <| J_pick hp <| J_jnlO fun v _ => J_row (.there .here) fun hw a cap hv h1 h2 h3 => ?_
  subst hv
  have hm : cap ≤ 9223372036854775807 := h2
  have hml : (xs.map encD).length = xs.length := List.length_map _
  refine sr <| ag Z Z <| nx <| mv Z Z <| nc Z Z <| fa Z Z fa143_0 <| L_val Z (v_loadL Z ty40 HS Z (by exact rfl)) <| xo fc73 (A1 Z) Z (clone73 (xs := xs.map encD) (fun w H => sep_reads (xs := xs.map encD) HS H) (by simp; omega)) <| JR fun a7 c7 hw7 hl7 hm7 hz7 => ag Z Z <| nq <| J_ret <| J_jnlS (b := b) (o := o) (xs := xs) _ PX trivial ?_
  exact J_return (_) Tryz.results21 (.tmp Z .nil) Z SU
/-! ### plain: who waits, in order -/
theorem encI_one (c : ID) : ones (encI c) = true := rfl
theorem encI_len (c : ID) : (encI c).length = 2 := rfl
def isI (i c : ID) : Bool := decide (c.1 = i.1 ∧ c.2 = i.2)
theorem isI_iff {c : ID} : isI i c = true ↔ c = i := by unfold isI; rw [decide_eq_true_eq, Prod.ext_iff]
theorem isI_eq (i c : ID) : isI i c = decide (c = i) := by rw [Bool.eq_iff_iff, isI_iff, decide_eq_true_eq]
def lpush (xs : List ID) (i : ID) : List ID := if i ∈ xs then xs else xs ++ [i]
def ldrop (xs : List ID) (i : ID) : List ID := xs.filter fun c => !isI i c
theorem ldrop_len (xs : List ID) (i : ID) : (ldrop xs i).length ≤ xs.length := List.length_filter_le _ _
theorem lpush_len (xs : List ID) (i : ID) : (lpush xs i).length ≤ xs.length + 1 := by unfold lpush; split <;> simp
variable {xs : List ID}
theorem ldrop_mem {c : ID} : c ∈ ldrop xs i ↔ c ∈ xs ∧ ¬ c = i := by
  unfold ldrop; rw [List.mem_filter]; simp [isI_eq]
theorem ldrop_no (h : i ∉ xs) : ldrop xs i = xs := by
  unfold ldrop; rw [List.filter_eq_self]; intro c hc; have : ¬ c = i := fun e => h (e ▸ hc); simp [isI_eq, this]
theorem ldrop_nodup (h : xs.Nodup) (i : ID) : (ldrop xs i).Nodup := List.Nodup.sublist List.filter_sublist h
theorem lpush_nodup (h : xs.Nodup) (i : ID) : (lpush xs i).Nodup := by
  unfold lpush; split
  · exact h
  · rename_i hi
    rw [List.nodup_append]
    refine ⟨h, by simp, fun x hx y hy => ?_⟩
    simp at hy; subst hy; exact fun e => hi (e ▸ hx)
theorem ldrop_head {x : ID} (h : (x :: xs).Nodup) : ldrop (x :: xs) x = xs := by
  have h1 := List.nodup_cons.1 h
  unfold ldrop
  rw [List.filter_cons, if_neg (by simp [isI_eq])]
  exact ldrop_no h1.1
theorem Who.push {ps : List (ID × Bool)} (h : Who xs ps) (hi : i ∉ xs) : Who (xs ++ [i]) (ins ps i true) := by
  refine ⟨by have := lpush_nodup h.1 i; unfold lpush at this; rwa [if_neg hi] at this, fun c => ?_⟩
  rw [look_ins, h.2]
  by_cases hc : i = c
  · subst hc; simp
  · have hc' : ¬ c = i := fun e => hc e.symm
    simp [hc, hc']
theorem Who.drop {ps : List (ID × Bool)} (h : Who xs ps) (i : ID) : Who (ldrop xs i) (del ps i) := by
  refine ⟨ldrop_nodup h.1 i, fun c => ?_⟩
  rw [look_del, h.2]
  by_cases hc : i = c
  · subst hc; simp [ldrop_mem]
  · have hc' : ¬ c = i := fun e => hc e.symm
    simp [hc, hc', ldrop_mem]
theorem Who.says {ps : List (ID × Bool)} (h : Who xs ps) (i : ID) : zof evB (.bool false) (look ps i) = .bool (decide (i ∈ xs)) := by
  rw [h.2]; by_cases hi : i ∈ xs <;> simp [zof, hi]
theorem clone348 {xs : List (List Value)} (hr : ∀ w, Sep E w l → Reads w 2 v xs) (hb : xs.length ≤ 1000000) :
    Con Tryz.prog 348 #[v] E l (fun v' : Value => v') (fun v' => row 36 2 v' xs :: l) := by
  refine Con.body (n := 8) Tryz.func348 Z Z _ (env_ok 1 Z) <| J_reads hr fun hw a cap hv h1 h2 h3 => ?_
  subst hv
  refine sr <| ag Z Z <| nxx <| mv Z Z <| L_pur Z (p_eqnil Tryz.underlying224 Z) <| nq <| C_split Z (fun h4 => ?_) (fun h4 => ?_)
  obtain rfl : a = none := by simpa using h4
  obtain ⟨rfl, rfl⟩ := h3 rfl
  refine J_nil (el := 36) (sz := 2) <| sr <| ag Z Z <| nq <| J_ret <| Q_then_ret ?_
  exact J_return (_) Tryz.results348 (.tmp Z .nil) Z SU
  refine J_skip <| qx <| L_op <| x_lit (vals := []) Tryz.underlying224 ty36 Z .nil .nil Wf.nil Z (by decide) Z Z <| JR fun a5 c5 hw5 hl5 hm5 hz5 => mv Z Z <| L_op <| x_app Z Z Tryz.underlying224 ty36 Z Z PC (fun w H => hr w H.tail) (OM) (OM) Z <| JR fun a7 c7 hw7 hl7 hm7 hz7 => ag Z Z <| nq <| J_ret ?_
  exact J_return (_) Tryz.results348 (.tmp Z .nil) Z SU
theorem indexfunc317 {α : Type} {enc : α → List Value} {xs : List α} (hf : Tryz.prog.funcs[g]? = some fn) (hn : (fn.name == "runtime.NumGoroutine") = false) (hb : fn.body.isNone = false) {q : α → Bool} (hg : ∀ (l' : List As) (c : α), Has C l' → Con Tryz.prog g (#[.agg (enc c).toArray] ++ caps) E l' (fun _ : Unit => .bool (q c)) (fun _ => l')) (hv : Has (row 36 2 v (xs.map enc)) l) (hc : Has C l) :
    Con Tryz.prog 317 #[v, .func (.func g) #[] caps] E l (fun _ : Unit => .int .i64 (idx q xs)) (fun _ => l) := by
  refine Con.body (n := 19) Tryz.func317 Z Z _ (env_ok 2 Z) <| J_row hv fun hw a cap hv h1 h2 h3 => ?_
  subst hv
  have hm : cap ≤ 9223372036854775807 := h2
  have hml : (xs.map enc).length = xs.length := List.length_map _
  refine sr <| ag Z Z <| nxx <| mv Z Z <| L_pur Z (p_len Z Tryz.underlying224) <| mv Z Z <| nq <| J_block <| J_loop (α := Nat) (fun i => i ≤ xs.length ∧ ∀ c ∈ xs.take i, q c = false) (fun _ => l) (fun i => [(8, .int .i64 (i : Int)), (7, .int .i64 (xs.map enc).length), (0, .slice a (xs.map enc).length cap), (1, .func (.func g) #[] caps)]) (fun i => xs.length - i) 0 ⟨by omega, by simp⟩ SU KE ?_
  intro i ⟨hi, hq⟩
  refine sr <| L_pur Z (p_lss Z Z) <| nq <| J_seq <| C_dec Z (fun h9 => ?_) (fun h9 => ?_)
  have hlt : i < xs.length := by omega
  obtain ⟨b, o, rfl⟩ := h3 (by intro h; rw [h] at hml; simp at hml; omega)
  obtain ⟨c, hcc⟩ : ∃ c, xs[i]? = some c := ⟨_, List.getElem?_eq_getElem hlt⟩
  refine J_skip <| Q_then <| J_seq <| J_block <| sr <| mv Z Z <| ag Z Z <| nx <| mv Z Z <| mv Z Z <| mv Z Z <| L_pur Z (p_indexAddr Z Z Tryz.underlying224 ty36 (by omega) (by omega)) <| L_val Z (v_loadE Z ty36 HS (by simp only [Int.toNat_natCast, List.getElem?_map, hcc]; rfl)) ?_
  refine L_op <| x_callc Z hf hn hb (.cons Z .nil) Z (hg _ c hc) fun _ => nq <| C_split Z (fun h16 => ?_) (fun h16 => ?_)
  have hidx := idx_here hq hcc h16
  refine sr <| mv Z Z <| ag Z Z <| nq <| J_ret <| Q_blk_ret <| Q_then_ret <| Q_then_ret <| Q_blk_ret <| Q_then_ret <| J_return (()) Tryz.results317 (.tmp Z .nil) ?_ ?_
  · simp [one, hidx]
  · exact SU
  refine J_skip <| Q_blk_normal <| qr <| L_pur Z (p_add64 Z Z (by omega)) <| mv Z Z <| nq ?_
  exact J_again (i + 1) (by omega) (⟨by omega, take_false_succ hq hcc h16⟩) SU KE
  have hix : i = xs.length := by omega
  rw [hix, List.take_length] at hq
  have hidx := idx_none hq
  refine J_exit <| Q_then_exit <| Q_then_exit <| Q_blk_this <| qx <| ag Z Z <| nq <| J_ret <| J_return (()) Tryz.results317 (.tmp Z .nil) ?_ ?_
  · simp [one, hidx]
  · exact SU
theorem deletefunc296 {α : Type} {enc : α → List Value} {xs : List α} (hf : Tryz.prog.funcs[g]? = some fn) (hn : (fn.name == "runtime.NumGoroutine") = false) (hb : fn.body.isNone = false) {q : α → Bool} (hg : ∀ (l' : List As) (c : α), Has C l' → Con Tryz.prog g (#[.agg (enc c).toArray] ++ caps) E l' (fun _ : Unit => .bool (q c)) (fun _ => l')) (hv : Pick (row 36 2 v (xs.map enc)) l m) (hc : Has C m) (hone : ∀ c, ones (enc c) = true) (hlen : ∀ c, (enc c).length = 2) :
  Con Tryz.prog 296 #[v, .func (.func g) #[] caps] E l (fun v' : Value => v') (fun v' => row 36 2 v' ((xs.filter fun c => !q c).map enc) :: m) := by
 rcases idx_cases q xs with ⟨hi0, hall⟩ | ⟨i0, hi0, hlt0, hpre, c0, hc0, hq0⟩
 ·
  refine Con.body (n := 42) Tryz.func296 Z Z _ (env_ok 2 Z) <| J_pick hv <| sr <| ag Z Z <| nx <| mv Z Z <| mv Z Z <| xo fc317 (A2 Z Z) Z (indexfunc317 hf hn hb hg .here (.there hc)) fun _ => ag Z Z <| nxx <| mv Z Z <| L_pur Z (p_eql Z Z) <| nq <| J_bool (t := 12) (c := true) Z (by simp [hi0]) <| C_true Z <| sr <| J_rowEq (ys := (xs.filter fun c => !q c).map enc) (by rw [List.filter_eq_self.2 (fun c hc => by simp [hall c hc])]) <| mv Z Z <| ag Z Z <| nq <| J_ret <| Q_then_ret ?_
  exact J_return (_) Tryz.results296 (.tmp Z .nil) Z SU
 ·
  refine Con.body (n := 42) Tryz.func296 Z Z _ (env_ok 2 Z) <| J_pick hv <| J_row .here fun hw a cap hv h1 h2 h3 => ?_
  obtain ⟨b, o, rfl⟩ := h3 (by intro h; have := congrArg List.length h; simp at this; subst this; simp at hlt0)
  subst hv
  have hm : cap ≤ 9223372036854775807 := h2
  have hml : (xs.map enc).length = xs.length := List.length_map _
  have hk0 : kept q xs (i0 + 1) = xs.take i0 := kept_first hpre hc0 hq0
  have hl0 : (xs.take i0).length = i0 := by simp; omega
  refine sr <| ag Z Z <| nx <| mv Z Z <| mv Z Z <| xo fc317 (A2 Z Z) Z (indexfunc317 hf hn hb hg .here (.there hc)) fun _ => J_slot (t := 10) (v := .int .i64 (i0 : Int)) Z (by rw [hi0]) <| ag Z Z <| nxx <| mv Z Z <| L_pur Z (p_eql Z Z) <| nq <| J_bool (t := 12) (c := false) Z (by simp) <| C_false Z <| J_skip <| Q_then <| J_seq <| sr <| mv Z Z <| L_pur Z (p_add64 Z Z (by omega)) <| ag Z Z <| nq <| J_block ?_
  refine J_rowEq (ys := (kept q xs (i0 + 1) ++ xs.drop (kept q xs (i0 + 1)).length).map enc) (by rw [hk0, hl0, List.take_append_drop]) <| J_slot (t := 5) (v := .int .i64 ((kept q xs (i0 + 1)).length : Int)) Z (by rw [hk0, hl0]) <| J_loop (α := Nat) (fun j => j ≤ xs.length) (fun j => row 36 2 (.slice (some ⟨b, o, none⟩) (xs.map enc).length cap) ((kept q xs j ++ xs.drop (kept q xs j).length).map enc) :: m) (fun j => [(6, .int .i64 (j : Int)), (5, .int .i64 ((kept q xs j).length : Int)), (0, .slice (some ⟨b, o, none⟩) (xs.map enc).length cap), (1, .func (.func g) #[] caps)]) (fun j => xs.length - j) (i0 + 1) (by omega) SU KE ?_
  intro j hj
  have hkl := kept_le q xs j
  refine J_seq <| sr <| mv Z Z <| mv Z Z <| L_pur Z (p_len Z Tryz.underlying224) <| L_pur Z (p_lss Z Z) <| nq <| C_dec Z (fun h19 => ?_) (fun h19 => ?_)
  have hlt : j < xs.length := by omega
  obtain ⟨c, hcc⟩ : ∃ c, xs[j]? = some c := ⟨_, List.getElem?_eq_getElem hlt⟩
  refine J_skip <| Q_then <| J_seq <| J_block <| sr <| mv Z Z <| mv Z Z <| L_pur Z (p_indexAddr Z Z Tryz.underlying224 ty36 (by omega) (by omega)) <| L_val Z (v_loadE Z ty36 HS (by simp only [Int.toNat_natCast, List.getElem?_map, kept_get, hcc]; rfl)) ?_
  refine L_op <| x_alloc ty36 Z fun b7 => L_op <| x_store Z Z ty36 Z SM SM RO PT <| nx <| mv Z Z <| L_val Z (v_loadA Z ty36 HS CT) <| L_op <| x_callc Z hf hn hb (.cons Z .nil) Z (hg _ c (.there (.there hc))) fun _ => L_pur Z (p_not Z) <| nq <| C_split Z (fun h29 => ?_) (fun h29 => ?_)
  have hqc : q c = false := by simpa using h29
  have hks := kept_set hcc hqc
  have hkl1 : (kept q xs (j + 1)).length = (kept q xs j).length + 1 := by rw [kept_succ hcc, hqc]; simp
  refine sr <| mv Z Z <| mv Z Z <| L_val Z (v_loadA Z ty36 HS CT) <| L_pur Z (p_indexAddr Z Z Tryz.underlying224 ty36 (by omega) (by omega)) <| L_op <| x_storeE (vs := enc c) Z Z ty36 Z (hlen c) (hone c) PC (OM) <| J_rowEq (ys := (kept q xs (j + 1) ++ xs.drop (kept q xs (j + 1)).length).map enc) (by rw [← hks, List.map_set]; simp) <| ny <| mv Z Z <| L_pur Z (p_add64 Z Z (by omega)) <| ag Z Z <| L_nil <| Q_blk_normal <| qr <| mv Z Z <| L_pur Z (p_add64 Z Z (by omega)) <| ag Z Z <| nq <| J_slot (t := 5) (v := .int .i64 ((kept q xs (j + 1)).length : Int)) Z (by rw [hkl1]; rfl) ?_
  exact J_again (j + 1) (by omega) (by omega) SU KE
  have hqc : q c = true := by simpa using h29
  have hks : kept q xs (j + 1) = kept q xs j := by rw [kept_succ hcc, hqc]; simp
  refine J_skip <| Q_blk_normal <| qr <| mv Z Z <| L_pur Z (p_add64 Z Z (by omega)) <| ag Z Z <| nq <| J_slot (t := 5) (v := .int .i64 ((kept q xs (j + 1)).length : Int)) Z (by rw [hks]) <| J_pick (A := row 36 2 (.slice (some ⟨b, o, none⟩) (xs.map enc).length cap) ((kept q xs j ++ xs.drop (kept q xs j).length).map enc)) PC <| J_rowEq (ys := (kept q xs (j + 1) ++ xs.drop (kept q xs (j + 1)).length).map enc) (by rw [hks]) ?_
  exact J_again (j + 1) (by omega) (by omega) SU KE
  have hjx : j = xs.length := by omega
  have hka : kept q xs j = xs.filter fun c => !q c := kept_all (by omega)
  refine J_exit <| Q_then_exit <| Q_then_exit <| Q_blk_this <| qx <| mv Z Z <| mv Z Z <| L_pur Z (p_slice Z Tryz.underlying224 ty36 Z Z (by omega) (by omega) (by omega)) <| L_op <| x_clear (len := (xs.map enc).length) Z Tryz.underlying224 ty36 Z Z PC (OM) <| nx <| mv Z Z <| mv Z Z <| L_pur Z (p_slice Z Tryz.underlying224 ty36 Z Z (by omega) (by omega) (by omega)) <| J_take (k := (kept q xs j).length) (OM) <| J_rowTo (v' := .slice (some ⟨b, o, none⟩) (kept q xs j).length cap) (ys := (xs.filter fun c => !q c).map enc) (by simp [hka]) Z <| J_slot (t := 41) (v := .slice (some ⟨b, o, none⟩) (kept q xs j).length cap) Z (by simp [Addr.add]) <| ag Z Z <| nq <| J_ret ?_
  exact J_return (_) Tryz.results296 (.tmp Z .nil) Z SU
variable {bc : Nat}
theorem clo297 {c : ID} (hc : Has (blk bc 36 (encI i)) l) :
    Con Tryz.prog 297 #[.agg (encI c).toArray, .pointer (some ⟨bc, 0, none⟩)] E l (fun _ : Unit => .bool (isI i c)) (fun _ => l) := by
  refine Con.body (n := 7) Tryz.func297 Z Z _ (env_ok 2 Z) <| sr <| L_op <| x_box Z Z Z fun b2 => ag Z Z <| nx <| L_val Z (v_loadA Z ty36 HS CT) <| L_val Z (v_loadA Z ty36 HS CT) <| L_pur Z (p_eqv Z Z (fun w => eg36 _ _ _ _ _ w) (fun w => eqv36 _ _ _ _ w)) <| ag Z Z <| nq <| J_ret ?_
  exact J_return (()) Tryz.results297 (.tmp Z .nil) Z SU
theorem lAll (hp : Pick (lsA b o xs) l m) (hb : xs.length ≤ 100000) :
    Con Tryz.prog 341 #[.pointer (some ⟨b, o, none⟩)] E l (fun v : Value => v) (fun v => row 36 2 v (xs.map encI) :: lsA b o xs :: m) := by
  refine Con.body (n := 8) Tryz.func341 Z Z _ (env_ok 1 Z) <| J_pick hp <| J_lsO fun v ob ps hw => sr <| ag Z Z <| nx <| mv Z Z <| nc Z Z <| fa Z Z fa227_0 <| L_val Z (v_loadL Z ty224 HS Z (by exact rfl)) <| xo fc348 (A1 Z) Z (clone348 (xs := xs.map encI) (fun w H => sep_reads (xs := xs.map encI) HS H) (by simp; omega)) <| JR fun a7 c7 hw7 hl7 hm7 hz7 => ag Z Z <| nq <| J_ret <| J_lsS (b := b) (o := o) (xs := xs) _ _ _ PX (hw) ?_
  exact J_return (_) Tryz.results341 (.tmp Z .nil) Z SU
theorem lDrop (hp : Pick (lsA b o xs) l m) (hb : xs.length ≤ 100000) :
    Con Tryz.prog 240 #[.pointer (some ⟨b, o, none⟩), .agg (encI i).toArray] E l (fun _ : Unit => .bool (decide (i ∈ xs))) (fun _ => lsA b o (ldrop xs i) :: m) := by
  refine Con.body (n := 26) Tryz.func240 Z Z _ (env_ok 2 Z) <| J_pick hp <| J_lsO fun v ob ps hw => sr <| L_op <| x_box Z Z Z fun b3 => ag Z Z <| nq <| J_seq <| J_seq <| J_drawS mixed (by kernel_rfl) <| sm Z Z <| sp Z (p_nilCheck Z) <| sp Z (p_fieldAddr Z fa227_1) <| S_val Z (v_loadL Z ty225 HS Z (by exact rfl)) <| S_val Z (v_loadA Z ty36 HS CT) <| S_val Z (v_look (ek := kI) (ev := evB) (a := i) Z Z ky36 Tryz.underlying225 zv4 HS) <| J_slot (t := 10) (v := .bool (decide (i ∈ xs))) Z (hw.says i) <| sp Z (p_not Z) <| sq <| C_split Z (fun h11 => ?_) (fun h11 => ?_)
  have hi : i ∉ xs := by simpa using h11
  refine sr <| ag Z Z <| nq <| J_ret <| Q_then_ret <| J_lsS (b := b) (o := o) (xs := xs) _ _ _ PX (hw) <| J_asTo (B := lsA b o (ldrop xs i)) (by rw [ldrop_no hi]) <| J_return (()) Tryz.results240 (.tmp Z .nil) ?_ ?_
  · simp [one, hi]
  · exact SU
  have hi : i ∈ xs := by simpa using h11
  refine J_skip <| Q_then <| J_seq <| J_drawT 5 mixed (by kernel_rfl) <| sm Z Z <| sp Z (p_nilCheck Z) <| sp Z (p_fieldAddr Z fa227_1) <| S_val Z (v_loadL Z ty225 HS Z (by exact rfl)) <| S_val Z (v_loadA Z ty36 HS CT) <| S_nil <| L_op <| x_delete (ek := kI) (ev := evB) (a := i) Z Z ky36 Tryz.underlying225 PC <| nx <| mv Z Z <| mv Z Z <| nc Z Z <| fa Z Z fa227_0 <| L_val Z (v_loadL Z ty224 HS Z (by exact rfl)) <| L_pur Z (p_makeFunc (.cons Z .nil)) <| xo fc296 (A2 Z Z) Z (deletefunc296 (xs := xs) (enc := encI) (q := isI i) (C := blk b3 36 (encI i)) Tryz.func297 nm297 bd297 (fun l' c hc => clo297 hc) PC HS encI_one encI_len) <| JR fun a23 c23 hw23 hl23 hm23 hz23 => nc Z Z <| fa Z Z fa227_0 <| L_op <| x_storeL Z Z ty224 Z SM SM Z RO Z PT <| nx <| ag Z Z <| nq <| J_ret <| J_lsS (b := b) (o := o) (xs := xs.filter fun c => !isI i c) _ _ _ PX (hw.drop i) ?_
  refine J_return (()) Tryz.results240 (.tmp Z .nil) ?_ ?_
  · simp [one, hi]
  · exact SU
theorem lPop (hp : Pick (lsA b o xs) l m) (hb : xs.length ≤ 100000) :
  Con Tryz.prog 241 #[.pointer (some ⟨b, o, none⟩)] E l (fun _ : Unit => .tuple #[.agg (encI (xs.headD (0, 0))).toArray, .bool (!xs.isEmpty)]) (fun _ => lsA b o xs.tail :: m) := by
 rcases xs with _ | ⟨x, r⟩
 ·
  refine Con.body (n := 22) Tryz.func241 Z Z _ (env_ok 1 Z) <| J_pick hp <| J_lsO fun v ob ps hw => J_row (.there .here) fun hwf a cap hv h1 h2 h3 => ?_
  subst hv
  refine sr <| L_op <| x_alloc ty36 Z fun b2 => ag Z Z <| nxx <| mv Z Z <| nc Z Z <| fa Z Z fa227_0 <| L_val Z (v_loadL Z ty224 HS Z (by exact rfl)) <| L_pur Z (p_len Z Tryz.underlying224) <| L_pur Z (p_eql Z Z) <| nq <| J_bool (t := 10) (c := true) Z (by simp) <| C_true Z <| sr <| L_pur Z (bld36 .nil (by repeat constructor)) <| L_op <| x_store Z Z ty36 Z SM SM RO PT <| ag Z Z <| nq <| J_ret <| Q_then_ret <| J_lsS (b := b) (o := o) (xs := []) _ _ _ PX (hw) ?_
  exact J_return (()) Tryz.results241 (.cellA Z ty36 HS CT (.tmp Z .nil)) Z SU
 ·
  refine Con.body (n := 22) Tryz.func241 Z Z _ (env_ok 1 Z) <| J_pick hp <| J_lsO fun v ob ps hw => ?_
  have hnd := hw.1
  refine J_row (.there .here) fun hwf a cap hv h1 h2 h3 => ?_
  obtain ⟨bi, oi, rfl⟩ := h3 (by simp)
  subst hv
  refine sr <| L_op <| x_alloc ty36 Z fun b2 => ag Z Z <| nxx <| mv Z Z <| nc Z Z <| fa Z Z fa227_0 <| L_val Z (v_loadL Z ty224 HS Z (by exact rfl)) <| L_pur Z (p_len Z Tryz.underlying224) <| L_pur Z (p_eql Z Z) <| nq <| J_bool (t := 10) (c := false) Z (by simp; omega) <| C_false Z <| J_skip <| qx <| mv Z Z <| nc Z Z <| fa Z Z fa227_0 <| L_val Z (v_loadL Z ty224 HS Z (by exact rfl)) <| L_pur Z (p_indexAddr Z Z Tryz.underlying224 ty36 (by omega) (by simp)) <| L_val Z (v_loadE Z ty36 HS (by rfl)) <| L_op <| x_alloc ty36 Z fun b4 => L_op <| x_store Z Z ty36 Z SM SM RO PT <| nx <| J_lsS (b := b) (o := o) (xs := x :: r) _ _ _ PX (hw) <| mv Z Z <| L_val Z (v_loadA Z ty36 HS CT) <| xo fc240 (A2 Z Z) Z (lDrop (i := x) PC (by omega)) fun _ => J_asTo (B := lsA b o r) (by rw [ldrop_head hnd]) <| nx <| L_val Z (v_loadA Z ty36 HS CT) <| L_op <| x_store Z Z ty36 Z SM SM RO PT ?_
  refine ag Z Z <| nq <| J_ret ?_
  exact J_return (()) Tryz.results241 (.cellA Z ty36 HS CT (.tmp Z .nil)) Z SU
abbrev orb (w x : Int) : Int := bits .or .u32 w x
def woke (w : Int) (xs : List ID) (x : Int) : Bool := !decide (orb w x = 0) && !xs.isEmpty
def sigI (w : Int) (xs : List ID) (x : Int) : ID := if woke w xs x then xs.headD (0, 0) else (0, 0)
def sigV (w : Int) (xs : List ID) (x : Int) : Int := if woke w xs x then orb w x else 0
def sigW (w : Int) (xs : List ID) (x : Int) : Int := if woke w xs x then 0 else orb w x
def sigL (w : Int) (xs : List ID) (x : Int) : List ID := if woke w xs x then xs.tail else xs
def waitL (w : Int) (xs : List ID) (i : ID) : List ID := if w = 0 then lpush xs i else xs
theorem sigL_len (w : Int) (xs : List ID) (x : Int) : (sigL w xs x).length ≤ xs.length := by unfold sigL; split <;> simp
theorem waitL_len (w : Int) (xs : List ID) (i : ID) : (waitL w xs i).length ≤ xs.length + 1 := by
  unfold waitL; split
  · exact lpush_len xs i
  · omega
theorem ntWaits {w : Int} (hp : Pick (ntA b o w xs) l m) (hb : xs.length ≤ 100000) :
    Con Tryz.prog 334 #[.pointer (some ⟨b, o, none⟩)] E l (fun v : Value => v) (fun v => row 36 2 v (xs.map encI) :: ntA b o w xs :: m) := by
  refine Con.body (n := 7) Tryz.func334 Z Z _ (env_ok 1 Z) <| J_pick hp <| J_ntO fun _ _ => sr <| ag Z Z <| nx <| mv Z Z <| nc Z Z <| fa Z Z fa229_1 <| xo fc341 (A1 Z) Z (lAll (xs := xs) PC (by omega)) <| JR fun a6 c6 hw6 hl6 hm6 hz6 => ag Z Z <| nq <| J_ret <| J_ntS (b := b) (o := o) (w := w) (xs := xs) PX trivial ?_
  exact J_return (_) Tryz.results334 (.tmp Z .nil) Z SU
theorem ntDropC {w : Int} (hp : Pick (ntA b o w xs) l m) (hb : xs.length ≤ 100000) :
    Con Tryz.prog 171 #[.pointer (some ⟨b, o, none⟩), .agg (encI i).toArray] E l (fun _ : Unit => .bool (decide (i ∈ xs))) (fun _ => ntA b o w (ldrop xs i) :: m) := by
  refine Con.body (n := 10) Tryz.func171 Z Z _ (env_ok 2 Z) <| J_pick hp <| J_ntO fun _ _ => sr <| L_op <| x_box Z Z Z fun b3 => ag Z Z <| nq <| J_seq <| J_drawT 4 mixed (by kernel_rfl) <| sm Z Z <| sp Z (p_nilCheck Z) <| sp Z (p_fieldAddr Z fa229_1) <| S_val Z (v_loadA Z ty36 HS CT) <| S_nil <| xo fc240 (A2 Z Z) Z (lDrop (xs := xs) (i := i) PC (by omega)) fun _ => ag Z Z <| nq <| J_ret <| J_ntS (b := b) (o := o) (w := w) (xs := ldrop xs i) PX trivial ?_
  exact J_return (()) Tryz.results171 (.tmp Z .nil) Z SU
theorem ntSignal {w : Int} (hp : Pick (ntA b o w xs) l m) (hb : xs.length ≤ 100000) :
    Con Tryz.prog 178 #[.pointer (some ⟨b, o, none⟩), .int .u32 x] E l (fun _ : Unit => .tuple #[.agg (encI (sigI w xs x)).toArray, .int .u32 (sigV w xs x), .bool (woke w xs x)]) (fun _ => ntA b o (sigW w xs x) (sigL w xs x) :: m) := by
  refine Con.body (n := 43) Tryz.func178 Z Z _ (env_ok 2 Z) <| J_pick hp <| J_ntO fun _ _ => sr <| L_op <| x_alloc ty36 Z fun b4 => ag Z Z <| ag Z Z <| nx <| mv Z Z <| nc Z Z <| fa Z Z fa229_0 <| L_val Z (v_loadL Z ty22 HS Z (by exact rfl)) <| mv Z Z <| L_pur Z (p_or Z Z) <| nc Z Z <| fa Z Z fa229_0 <| L_op <| x_storeL Z Z ty22 Z SM SM Z RO Z PT <| nxx <| mv Z Z <| nc Z Z <| fa Z Z fa229_0 <| L_val Z (v_loadL Z ty22 HS Z (by exact rfl)) <| L_pur Z (p_eql Z Z) <| nq <| C_dec Z (fun h22 => ?_) (fun h22 => ?_)
  have h22' : orb w x = 0 := h22
  have hwk : woke w xs x = false := by simp [woke, h22']
  have e1 : sigI w xs x = (0, 0) := by simp [sigI, hwk]
  have e2 : sigV w xs x = 0 := by simp [sigV, hwk]
  have e3 : sigW w xs x = orb w x := by simp [sigW, hwk]
  have e4 : sigL w xs x = xs := by simp [sigL, hwk]
  refine sr <| L_pur Z (bld36 .nil (by repeat constructor)) <| L_op <| x_store Z Z ty36 Z SM SM RO PT <| ag Z Z <| ag Z Z <| nq <| J_ret <| Q_then_ret <| J_ntS (b := b) (o := o) (w := orb w x) (xs := xs) PX trivial <| J_asTo (B := ntA b o (sigW w xs x) (sigL w xs x)) (by first | (rw [e3, e4]; done) | (rw [e3, e4]; rfl)) <| J_return (()) Tryz.results178 (.cellA Z ty36 HS CT (.tmp Z (.tmp Z .nil))) ?_ ?_
  · rw [e1, e2, hwk]; rfl
  · exact SU
  have h22' : ¬ orb w x = 0 := h22
  refine J_skip <| qx <| mv Z Z <| nc Z Z <| fa Z Z fa229_1 <| xo fc241 (A1 Z) Z (lPop (xs := xs) PC (by omega)) fun _ => mv Z Z <| L_pur Z (p_extract Z Z) <| L_pur Z (p_extract Z Z) <| L_op <| x_alloc ty36 Z fun b7 => L_op <| x_store Z Z ty36 Z SM SM RO PT <| ag Z Z <| nxx <| mv Z Z <| L_pur Z (p_not Z) <| nq <| C_split Z (fun h32 => ?_) (fun h32 => ?_)
  have hnil : xs = [] := by simpa using h32
  subst hnil
  have hwk : woke w [] x = false := by simp [woke, h22']
  have e1 : sigI w [] x = (0, 0) := by simp [sigI, hwk]
  have e2 : sigV w [] x = 0 := by simp [sigV, hwk]
  have e3 : sigW w [] x = orb w x := by simp [sigW, hwk]
  have e4 : sigL w [] x = [] := by simp [sigL, hwk]
  refine sr <| L_pur Z (bld36 .nil (by repeat constructor)) <| L_op <| x_store Z Z ty36 Z SM SM RO PT <| ag Z Z <| ag Z Z <| nq <| J_ret <| Q_then_ret <| J_ntS (b := b) (o := o) (w := orb w x) (xs := List.tail []) PX trivial <| J_asTo (B := ntA b o (sigW w [] x) (sigL w [] x)) (by first | (rw [e3, e4]; done) | (rw [e3, e4]; rfl)) <| J_return (()) Tryz.results178 (.cellA Z ty36 HS CT (.tmp Z (.tmp Z .nil))) ?_ ?_
  · rw [e1, e2, hwk]; rfl
  · exact SU
  have hne : xs.isEmpty = false := by simpa using h32
  have hwk : woke w xs x = true := by simp [woke, h22', hne]
  have e1 : sigI w xs x = xs.headD (0, 0) := by simp [sigI, hwk]
  have e2 : sigV w xs x = orb w x := by simp [sigV, hwk]
  have e3 : sigW w xs x = 0 := by simp [sigW, hwk]
  have e4 : sigL w xs x = xs.tail := by simp [sigL, hwk]
  refine J_skip <| qx <| mv Z Z <| nc Z Z <| fa Z Z fa229_0 <| L_val Z (v_loadL Z ty22 HS Z (by exact rfl)) <| ag Z Z <| nx <| mv Z Z <| nc Z Z <| fa Z Z fa229_0 <| L_op <| x_storeL Z Z ty22 Z SM SM Z RO Z PT <| nx <| L_val Z (v_loadA Z ty36 HS CT) <| mv Z Z <| L_op <| x_store Z Z ty36 Z SM SM RO PT <| ag Z Z <| ag Z Z <| nq <| J_ret <| J_ntS (b := b) (o := o) (w := 0) (xs := xs.tail) PX trivial <| J_asTo (B := ntA b o (sigW w xs x) (sigL w xs x)) (by first | (rw [e3, e4]; done) | (rw [e3, e4]; rfl)) <| J_return (()) Tryz.results178 (.cellA Z ty36 HS CT (.tmp Z (.tmp Z .nil))) ?_ ?_
  · rw [e1, e2, hwk]; rfl
  · exact SU
def isM (i : ID) (m : Msg) : Bool := decide (m.1.1 = i.1 ∧ m.1.2 = i.2)
def isR (i : ID) (r : Rcv) : Bool := decide (r.1.1 = i.1 ∧ r.1.2 = i.2)
abbrev mdrop (xs : List Msg) (i : ID) : List Msg := xs.filter fun c => !isM i c
abbrev rdrop (xs : List Rcv) (i : ID) : List Rcv := xs.filter fun c => !isR i c
theorem encM_one (c : Msg) : ones (encM c) = true := rfl
theorem encM_len (c : Msg) : (encM c).length = 5 := rfl
theorem encR_one (c : Rcv) : ones (encR c) = true := rfl
theorem encR_len (c : Rcv) : (encR c).length = 3 := rfl
theorem encT_one (c : Tm) : ones (encT c) = true := rfl
theorem encT_len (c : Tm) : (encT c).length = 3 := rfl
def isTm (i : ID) (c : Tm) : Bool := decide (c.2.1 = i.1 ∧ c.2.2 = i.2)
theorem isTm_eq (i : ID) (c : Tm) : isTm i c = decide (c.2 = i) := by unfold isTm; rw [decide_eq_decide]; exact Prod.ext_iff.symm
abbrev tdrop (xs : List Tm) (i : ID) : List Tm := xs.filter fun c => !isTm i c
theorem indexfunc294 {α : Type} {enc : α → List Value} {xs : List α} (hf : Tryz.prog.funcs[g]? = some fn) (hn : (fn.name == "runtime.NumGoroutine") = false) (hb : fn.body.isNone = false) {q : α → Bool} (hg : ∀ (l' : List As) (c : α), Has C l' → Con Tryz.prog g (#[.agg (enc c).toArray] ++ caps) E l' (fun _ : Unit => .bool (q c)) (fun _ => l')) (hv : Has (row 374 5 v (xs.map enc)) l) (hc : Has C l) :
    Con Tryz.prog 294 #[v, .func (.func g) #[] caps] E l (fun _ : Unit => .int .i64 (idx q xs)) (fun _ => l) := by
  refine Con.body (n := 19) Tryz.func294 Z Z _ (env_ok 2 Z) <| J_row hv fun hw a cap hv h1 h2 h3 => ?_
  subst hv
  have hm : cap ≤ 9223372036854775807 := h2
  have hml : (xs.map enc).length = xs.length := List.length_map _
  refine sr <| ag Z Z <| nxx <| mv Z Z <| L_pur Z (p_len Z Tryz.underlying220) <| mv Z Z <| nq <| J_block <| J_loop (α := Nat) (fun i => i ≤ xs.length ∧ ∀ c ∈ xs.take i, q c = false) (fun _ => l) (fun i => [(8, .int .i64 (i : Int)), (7, .int .i64 (xs.map enc).length), (0, .slice a (xs.map enc).length cap), (1, .func (.func g) #[] caps)]) (fun i => xs.length - i) 0 ⟨by omega, by simp⟩ SU KE ?_
  intro i ⟨hi, hq⟩
  refine sr <| L_pur Z (p_lss Z Z) <| nq <| J_seq <| C_dec Z (fun h9 => ?_) (fun h9 => ?_)
  have hlt : i < xs.length := by omega
  obtain ⟨b, o, rfl⟩ := h3 (by intro h; rw [h] at hml; simp at hml; omega)
  obtain ⟨c, hcc⟩ : ∃ c, xs[i]? = some c := ⟨_, List.getElem?_eq_getElem hlt⟩
  refine J_skip <| Q_then <| J_seq <| J_block <| sr <| mv Z Z <| ag Z Z <| nx <| mv Z Z <| mv Z Z <| mv Z Z <| L_pur Z (p_indexAddr Z Z Tryz.underlying220 ty374 (by omega) (by omega)) <| L_val Z (v_loadE Z ty374 HS (by simp only [Int.toNat_natCast, List.getElem?_map, hcc]; rfl)) ?_
  refine L_op <| x_callc Z hf hn hb (.cons Z .nil) Z (hg _ c hc) fun _ => nq <| C_split Z (fun h16 => ?_) (fun h16 => ?_)
  have hidx := idx_here hq hcc h16
  refine sr <| mv Z Z <| ag Z Z <| nq <| J_ret <| Q_blk_ret <| Q_then_ret <| Q_then_ret <| Q_blk_ret <| Q_then_ret <| J_return (()) Tryz.results294 (.tmp Z .nil) ?_ ?_
  · simp [one, hidx]
  · exact SU
  refine J_skip <| Q_blk_normal <| qr <| L_pur Z (p_add64 Z Z (by omega)) <| mv Z Z <| nq ?_
  exact J_again (i + 1) (by omega) (⟨by omega, take_false_succ hq hcc h16⟩) SU KE
  have hix : i = xs.length := by omega
  rw [hix, List.take_length] at hq
  have hidx := idx_none hq
  refine J_exit <| Q_then_exit <| Q_then_exit <| Q_blk_this <| qx <| ag Z Z <| nq <| J_ret <| J_return (()) Tryz.results294 (.tmp Z .nil) ?_ ?_
  · simp [one, hidx]
  · exact SU
theorem indexfunc295 {α : Type} {enc : α → List Value} {xs : List α} (hf : Tryz.prog.funcs[g]? = some fn) (hn : (fn.name == "runtime.NumGoroutine") = false) (hb : fn.body.isNone = false) {q : α → Bool} (hg : ∀ (l' : List As) (c : α), Has C l' → Con Tryz.prog g (#[.agg (enc c).toArray] ++ caps) E l' (fun _ : Unit => .bool (q c)) (fun _ => l')) (hv : Has (row 246 3 v (xs.map enc)) l) (hc : Has C l) :
    Con Tryz.prog 295 #[v, .func (.func g) #[] caps] E l (fun _ : Unit => .int .i64 (idx q xs)) (fun _ => l) := by
  refine Con.body (n := 19) Tryz.func295 Z Z _ (env_ok 2 Z) <| J_row hv fun hw a cap hv h1 h2 h3 => ?_
  subst hv
  have hm : cap ≤ 9223372036854775807 := h2
  have hml : (xs.map enc).length = xs.length := List.length_map _
  refine sr <| ag Z Z <| nxx <| mv Z Z <| L_pur Z (p_len Z Tryz.underlying114) <| mv Z Z <| nq <| J_block <| J_loop (α := Nat) (fun i => i ≤ xs.length ∧ ∀ c ∈ xs.take i, q c = false) (fun _ => l) (fun i => [(8, .int .i64 (i : Int)), (7, .int .i64 (xs.map enc).length), (0, .slice a (xs.map enc).length cap), (1, .func (.func g) #[] caps)]) (fun i => xs.length - i) 0 ⟨by omega, by simp⟩ SU KE ?_
  intro i ⟨hi, hq⟩
  refine sr <| L_pur Z (p_lss Z Z) <| nq <| J_seq <| C_dec Z (fun h9 => ?_) (fun h9 => ?_)
  have hlt : i < xs.length := by omega
  obtain ⟨b, o, rfl⟩ := h3 (by intro h; rw [h] at hml; simp at hml; omega)
  obtain ⟨c, hcc⟩ : ∃ c, xs[i]? = some c := ⟨_, List.getElem?_eq_getElem hlt⟩
  refine J_skip <| Q_then <| J_seq <| J_block <| sr <| mv Z Z <| ag Z Z <| nx <| mv Z Z <| mv Z Z <| mv Z Z <| L_pur Z (p_indexAddr Z Z Tryz.underlying114 ty246 (by omega) (by omega)) <| L_val Z (v_loadE Z ty246 HS (by simp only [Int.toNat_natCast, List.getElem?_map, hcc]; rfl)) ?_
  refine L_op <| x_callc Z hf hn hb (.cons Z .nil) Z (hg _ c hc) fun _ => nq <| C_split Z (fun h16 => ?_) (fun h16 => ?_)
  have hidx := idx_here hq hcc h16
  refine sr <| mv Z Z <| ag Z Z <| nq <| J_ret <| Q_blk_ret <| Q_then_ret <| Q_then_ret <| Q_blk_ret <| Q_then_ret <| J_return (()) Tryz.results295 (.tmp Z .nil) ?_ ?_
  · simp [one, hidx]
  · exact SU
  refine J_skip <| Q_blk_normal <| qr <| L_pur Z (p_add64 Z Z (by omega)) <| mv Z Z <| nq ?_
  exact J_again (i + 1) (by omega) (⟨by omega, take_false_succ hq hcc h16⟩) SU KE
  have hix : i = xs.length := by omega
  rw [hix, List.take_length] at hq
  have hidx := idx_none hq
  refine J_exit <| Q_then_exit <| Q_then_exit <| Q_blk_this <| qx <| ag Z Z <| nq <| J_ret <| J_return (()) Tryz.results295 (.tmp Z .nil) ?_ ?_
  · simp [one, hidx]
  · exact SU
theorem deletefunc236 {α : Type} {enc : α → List Value} {xs : List α} (hf : Tryz.prog.funcs[g]? = some fn) (hn : (fn.name == "runtime.NumGoroutine") = false) (hb : fn.body.isNone = false) {q : α → Bool} (hg : ∀ (l' : List As) (c : α), Has C l' → Con Tryz.prog g (#[.agg (enc c).toArray] ++ caps) E l' (fun _ : Unit => .bool (q c)) (fun _ => l')) (hv : Pick (row 374 5 v (xs.map enc)) l m) (hc : Has C m) (hone : ∀ c, ones (enc c) = true) (hlen : ∀ c, (enc c).length = 5) :
  Con Tryz.prog 236 #[v, .func (.func g) #[] caps] E l (fun v' : Value => v') (fun v' => row 374 5 v' ((xs.filter fun c => !q c).map enc) :: m) := by
 rcases idx_cases q xs with ⟨hi0, hall⟩ | ⟨i0, hi0, hlt0, hpre, c0, hc0, hq0⟩
 ·
  refine Con.body (n := 42) Tryz.func236 Z Z _ (env_ok 2 Z) <| J_pick hv <| sr <| ag Z Z <| nx <| mv Z Z <| mv Z Z <| xo fc294 (A2 Z Z) Z (indexfunc294 hf hn hb hg .here (.there hc)) fun _ => ag Z Z <| nxx <| mv Z Z <| L_pur Z (p_eql Z Z) <| nq <| J_bool (t := 12) (c := true) Z (by simp [hi0]) <| C_true Z <| sr <| J_rowEq (ys := (xs.filter fun c => !q c).map enc) (by rw [List.filter_eq_self.2 (fun c hc => by simp [hall c hc])]) <| mv Z Z <| ag Z Z <| nq <| J_ret <| Q_then_ret ?_
  exact J_return (_) Tryz.results236 (.tmp Z .nil) Z SU
 ·
  refine Con.body (n := 42) Tryz.func236 Z Z _ (env_ok 2 Z) <| J_pick hv <| J_row .here fun hw a cap hv h1 h2 h3 => ?_
  obtain ⟨b, o, rfl⟩ := h3 (by intro h; have := congrArg List.length h; simp at this; subst this; simp at hlt0)
  subst hv
  have hm : cap ≤ 9223372036854775807 := h2
  have hml : (xs.map enc).length = xs.length := List.length_map _
  have hk0 : kept q xs (i0 + 1) = xs.take i0 := kept_first hpre hc0 hq0
  have hl0 : (xs.take i0).length = i0 := by simp; omega
  refine sr <| ag Z Z <| nx <| mv Z Z <| mv Z Z <| xo fc294 (A2 Z Z) Z (indexfunc294 hf hn hb hg .here (.there hc)) fun _ => J_slot (t := 10) (v := .int .i64 (i0 : Int)) Z (by rw [hi0]) <| ag Z Z <| nxx <| mv Z Z <| L_pur Z (p_eql Z Z) <| nq <| J_bool (t := 12) (c := false) Z (by simp) <| C_false Z <| J_skip <| Q_then <| J_seq <| sr <| mv Z Z <| L_pur Z (p_add64 Z Z (by omega)) <| ag Z Z <| nq <| J_block ?_
  refine J_rowEq (ys := (kept q xs (i0 + 1) ++ xs.drop (kept q xs (i0 + 1)).length).map enc) (by rw [hk0, hl0, List.take_append_drop]) <| J_slot (t := 5) (v := .int .i64 ((kept q xs (i0 + 1)).length : Int)) Z (by rw [hk0, hl0]) <| J_loop (α := Nat) (fun j => j ≤ xs.length) (fun j => row 374 5 (.slice (some ⟨b, o, none⟩) (xs.map enc).length cap) ((kept q xs j ++ xs.drop (kept q xs j).length).map enc) :: m) (fun j => [(6, .int .i64 (j : Int)), (5, .int .i64 ((kept q xs j).length : Int)), (0, .slice (some ⟨b, o, none⟩) (xs.map enc).length cap), (1, .func (.func g) #[] caps)]) (fun j => xs.length - j) (i0 + 1) (by omega) SU KE ?_
  intro j hj
  have hkl := kept_le q xs j
  refine J_seq <| sr <| mv Z Z <| mv Z Z <| L_pur Z (p_len Z Tryz.underlying220) <| L_pur Z (p_lss Z Z) <| nq <| C_dec Z (fun h19 => ?_) (fun h19 => ?_)
  have hlt : j < xs.length := by omega
  obtain ⟨c, hcc⟩ : ∃ c, xs[j]? = some c := ⟨_, List.getElem?_eq_getElem hlt⟩
  refine J_skip <| Q_then <| J_seq <| J_block <| sr <| mv Z Z <| mv Z Z <| L_pur Z (p_indexAddr Z Z Tryz.underlying220 ty374 (by omega) (by omega)) <| L_val Z (v_loadE Z ty374 HS (by simp only [Int.toNat_natCast, List.getElem?_map, kept_get, hcc]; rfl)) ?_
  refine L_op <| x_alloc ty374 Z fun b7 => L_op <| x_store Z Z ty374 Z SM SM RO PT <| nx <| mv Z Z <| L_val Z (v_loadA Z ty374 HS CT) <| L_op <| x_callc Z hf hn hb (.cons Z .nil) Z (hg _ c (.there (.there hc))) fun _ => L_pur Z (p_not Z) <| nq <| C_split Z (fun h29 => ?_) (fun h29 => ?_)
  have hqc : q c = false := by simpa using h29
  have hks := kept_set hcc hqc
  have hkl1 : (kept q xs (j + 1)).length = (kept q xs j).length + 1 := by rw [kept_succ hcc, hqc]; simp
  refine sr <| mv Z Z <| mv Z Z <| L_val Z (v_loadA Z ty374 HS CT) <| L_pur Z (p_indexAddr Z Z Tryz.underlying220 ty374 (by omega) (by omega)) <| L_op <| x_storeE (vs := enc c) Z Z ty374 Z (hlen c) (hone c) PC (OM) <| J_rowEq (ys := (kept q xs (j + 1) ++ xs.drop (kept q xs (j + 1)).length).map enc) (by rw [← hks, List.map_set]; simp) <| ny <| mv Z Z <| L_pur Z (p_add64 Z Z (by omega)) <| ag Z Z <| L_nil <| Q_blk_normal <| qr <| mv Z Z <| L_pur Z (p_add64 Z Z (by omega)) <| ag Z Z <| nq <| J_slot (t := 5) (v := .int .i64 ((kept q xs (j + 1)).length : Int)) Z (by rw [hkl1]; rfl) ?_
  exact J_again (j + 1) (by omega) (by omega) SU KE
  have hqc : q c = true := by simpa using h29
  have hks : kept q xs (j + 1) = kept q xs j := by rw [kept_succ hcc, hqc]; simp
  refine J_skip <| Q_blk_normal <| qr <| mv Z Z <| L_pur Z (p_add64 Z Z (by omega)) <| ag Z Z <| nq <| J_slot (t := 5) (v := .int .i64 ((kept q xs (j + 1)).length : Int)) Z (by rw [hks]) <| J_pick (A := row 374 5 (.slice (some ⟨b, o, none⟩) (xs.map enc).length cap) ((kept q xs j ++ xs.drop (kept q xs j).length).map enc)) PC <| J_rowEq (ys := (kept q xs (j + 1) ++ xs.drop (kept q xs (j + 1)).length).map enc) (by rw [hks]) ?_
  exact J_again (j + 1) (by omega) (by omega) SU KE
  have hjx : j = xs.length := by omega
  have hka : kept q xs j = xs.filter fun c => !q c := kept_all (by omega)
  refine J_exit <| Q_then_exit <| Q_then_exit <| Q_blk_this <| qx <| mv Z Z <| mv Z Z <| L_pur Z (p_slice Z Tryz.underlying220 ty374 Z Z (by omega) (by omega) (by omega)) <| L_op <| x_clear (len := (xs.map enc).length) Z Tryz.underlying220 ty374 Z Z PC (OM) <| nx <| mv Z Z <| mv Z Z <| L_pur Z (p_slice Z Tryz.underlying220 ty374 Z Z (by omega) (by omega) (by omega)) <| J_take (k := (kept q xs j).length) (OM) <| J_rowTo (v' := .slice (some ⟨b, o, none⟩) (kept q xs j).length cap) (ys := (xs.filter fun c => !q c).map enc) (by simp [hka]) Z <| J_slot (t := 41) (v := .slice (some ⟨b, o, none⟩) (kept q xs j).length cap) Z (by simp [Addr.add]) <| ag Z Z <| nq <| J_ret ?_
  exact J_return (_) Tryz.results236 (.tmp Z .nil) Z SU
theorem deletefunc238 {α : Type} {enc : α → List Value} {xs : List α} (hf : Tryz.prog.funcs[g]? = some fn) (hn : (fn.name == "runtime.NumGoroutine") = false) (hb : fn.body.isNone = false) {q : α → Bool} (hg : ∀ (l' : List As) (c : α), Has C l' → Con Tryz.prog g (#[.agg (enc c).toArray] ++ caps) E l' (fun _ : Unit => .bool (q c)) (fun _ => l')) (hv : Pick (row 246 3 v (xs.map enc)) l m) (hc : Has C m) (hone : ∀ c, ones (enc c) = true) (hlen : ∀ c, (enc c).length = 3) :
  Con Tryz.prog 238 #[v, .func (.func g) #[] caps] E l (fun v' : Value => v') (fun v' => row 246 3 v' ((xs.filter fun c => !q c).map enc) :: m) := by
 rcases idx_cases q xs with ⟨hi0, hall⟩ | ⟨i0, hi0, hlt0, hpre, c0, hc0, hq0⟩
 ·
  refine Con.body (n := 42) Tryz.func238 Z Z _ (env_ok 2 Z) <| J_pick hv <| sr <| ag Z Z <| nx <| mv Z Z <| mv Z Z <| xo fc295 (A2 Z Z) Z (indexfunc295 hf hn hb hg .here (.there hc)) fun _ => ag Z Z <| nxx <| mv Z Z <| L_pur Z (p_eql Z Z) <| nq <| J_bool (t := 12) (c := true) Z (by simp [hi0]) <| C_true Z <| sr <| J_rowEq (ys := (xs.filter fun c => !q c).map enc) (by rw [List.filter_eq_self.2 (fun c hc => by simp [hall c hc])]) <| mv Z Z <| ag Z Z <| nq <| J_ret <| Q_then_ret ?_
  exact J_return (_) Tryz.results238 (.tmp Z .nil) Z SU
 ·
  refine Con.body (n := 42) Tryz.func238 Z Z _ (env_ok 2 Z) <| J_pick hv <| J_row .here fun hw a cap hv h1 h2 h3 => ?_
  obtain ⟨b, o, rfl⟩ := h3 (by intro h; have := congrArg List.length h; simp at this; subst this; simp at hlt0)
  subst hv
  have hm : cap ≤ 9223372036854775807 := h2
  have hml : (xs.map enc).length = xs.length := List.length_map _
  have hk0 : kept q xs (i0 + 1) = xs.take i0 := kept_first hpre hc0 hq0
  have hl0 : (xs.take i0).length = i0 := by simp; omega
  refine sr <| ag Z Z <| nx <| mv Z Z <| mv Z Z <| xo fc295 (A2 Z Z) Z (indexfunc295 hf hn hb hg .here (.there hc)) fun _ => J_slot (t := 10) (v := .int .i64 (i0 : Int)) Z (by rw [hi0]) <| ag Z Z <| nxx <| mv Z Z <| L_pur Z (p_eql Z Z) <| nq <| J_bool (t := 12) (c := false) Z (by simp) <| C_false Z <| J_skip <| Q_then <| J_seq <| sr <| mv Z Z <| L_pur Z (p_add64 Z Z (by omega)) <| ag Z Z <| nq <| J_block ?_
  refine J_rowEq (ys := (kept q xs (i0 + 1) ++ xs.drop (kept q xs (i0 + 1)).length).map enc) (by rw [hk0, hl0, List.take_append_drop]) <| J_slot (t := 5) (v := .int .i64 ((kept q xs (i0 + 1)).length : Int)) Z (by rw [hk0, hl0]) <| J_loop (α := Nat) (fun j => j ≤ xs.length) (fun j => row 246 3 (.slice (some ⟨b, o, none⟩) (xs.map enc).length cap) ((kept q xs j ++ xs.drop (kept q xs j).length).map enc) :: m) (fun j => [(6, .int .i64 (j : Int)), (5, .int .i64 ((kept q xs j).length : Int)), (0, .slice (some ⟨b, o, none⟩) (xs.map enc).length cap), (1, .func (.func g) #[] caps)]) (fun j => xs.length - j) (i0 + 1) (by omega) SU KE ?_
  intro j hj
  have hkl := kept_le q xs j
  refine J_seq <| sr <| mv Z Z <| mv Z Z <| L_pur Z (p_len Z Tryz.underlying114) <| L_pur Z (p_lss Z Z) <| nq <| C_dec Z (fun h19 => ?_) (fun h19 => ?_)
  have hlt : j < xs.length := by omega
  obtain ⟨c, hcc⟩ : ∃ c, xs[j]? = some c := ⟨_, List.getElem?_eq_getElem hlt⟩
  refine J_skip <| Q_then <| J_seq <| J_block <| sr <| mv Z Z <| mv Z Z <| L_pur Z (p_indexAddr Z Z Tryz.underlying114 ty246 (by omega) (by omega)) <| L_val Z (v_loadE Z ty246 HS (by simp only [Int.toNat_natCast, List.getElem?_map, kept_get, hcc]; rfl)) ?_
  refine L_op <| x_alloc ty246 Z fun b7 => L_op <| x_store Z Z ty246 Z SM SM RO PT <| nx <| mv Z Z <| L_val Z (v_loadA Z ty246 HS CT) <| L_op <| x_callc Z hf hn hb (.cons Z .nil) Z (hg _ c (.there (.there hc))) fun _ => L_pur Z (p_not Z) <| nq <| C_split Z (fun h29 => ?_) (fun h29 => ?_)
  have hqc : q c = false := by simpa using h29
  have hks := kept_set hcc hqc
  have hkl1 : (kept q xs (j + 1)).length = (kept q xs j).length + 1 := by rw [kept_succ hcc, hqc]; simp
  refine sr <| mv Z Z <| mv Z Z <| L_val Z (v_loadA Z ty246 HS CT) <| L_pur Z (p_indexAddr Z Z Tryz.underlying114 ty246 (by omega) (by omega)) <| L_op <| x_storeE (vs := enc c) Z Z ty246 Z (hlen c) (hone c) PC (OM) <| J_rowEq (ys := (kept q xs (j + 1) ++ xs.drop (kept q xs (j + 1)).length).map enc) (by rw [← hks, List.map_set]; simp) <| ny <| mv Z Z <| L_pur Z (p_add64 Z Z (by omega)) <| ag Z Z <| L_nil <| Q_blk_normal <| qr <| mv Z Z <| L_pur Z (p_add64 Z Z (by omega)) <| ag Z Z <| nq <| J_slot (t := 5) (v := .int .i64 ((kept q xs (j + 1)).length : Int)) Z (by rw [hkl1]; rfl) ?_
  exact J_again (j + 1) (by omega) (by omega) SU KE
  have hqc : q c = true := by simpa using h29
  have hks : kept q xs (j + 1) = kept q xs j := by rw [kept_succ hcc, hqc]; simp
  refine J_skip <| Q_blk_normal <| qr <| mv Z Z <| L_pur Z (p_add64 Z Z (by omega)) <| ag Z Z <| nq <| J_slot (t := 5) (v := .int .i64 ((kept q xs (j + 1)).length : Int)) Z (by rw [hks]) <| J_pick (A := row 246 3 (.slice (some ⟨b, o, none⟩) (xs.map enc).length cap) ((kept q xs j ++ xs.drop (kept q xs j).length).map enc)) PC <| J_rowEq (ys := (kept q xs (j + 1) ++ xs.drop (kept q xs (j + 1)).length).map enc) (by rw [hks]) ?_
  exact J_again (j + 1) (by omega) (by omega) SU KE
  have hjx : j = xs.length := by omega
  have hka : kept q xs j = xs.filter fun c => !q c := kept_all (by omega)
  refine J_exit <| Q_then_exit <| Q_then_exit <| Q_blk_this <| qx <| mv Z Z <| mv Z Z <| L_pur Z (p_slice Z Tryz.underlying114 ty246 Z Z (by omega) (by omega) (by omega)) <| L_op <| x_clear (len := (xs.map enc).length) Z Tryz.underlying114 ty246 Z Z PC (OM) <| nx <| mv Z Z <| mv Z Z <| L_pur Z (p_slice Z Tryz.underlying114 ty246 Z Z (by omega) (by omega) (by omega)) <| J_take (k := (kept q xs j).length) (OM) <| J_rowTo (v' := .slice (some ⟨b, o, none⟩) (kept q xs j).length cap) (ys := (xs.filter fun c => !q c).map enc) (by simp [hka]) Z <| J_slot (t := 41) (v := .slice (some ⟨b, o, none⟩) (kept q xs j).length cap) Z (by simp [Addr.add]) <| ag Z Z <| nq <| J_ret ?_
  exact J_return (_) Tryz.results238 (.tmp Z .nil) Z SU
theorem clone340 {xs : List (List Value)} (hr : ∀ w, Sep E w l → Reads w 5 v xs) (hb : xs.length ≤ 1000000) :
    Con Tryz.prog 340 #[v] E l (fun v' : Value => v') (fun v' => row 374 5 v' xs :: l) := by
  refine Con.body (n := 8) Tryz.func340 Z Z _ (env_ok 1 Z) <| J_reads hr fun hw a cap hv h1 h2 h3 => ?_
  subst hv
  refine sr <| ag Z Z <| nxx <| mv Z Z <| L_pur Z (p_eqnil Tryz.underlying220 Z) <| nq <| C_split Z (fun h4 => ?_) (fun h4 => ?_)
  obtain rfl : a = none := by simpa using h4
  obtain ⟨rfl, rfl⟩ := h3 rfl
  refine J_nil (el := 374) (sz := 5) <| sr <| ag Z Z <| nq <| J_ret <| Q_then_ret ?_
  exact J_return (_) Tryz.results340 (.tmp Z .nil) Z SU
  refine J_skip <| qx <| L_op <| x_lit (vals := []) Tryz.underlying220 ty374 Z .nil .nil Wf.nil Z (by decide) Z Z <| JR fun a5 c5 hw5 hl5 hm5 hz5 => mv Z Z <| L_op <| x_app Z Z Tryz.underlying220 ty374 Z Z PC (fun w H => hr w H.tail) (OM) (OM) Z <| JR fun a7 c7 hw7 hl7 hm7 hz7 => ag Z Z <| nq <| J_ret ?_
  exact J_return (_) Tryz.results340 (.tmp Z .nil) Z SU
theorem clone107 {xs : List (List Value)} (hr : ∀ w, Sep E w l → Reads w 3 v xs) (hb : xs.length ≤ 1000000) :
    Con Tryz.prog 107 #[v] E l (fun v' : Value => v') (fun v' => row 246 3 v' xs :: l) := by
  refine Con.body (n := 8) Tryz.func107 Z Z _ (env_ok 1 Z) <| J_reads hr fun hw a cap hv h1 h2 h3 => ?_
  subst hv
  refine sr <| ag Z Z <| nxx <| mv Z Z <| L_pur Z (p_eqnil Tryz.underlying114 Z) <| nq <| C_split Z (fun h4 => ?_) (fun h4 => ?_)
  obtain rfl : a = none := by simpa using h4
  obtain ⟨rfl, rfl⟩ := h3 rfl
  refine J_nil (el := 246) (sz := 3) <| sr <| ag Z Z <| nq <| J_ret <| Q_then_ret ?_
  exact J_return (_) Tryz.results107 (.tmp Z .nil) Z SU
  refine J_skip <| qx <| L_op <| x_lit (vals := []) Tryz.underlying114 ty246 Z .nil .nil Wf.nil Z (by decide) Z Z <| JR fun a5 c5 hw5 hl5 hm5 hz5 => mv Z Z <| L_op <| x_app Z Z Tryz.underlying114 ty246 Z Z PC (fun w H => hr w H.tail) (OM) (OM) Z <| JR fun a7 c7 hw7 hl7 hm7 hz7 => ag Z Z <| nq <| J_ret ?_
  exact J_return (_) Tryz.results107 (.tmp Z .nil) Z SU
theorem clo237 {c : Msg} (hc : Has (blk bc 36 (encI i)) l) :
    Con Tryz.prog 237 #[.agg (encM c).toArray, .pointer (some ⟨bc, 0, none⟩)] E l (fun _ : Unit => .bool (isM i c)) (fun _ => l) := by
  refine Con.body (n := 8) Tryz.func237 Z Z _ (env_ok 2 Z) <| sr <| L_op <| x_box Z Z Z fun b2 => ag Z Z <| nx <| fa Z Z fa374_0 <| L_val Z (v_loadA Z ty36 HS CT) <| L_val Z (v_loadA Z ty36 HS CT) <| L_pur Z (p_eqv Z Z (fun w => eg36 _ _ _ _ _ w) (fun w => eqv36 _ _ _ _ w)) <| ag Z Z <| nq <| J_ret ?_
  exact J_return (()) Tryz.results237 (.tmp Z .nil) Z SU
theorem clo239 {c : Rcv} (hc : Has (blk bc 36 (encI i)) l) :
    Con Tryz.prog 239 #[.agg (encR c).toArray, .pointer (some ⟨bc, 0, none⟩)] E l (fun _ : Unit => .bool (isR i c)) (fun _ => l) := by
  refine Con.body (n := 8) Tryz.func239 Z Z _ (env_ok 2 Z) <| sr <| L_op <| x_box Z Z Z fun b2 => ag Z Z <| nx <| fa Z Z fa246_0 <| L_val Z (v_loadA Z ty36 HS CT) <| L_val Z (v_loadA Z ty36 HS CT) <| L_pur Z (p_eqv Z Z (fun w => eg36 _ _ _ _ _ w) (fun w => eqv36 _ _ _ _ w)) <| ag Z Z <| nq <| J_ret ?_
  exact J_return (()) Tryz.results239 (.tmp Z .nil) Z SU
variable {out : List Msg} {inn : List Rcv}
theorem epDropC (hp : Pick (epA b out inn) l m) (hbo : out.length ≤ 100000) (hbi : inn.length ≤ 100000) :
    Con Tryz.prog 169 #[.pointer (some ⟨b, 0, none⟩), .agg (encI i).toArray] E l (fun _ : Unit => .bool (decide ((mdrop out i).length + (rdrop inn i).length < out.length + inn.length))) (fun _ => epA b (mdrop out i) (rdrop inn i) :: m) := by
  refine Con.body (n := 48) Tryz.func169 Z Z _ (env_ok 2 Z) <| J_pick hp <| J_epO fun vo vi _ => J_row (.there .here) fun hw a cap hv h1 h2 h3 => ?_
  subst hv
  refine J_row (.there (.there .here)) fun hw' a' cap' hv h1' h2' h3' => ?_
  subst hv
  refine sr <| L_op <| x_box Z Z Z fun b3 => ag Z Z <| nq <| J_seq <| J_drawS mixed (by kernel_rfl) <| sm Z Z <| sp Z (p_nilCheck Z) <| sp Z (p_fieldAddr Z fa222_0) <| S_val Z (v_load Z ty220 HS (by exact rfl)) <| sp Z (p_len Z Tryz.underlying220) <| sm Z Z <| sp Z (p_nilCheck Z) <| sp Z (p_fieldAddr Z fa222_1) <| S_val Z (v_load Z ty114 HS (by exact rfl)) <| sp Z (p_len Z Tryz.underlying114) <| sp Z (p_add64 Z Z (by simp; omega)) <| sp Z (p_assign Z) <| sq <| sr <| mv Z Z <| mv Z Z <| nc Z Z <| fa Z Z fa222_0 <| L_val Z (v_load Z ty220 HS (by exact rfl)) ?_
  refine L_pur Z (p_makeFunc (.cons Z .nil)) <| xo fc236 (A2 Z Z) Z (deletefunc236 (xs := out) (enc := encM) (q := isM i) (C := blk b3 36 (encI i)) Tryz.func237 nm237 bd237 (fun l' c hc => clo237 hc) PC HS encM_one encM_len) <| JR fun a23 c23 hw23 hl23 hm23 hz23 => nc Z Z <| fa Z Z fa222_0 <| L_op <| x_store Z Z ty220 Z SM SM RO PT <| nx <| mv Z Z <| mv Z Z <| nc Z Z <| fa Z Z fa222_1 <| L_val Z (v_load Z ty114 HS (by exact rfl)) <| L_pur Z (p_makeFunc (.cons Z .nil)) <| xo fc238 (A2 Z Z) Z (deletefunc238 (xs := inn) (enc := encR) (q := isR i) (C := blk b3 36 (encI i)) Tryz.func239 nm239 bd239 (fun l' c hc => clo239 hc) PC HS encR_one encR_len) <| JR fun a32 c32 hw32 hl32 hm32 hz32 => nc Z Z <| fa Z Z fa222_1 <| L_op <| x_store Z Z ty114 Z SM SM RO PT ?_
  refine nq <| J_seq <| J_drawS mixed (by kernel_rfl) <| sm Z Z <| sp Z (p_nilCheck Z) <| sp Z (p_fieldAddr Z fa222_0) <| S_val Z (v_load Z ty220 HS (by exact rfl)) <| sp Z (p_len Z Tryz.underlying220) <| sm Z Z <| sp Z (p_nilCheck Z) <| sp Z (p_fieldAddr Z fa222_1) <| S_val Z (v_load Z ty114 HS (by exact rfl)) <| sp Z (p_len Z Tryz.underlying114) <| sp Z (p_add64 Z Z (by have := List.length_filter_le (fun c => !isM i c) out; have := List.length_filter_le (fun c => !isR i c) inn; simp; omega)) <| sm Z Z <| sp Z (p_lss Z Z) <| sp Z (p_assign Z) <| sq <| J_ret <| J_epS (b := b) (out := (mdrop out i)) (inn := (rdrop inn i)) _ _ PX trivial <| J_return (()) Tryz.results169 (.tmp Z .nil) ?_ ?_
  · simp only [one, List.length_map, mdrop, rdrop]; congr 1; rw [decide_eq_decide]; omega
  · exact SU
theorem epSenders (hp : Pick (epA b out inn) l m) (hbo : out.length ≤ 100000) (hbi : inn.length ≤ 100000) :
    Con Tryz.prog 333 #[.pointer (some ⟨b, 0, none⟩)] E l (fun v : Value => v) (fun v => row 374 5 v (out.map encM) :: epA b out inn :: m) := by
  refine Con.body (n := 8) Tryz.func333 Z Z _ (env_ok 1 Z) <| J_pick hp <| J_epO fun vo vi _ => J_row (.there .here) fun hw a cap hv h1 h2 h3 => ?_
  subst hv
  refine J_row (.there (.there .here)) fun hw' a' cap' hv h1' h2' h3' => ?_
  subst hv
  refine sr <| ag Z Z <| nx <| mv Z Z <| nc Z Z <| fa Z Z fa222_0 <| L_val Z (v_load Z ty220 HS (by exact rfl)) <| xo fc340 (A1 Z) Z (clone340 (xs := out.map encM) (fun w H => sep_reads (xs := out.map encM) HS H) (by simp; omega)) <| JR fun a7 c7 hw7 hl7 hm7 hz7 => ag Z Z <| nq <| J_ret <| J_epS (b := b) (out := out) (inn := inn) _ _ PX trivial ?_
  exact J_return (_) Tryz.results333 (.tmp Z .nil) Z SU
theorem epReceivers (hp : Pick (epA b out inn) l m) (hbo : out.length ≤ 100000) (hbi : inn.length ≤ 100000) :
    Con Tryz.prog 61 #[.pointer (some ⟨b, 0, none⟩)] E l (fun v : Value => v) (fun v => row 246 3 v (inn.map encR) :: epA b out inn :: m) := by
  refine Con.body (n := 8) Tryz.func61 Z Z _ (env_ok 1 Z) <| J_pick hp <| J_epO fun vo vi _ => J_row (.there .here) fun hw a cap hv h1 h2 h3 => ?_
  subst hv
  refine J_row (.there (.there .here)) fun hw' a' cap' hv h1' h2' h3' => ?_
  subst hv
  refine sr <| ag Z Z <| nx <| mv Z Z <| nc Z Z <| fa Z Z fa222_1 <| L_val Z (v_load Z ty114 HS (by exact rfl)) <| xo fc107 (A1 Z) Z (clone107 (xs := inn.map encR) (fun w H => sep_reads (xs := inn.map encR) HS H) (by simp; omega)) <| JR fun a7 c7 hw7 hl7 hm7 hz7 => ag Z Z <| nq <| J_ret <| J_epS (b := b) (out := out) (inn := inn) _ _ PX trivial ?_
  exact J_return (_) Tryz.results61 (.tmp Z .nil) Z SU
theorem indexfunc293 {α : Type} {enc : α → List Value} {xs : List α} (hf : Tryz.prog.funcs[g]? = some fn) (hn : (fn.name == "runtime.NumGoroutine") = false) (hb : fn.body.isNone = false) {q : α → Bool} (hg : ∀ (l' : List As) (c : α), Has C l' → Con Tryz.prog g (#[.agg (enc c).toArray] ++ caps) E l' (fun _ : Unit => .bool (q c)) (fun _ => l')) (hv : Has (row 308 3 v (xs.map enc)) l) (hc : Has C l) :
    Con Tryz.prog 293 #[v, .func (.func g) #[] caps] E l (fun _ : Unit => .int .i64 (idx q xs)) (fun _ => l) := by
  refine Con.body (n := 19) Tryz.func293 Z Z _ (env_ok 2 Z) <| J_row hv fun hw a cap hv h1 h2 h3 => ?_
  subst hv
  have hm : cap ≤ 9223372036854775807 := h2
  have hml : (xs.map enc).length = xs.length := List.length_map _
  refine sr <| ag Z Z <| nxx <| mv Z Z <| L_pur Z (p_len Z Tryz.underlying139) <| mv Z Z <| nq <| J_block <| J_loop (α := Nat) (fun i => i ≤ xs.length ∧ ∀ c ∈ xs.take i, q c = false) (fun _ => l) (fun i => [(8, .int .i64 (i : Int)), (7, .int .i64 (xs.map enc).length), (0, .slice a (xs.map enc).length cap), (1, .func (.func g) #[] caps)]) (fun i => xs.length - i) 0 ⟨by omega, by simp⟩ SU KE ?_
  intro i ⟨hi, hq⟩
  refine sr <| L_pur Z (p_lss Z Z) <| nq <| J_seq <| C_dec Z (fun h9 => ?_) (fun h9 => ?_)
  have hlt : i < xs.length := by omega
  obtain ⟨b, o, rfl⟩ := h3 (by intro h; rw [h] at hml; simp at hml; omega)
  obtain ⟨c, hcc⟩ : ∃ c, xs[i]? = some c := ⟨_, List.getElem?_eq_getElem hlt⟩
  refine J_skip <| Q_then <| J_seq <| J_block <| sr <| mv Z Z <| ag Z Z <| nx <| mv Z Z <| mv Z Z <| mv Z Z <| L_pur Z (p_indexAddr Z Z Tryz.underlying139 ty308 (by omega) (by omega)) <| L_val Z (v_loadE Z ty308 HS (by simp only [Int.toNat_natCast, List.getElem?_map, hcc]; rfl)) ?_
  refine L_op <| x_callc Z hf hn hb (.cons Z .nil) Z (hg _ c hc) fun _ => nq <| C_split Z (fun h16 => ?_) (fun h16 => ?_)
  have hidx := idx_here hq hcc h16
  refine sr <| mv Z Z <| ag Z Z <| nq <| J_ret <| Q_blk_ret <| Q_then_ret <| Q_then_ret <| Q_blk_ret <| Q_then_ret <| J_return (()) Tryz.results293 (.tmp Z .nil) ?_ ?_
  · simp [one, hidx]
  · exact SU
  refine J_skip <| Q_blk_normal <| qr <| L_pur Z (p_add64 Z Z (by omega)) <| mv Z Z <| nq ?_
  exact J_again (i + 1) (by omega) (⟨by omega, take_false_succ hq hcc h16⟩) SU KE
  have hix : i = xs.length := by omega
  rw [hix, List.take_length] at hq
  have hidx := idx_none hq
  refine J_exit <| Q_then_exit <| Q_then_exit <| Q_blk_this <| qx <| ag Z Z <| nq <| J_ret <| J_return (()) Tryz.results293 (.tmp Z .nil) ?_ ?_
  · simp [one, hidx]
  · exact SU
theorem deletefunc234 {α : Type} {enc : α → List Value} {xs : List α} (hf : Tryz.prog.funcs[g]? = some fn) (hn : (fn.name == "runtime.NumGoroutine") = false) (hb : fn.body.isNone = false) {q : α → Bool} (hg : ∀ (l' : List As) (c : α), Has C l' → Con Tryz.prog g (#[.agg (enc c).toArray] ++ caps) E l' (fun _ : Unit => .bool (q c)) (fun _ => l')) (hv : Pick (row 308 3 v (xs.map enc)) l m) (hc : Has C m) (hone : ∀ c, ones (enc c) = true) (hlen : ∀ c, (enc c).length = 3) :
  Con Tryz.prog 234 #[v, .func (.func g) #[] caps] E l (fun v' : Value => v') (fun v' => row 308 3 v' ((xs.filter fun c => !q c).map enc) :: m) := by
 rcases idx_cases q xs with ⟨hi0, hall⟩ | ⟨i0, hi0, hlt0, hpre, c0, hc0, hq0⟩
 ·
  refine Con.body (n := 42) Tryz.func234 Z Z _ (env_ok 2 Z) <| J_pick hv <| sr <| ag Z Z <| nx <| mv Z Z <| mv Z Z <| xo fc293 (A2 Z Z) Z (indexfunc293 hf hn hb hg .here (.there hc)) fun _ => ag Z Z <| nxx <| mv Z Z <| L_pur Z (p_eql Z Z) <| nq <| J_bool (t := 12) (c := true) Z (by simp [hi0]) <| C_true Z <| sr <| J_rowEq (ys := (xs.filter fun c => !q c).map enc) (by rw [List.filter_eq_self.2 (fun c hc => by simp [hall c hc])]) <| mv Z Z <| ag Z Z <| nq <| J_ret <| Q_then_ret ?_
  exact J_return (_) Tryz.results234 (.tmp Z .nil) Z SU
 ·
  refine Con.body (n := 42) Tryz.func234 Z Z _ (env_ok 2 Z) <| J_pick hv <| J_row .here fun hw a cap hv h1 h2 h3 => ?_
  obtain ⟨b, o, rfl⟩ := h3 (by intro h; have := congrArg List.length h; simp at this; subst this; simp at hlt0)
  subst hv
  have hm : cap ≤ 9223372036854775807 := h2
  have hml : (xs.map enc).length = xs.length := List.length_map _
  have hk0 : kept q xs (i0 + 1) = xs.take i0 := kept_first hpre hc0 hq0
  have hl0 : (xs.take i0).length = i0 := by simp; omega
  refine sr <| ag Z Z <| nx <| mv Z Z <| mv Z Z <| xo fc293 (A2 Z Z) Z (indexfunc293 hf hn hb hg .here (.there hc)) fun _ => J_slot (t := 10) (v := .int .i64 (i0 : Int)) Z (by rw [hi0]) <| ag Z Z <| nxx <| mv Z Z <| L_pur Z (p_eql Z Z) <| nq <| J_bool (t := 12) (c := false) Z (by simp) <| C_false Z <| J_skip <| Q_then <| J_seq <| sr <| mv Z Z <| L_pur Z (p_add64 Z Z (by omega)) <| ag Z Z <| nq <| J_block ?_
  refine J_rowEq (ys := (kept q xs (i0 + 1) ++ xs.drop (kept q xs (i0 + 1)).length).map enc) (by rw [hk0, hl0, List.take_append_drop]) <| J_slot (t := 5) (v := .int .i64 ((kept q xs (i0 + 1)).length : Int)) Z (by rw [hk0, hl0]) <| J_loop (α := Nat) (fun j => j ≤ xs.length) (fun j => row 308 3 (.slice (some ⟨b, o, none⟩) (xs.map enc).length cap) ((kept q xs j ++ xs.drop (kept q xs j).length).map enc) :: m) (fun j => [(6, .int .i64 (j : Int)), (5, .int .i64 ((kept q xs j).length : Int)), (0, .slice (some ⟨b, o, none⟩) (xs.map enc).length cap), (1, .func (.func g) #[] caps)]) (fun j => xs.length - j) (i0 + 1) (by omega) SU KE ?_
  intro j hj
  have hkl := kept_le q xs j
  refine J_seq <| sr <| mv Z Z <| mv Z Z <| L_pur Z (p_len Z Tryz.underlying139) <| L_pur Z (p_lss Z Z) <| nq <| C_dec Z (fun h19 => ?_) (fun h19 => ?_)
  have hlt : j < xs.length := by omega
  obtain ⟨c, hcc⟩ : ∃ c, xs[j]? = some c := ⟨_, List.getElem?_eq_getElem hlt⟩
  refine J_skip <| Q_then <| J_seq <| J_block <| sr <| mv Z Z <| mv Z Z <| L_pur Z (p_indexAddr Z Z Tryz.underlying139 ty308 (by omega) (by omega)) <| L_val Z (v_loadE Z ty308 HS (by simp only [Int.toNat_natCast, List.getElem?_map, kept_get, hcc]; rfl)) ?_
  refine L_op <| x_alloc ty308 Z fun b7 => L_op <| x_store Z Z ty308 Z SM SM RO PT <| nx <| mv Z Z <| L_val Z (v_loadA Z ty308 HS CT) <| L_op <| x_callc Z hf hn hb (.cons Z .nil) Z (hg _ c (.there (.there hc))) fun _ => L_pur Z (p_not Z) <| nq <| C_split Z (fun h29 => ?_) (fun h29 => ?_)
  have hqc : q c = false := by simpa using h29
  have hks := kept_set hcc hqc
  have hkl1 : (kept q xs (j + 1)).length = (kept q xs j).length + 1 := by rw [kept_succ hcc, hqc]; simp
  refine sr <| mv Z Z <| mv Z Z <| L_val Z (v_loadA Z ty308 HS CT) <| L_pur Z (p_indexAddr Z Z Tryz.underlying139 ty308 (by omega) (by omega)) <| L_op <| x_storeE (vs := enc c) Z Z ty308 Z (hlen c) (hone c) PC (OM) <| J_rowEq (ys := (kept q xs (j + 1) ++ xs.drop (kept q xs (j + 1)).length).map enc) (by rw [← hks, List.map_set]; simp) <| ny <| mv Z Z <| L_pur Z (p_add64 Z Z (by omega)) <| ag Z Z <| L_nil <| Q_blk_normal <| qr <| mv Z Z <| L_pur Z (p_add64 Z Z (by omega)) <| ag Z Z <| nq <| J_slot (t := 5) (v := .int .i64 ((kept q xs (j + 1)).length : Int)) Z (by rw [hkl1]; rfl) ?_
  exact J_again (j + 1) (by omega) (by omega) SU KE
  have hqc : q c = true := by simpa using h29
  have hks : kept q xs (j + 1) = kept q xs j := by rw [kept_succ hcc, hqc]; simp
  refine J_skip <| Q_blk_normal <| qr <| mv Z Z <| L_pur Z (p_add64 Z Z (by omega)) <| ag Z Z <| nq <| J_slot (t := 5) (v := .int .i64 ((kept q xs (j + 1)).length : Int)) Z (by rw [hks]) <| J_pick (A := row 308 3 (.slice (some ⟨b, o, none⟩) (xs.map enc).length cap) ((kept q xs j ++ xs.drop (kept q xs j).length).map enc)) PC <| J_rowEq (ys := (kept q xs (j + 1) ++ xs.drop (kept q xs (j + 1)).length).map enc) (by rw [hks]) ?_
  exact J_again (j + 1) (by omega) (by omega) SU KE
  have hjx : j = xs.length := by omega
  have hka : kept q xs j = xs.filter fun c => !q c := kept_all (by omega)
  refine J_exit <| Q_then_exit <| Q_then_exit <| Q_blk_this <| qx <| mv Z Z <| mv Z Z <| L_pur Z (p_slice Z Tryz.underlying139 ty308 Z Z (by omega) (by omega) (by omega)) <| L_op <| x_clear (len := (xs.map enc).length) Z Tryz.underlying139 ty308 Z Z PC (OM) <| nx <| mv Z Z <| mv Z Z <| L_pur Z (p_slice Z Tryz.underlying139 ty308 Z Z (by omega) (by omega) (by omega)) <| J_take (k := (kept q xs j).length) (OM) <| J_rowTo (v' := .slice (some ⟨b, o, none⟩) (kept q xs j).length cap) (ys := (xs.filter fun c => !q c).map enc) (by simp [hka]) Z <| J_slot (t := 41) (v := .slice (some ⟨b, o, none⟩) (kept q xs j).length cap) Z (by simp [Addr.add]) <| ag Z Z <| nq <| J_ret ?_
  exact J_return (_) Tryz.results234 (.tmp Z .nil) Z SU
theorem clo235 {c : Tm} (hc : Has (blk bc 36 (encI i)) l) :
    Con Tryz.prog 235 #[.agg (encT c).toArray, .pointer (some ⟨bc, 0, none⟩)] E l (fun _ : Unit => .bool (isTm i c)) (fun _ => l) := by
  refine Con.body (n := 8) Tryz.func235 Z Z _ (env_ok 2 Z) <| sr <| L_op <| x_box Z Z Z fun b2 => ag Z Z <| nx <| fa Z Z fa308_1 <| L_val Z (v_loadA Z ty36 HS CT) <| L_val Z (v_loadA Z ty36 HS CT) <| L_pur Z (p_eqv Z Z (fun w => eg36 _ _ _ _ _ w) (fun w => eqv36 _ _ _ _ w)) <| ag Z Z <| nq <| J_ret ?_
  exact J_return (()) Tryz.results235 (.tmp Z .nil) Z SU
theorem tmrDropC {xs : List Tm} (hp : Pick (tmrA b o xs) l m) (hb : xs.length ≤ 100000) :
    Con Tryz.prog 168 #[.pointer (some ⟨b, o, none⟩), .agg (encI i).toArray] E l (fun _ : Unit => .bool (decide ((tdrop xs i).length < xs.length))) (fun _ => tmrA b o (tdrop xs i) :: m) := by
  refine Con.body (n := 27) Tryz.func168 Z Z _ (env_ok 2 Z) <| J_pick hp <| J_tmrO fun v _ => J_row (.there .here) fun hw a cap hv h1 h2 h3 => ?_
  subst hv
  have hm : cap ≤ 9223372036854775807 := h2
  have hml : (xs.map encT).length = xs.length := List.length_map _
  refine sr <| L_op <| x_box Z Z Z fun b3 => ag Z Z <| nx <| mv Z Z <| nc Z Z <| fa Z Z fa141_0 <| L_val Z (v_loadL Z ty139 HS Z (by exact rfl)) <| L_pur Z (p_len Z Tryz.underlying139) <| ag Z Z <| nx <| mv Z Z <| mv Z Z <| nc Z Z <| fa Z Z fa141_0 <| L_val Z (v_loadL Z ty139 HS Z (by exact rfl)) <| L_pur Z (p_makeFunc (.cons Z .nil)) <| xo fc234 (A2 Z Z) Z (deletefunc234 (xs := xs) (enc := encT) (q := isTm i) (C := blk b3 36 (encI i)) Tryz.func235 nm235 bd235 (fun l' c hc => clo235 hc) PC HS encT_one encT_len) <| JR fun a17 c17 hw17 hl17 hm17 hz17 => nc Z Z <| fa Z Z fa141_0 <| L_op <| x_storeL Z Z ty139 Z SM SM Z RO Z PT <| nx <| mv Z Z <| nc Z Z <| fa Z Z fa141_0 <| L_val Z (v_loadL Z ty139 HS Z (by exact rfl)) <| L_pur Z (p_len Z Tryz.underlying139) <| mv Z Z <| L_pur Z (p_lss Z Z) <| ag Z Z <| nq <| J_ret <| J_tmrS (b := b) (o := o) (xs := tdrop xs i) _ PX trivial ?_
  refine J_return (()) Tryz.results168 (.tmp Z .nil) ?_ ?_
  · simp [one]
  · exact SU
def cDrop (c : ID × Bool) (i : ID) : ID × Bool := if c.2 = true ∧ c.1 = i then ((0, 0), false) else c
theorem rpDropC {c : ID × Bool} (hp : Pick (rpA b c) l m) :
    Con Tryz.prog 173 #[.pointer (some ⟨b, 0, none⟩), .agg (encI i).toArray] E l (fun _ : Unit => .bool (decide (c.2 = true ∧ c.1 = i))) (fun _ => rpA b (cDrop c i) :: m) := by
  refine Con.body (n := 21) Tryz.func173 Z Z _ (env_ok 2 Z) <| J_pick hp <| J_asTo (B := blk b 243 [.int .i64 c.1.1, .int .i64 c.1.2, .bool c.2]) (by rfl) <| sr <| L_op <| x_box Z Z Z fun b3 => ag Z Z <| nq <| J_seq <| J_seq <| J_drawS mixed (by kernel_rfl) <| sm Z Z <| sp Z (p_nilCheck Z) <| sp Z (p_fieldAddr Z fa243_1) <| S_val Z (v_load Z ty4 HS (by exact rfl)) <| sp Z (p_not Z) <| sm Z Z <| J_gsplit (t := 10) Z (fun h10 => ?_) (fun h10 => ?_)
  have hno : ¬ (c.2 = true ∧ c.1 = i) := fun e => by rw [e.1] at h10; simp at h10
  refine S_off Z Z Z Z Z <| S_off Z Z Z Z Z <| S_off Z Z Z Z Z <| S_off Z Z Z Z Z <| S_off Z Z Z Z Z <| S_off Z Z Z Z Z <| sp Z (p_pick_t Z Z) <| sq <| C_true Z <| sr <| ag Z Z <| nq <| J_ret <| Q_then_ret <| J_pick (A := blk b _ _) PC <| J_asTo (B := rpA b (cDrop c i)) (by rw [cDrop, if_neg hno]; rfl) <| J_return (()) Tryz.results173 (.tmp Z .nil) ?_ ?_
  · simp [one, hno]
  · exact SU
  refine S_on Z Z Z Z (Pur.vl (p_move Z)) <| S_on Z Z Z Z (Pur.vl (p_nilCheck Z)) <| S_on Z Z Z Z (Pur.vl (p_fieldAddr Z fa243_0)) <| S_on Z Z Z Z (v_loadA Z ty36 HS CT) <| S_on Z Z Z Z (v_loadA Z ty36 HS CT) <| S_on Z Z Z Z (Pur.vl (p_nev Z Z (fun w => eg36 _ _ _ _ _ w) (fun w => nev36 _ _ _ _ w))) <| sp Z (p_pick_f Z Z) <| sq <| C_split Z (fun h17 => ?_) (fun h17 => ?_)
  have hno : ¬ (c.2 = true ∧ c.1 = i) := fun e => by rw [← e.2] at h17; simp at h17
  refine sr <| ag Z Z <| nq <| J_ret <| Q_then_ret <| J_pick (A := blk b _ _) PC <| J_asTo (B := rpA b (cDrop c i)) (by rw [cDrop, if_neg hno]; rfl) <| J_return (()) Tryz.results173 (.tmp Z .nil) ?_ ?_
  · simp [one, hno]
  · exact SU
  have hyes : c.2 = true ∧ c.1 = i := ⟨by simpa using h10, by simp at h17; exact Prod.ext h17.1 h17.2⟩
  refine J_skip <| qx <| mv Z Z <| L_pur Z (bld243 .nil (by repeat constructor)) <| nc Z Z <| L_op <| x_store Z Z ty243 Z SM SM RO PT <| nx <| ag Z Z <| nq <| J_ret <| J_pick (A := blk b _ _) PC <| J_asTo (B := rpA b (cDrop c i)) (by rw [cDrop, if_pos hyes]; rfl) <| J_return (()) Tryz.results173 (.tmp Z .nil) ?_ ?_
  · simp [one, hyes]
  · exact SU
theorem rpCaller {c : ID × Bool} (hp : Pick (rpA b c) l m) :
    Con Tryz.prog 289 #[.pointer (some ⟨b, 0, none⟩)] E l (fun _ : Unit => .tuple #[.agg (encI c.1).toArray, .bool c.2]) (fun _ => rpA b c :: m) := by
  refine Con.body (n := 12) Tryz.func289 Z Z _ (env_ok 1 Z) <| J_pick hp <| J_asTo (B := blk b 243 [.int .i64 c.1.1, .int .i64 c.1.2, .bool c.2]) (by rfl) <| sr <| L_op <| x_alloc ty36 Z fun b2 => ag Z Z <| nq <| J_seq <| J_drawL (some 8) mixed <| ip 0 Z Z Z Z (p_move Z) <| ip 1 Z Z Z Z (p_nilCheck Z) <| ip 2 Z Z Z Z (p_fieldAddr Z fa243_0) <| iv 3 Z Z Z Z (fun _ => v_loadA Z ty36 HS CT) <| ip 4 Z Z Z Z (p_move Z) <| ip 5 Z Z Z Z (p_nilCheck Z) <| ip 6 Z Z Z Z (p_fieldAddr Z fa243_1) <| I_ready (rs := [7, 8]) SI (by kernel_rfl) (by simp) <| (I_cons Z ?_ (I_cons Z ?_ I_nil))
  refine J_val (v_load Z ty4 HS (by exact rfl)) Z Z Z <| i1 8 Z <| x_store Z Z ty36 Z SM SM RO PT <| ip 9 Z Z Z Z (p_assign Z) <| i0 <| Q_then <| J_ret <| J_pick (A := blk b _ _) PC <| J_asTo (B := rpA b c) (by rfl) <| J_return (()) Tryz.results289 (.cellA Z ty36 HS CT (.tmp Z .nil)) ?_ ?_
  · rfl
  · exact SU
  refine x_store Z Z ty36 Z SM SM RO PT <| i1 7 Z <| J_val (v_load Z ty4 HS (by exact rfl)) Z Z Z <| ip 9 Z Z Z Z (p_assign Z) <| i0 <| Q_then <| J_ret <| J_pick (A := blk b _ _) PC <| J_asTo (B := rpA b c) (by rfl) <| J_return (()) Tryz.results289 (.cellA Z ty36 HS CT (.tmp Z .nil)) ?_ ?_
  · rfl
  · exact SU
/-! ### plain: one object of the state is changed, all of them, those below a unit -/
section
variable {α : Type}
def updO (xs : List (Int × Nat × α)) (u : Int) (f : α → α) : List (Int × Nat × α) := xs.map fun x => if x.1 = u then (x.1, x.2.1, f x.2.2) else x
def mapTo (f : α → α) (k : Int) (xs : List (Int × Nat × α)) : List (Int × Nat × α) := xs.map fun x => if x.1 < k then (x.1, x.2.1, f x.2.2) else x
def allO (f : α → α) (xs : List (Int × Nat × α)) : List (Int × Nat × α) := xs.map fun x => (x.1, x.2.1, f x.2.2)
variable {xs : List (Int × Nat × α)} {u k : Int} {f : α → α}
theorem ptrs_updO : ptrs (updO xs u f) = ptrs xs := by
  unfold ptrs updO; rw [List.map_map]; refine List.map_congr_left fun x _ => ?_
  simp only [Function.comp]; split <;> rfl
theorem ptrs_mapTo : ptrs (mapTo f k xs) = ptrs xs := by
  unfold ptrs mapTo; rw [List.map_map]; refine List.map_congr_left fun x _ => ?_
  simp only [Function.comp]; split <;> rfl
theorem look_ptrs : ∀ {xs : List (Int × Nat × α)}, look (ptrs xs) u = (look xs u).map Prod.fst
  | [] => rfl
  | x :: xs => by
    show look ((x.1, x.2.1) :: ptrs xs) u = _
    rw [look_cons, look_cons, look_ptrs (xs := xs)]
    split <;> rfl
theorem look_got (h : look (ptrs xs) u = some b) : ∃ a, look xs u = some (b, a) := by
  rw [look_ptrs] at h
  obtain ⟨⟨b', a⟩, h1, rfl⟩ := Option.map_eq_some_iff.1 h
  exact ⟨a, h1⟩
theorem look_is {a : α} (h : look xs u = some (b, a)) : look (ptrs xs) u = some b := by rw [look_ptrs, h]; rfl
theorem look_ix {v : Nat × α} (h : look xs u = some v) : ∃ i : Nat, xs[i]? = some (u, v) := List.getElem?_of_mem (mem_look h)
theorem updO_set {i : Nat} {a : α} (hK : Keyd (ptrs xs)) (hi : xs[i]? = some (u, b, a)) : updO xs u f = xs.set i (u, b, f a) := by
  have hl := (List.getElem?_eq_some_iff.1 hi).1
  refine List.ext_getElem? fun j => ?_
  unfold updO
  rw [List.getElem?_map, List.getElem?_set]
  by_cases hij : i = j
  · subst hij
    rw [hi, if_pos rfl, if_pos hl]; simp
  · rw [if_neg hij]
    cases hj : xs[j]? with
    | none => rfl
    | some x =>
      have : x.1 ≠ u := fun e => hij (by
        have hn : (xs.map Prod.fst).Nodup := by
          have e2 : (ptrs xs).map Prod.fst = xs.map Prod.fst := by unfold ptrs; rw [List.map_map]; rfl
          have hK' := hK
          unfold Keyd at hK'
          rw [e2] at hK'
          exact hK'
        exact nodup_idx hn (by rw [List.getElem?_map, hi]; rfl) (by rw [List.getElem?_map, hj]; exact congrArg some e))
      simp [this]
theorem mapTo_up : updO (mapTo f k xs) k f = mapTo f (k + 1) xs := by
  unfold updO mapTo
  rw [List.map_map]
  refine List.map_congr_left fun x _ => ?_
  simp only [Function.comp]
  by_cases h1 : x.1 < k
  · rw [if_pos h1, if_neg (by show ¬ x.1 = k; omega), if_pos (by omega)]
  · rw [if_neg h1]
    by_cases h2 : x.1 = k
    · rw [if_pos h2, if_pos (by omega)]
    · rw [if_neg h2, if_neg (by omega)]
theorem mapTo_no (h : look (ptrs xs) k = none) : mapTo f k xs = mapTo f (k + 1) xs := by
  unfold mapTo
  refine List.map_congr_left fun x hx => ?_
  have : x.1 ≠ k := fun e => look_none_iff.1 h (List.mem_map.2 ⟨(x.1, x.2.1), List.mem_map.2 ⟨x, hx, rfl⟩, e⟩)
  by_cases h1 : x.1 < k
  · rw [if_pos h1, if_pos (by omega)]
  · rw [if_neg h1, if_neg (by omega)]
theorem mapTo_one (h : ∀ x ∈ xs, 1 ≤ x.1 ∧ x.1 ≤ 64) : mapTo f 1 xs = xs := by
  unfold mapTo
  conv => rhs; rw [← List.map_id xs]
  refine List.map_congr_left fun x hx => ?_
  rw [if_neg (by have := h x hx; omega)]; rfl
theorem mapTo_all (h : ∀ x ∈ xs, 1 ≤ x.1 ∧ x.1 ≤ 64) : mapTo f 65 xs = allO f xs := by
  unfold mapTo allO
  refine List.map_congr_left fun x hx => ?_
  rw [if_pos (by have := h x hx; omega)]
theorem updO_mem {x : Int × Nat × α} (h : x ∈ updO xs u f) : ∃ y ∈ xs, x.1 = y.1 ∧ (x.2.2 = y.2.2 ∨ x.2.2 = f y.2.2) := by
  obtain ⟨y, hy, rfl⟩ := List.mem_map.1 h
  refine ⟨y, hy, ?_⟩
  split
  · exact ⟨rfl, .inr Z⟩
  · exact ⟨rfl, .inl Z⟩
theorem mapTo_mem {x : Int × Nat × α} (h : x ∈ mapTo f k xs) : ∃ y ∈ xs, x.1 = y.1 ∧ (x.2.2 = y.2.2 ∨ x.2.2 = f y.2.2) := by
  obtain ⟨y, hy, rfl⟩ := List.mem_map.1 h
  refine ⟨y, hy, ?_⟩
  split
  · exact ⟨rfl, .inr Z⟩
  · exact ⟨rfl, .inl Z⟩
end
def epD (i : ID) (a : List Msg × List Rcv) : List Msg × List Rcv := (mdrop a.1 i, rdrop a.2 i)
def ntD (i : ID) (a : Int × List ID) : Int × List ID := (a.1, ldrop a.2 i)
def rpD (i : ID) (a : ID × Bool) : ID × Bool := cDrop a i
def ntS (x : Int) (a : Int × List ID) : Int × List ID := (sigW a.1 a.2 x, sigL a.1 a.2 x)
structure Fits (s : KS) (N M : Nat) : Prop where
  n : N ≤ 90000
  mm : M ≤ 90000
  ids : Ids s.rt
  jn : s.jn.length + s.rt.length ≤ M
  tm : s.tm.length ≤ N
  ep : ∀ x ∈ s.ep, (1 ≤ x.1 ∧ x.1 ≤ 64) ∧ x.2.2.1.length ≤ N ∧ x.2.2.2.length ≤ N
  nt : ∀ x ∈ s.nt, (1 ≤ x.1 ∧ x.1 ≤ 64) ∧ x.2.2.2.length ≤ N
  rp : ∀ x ∈ s.rp, 1 ≤ x.1 ∧ x.1 ≤ 64
  rg : ∀ x ∈ s.rg, RgOk x.2.2 ∧ x.2.2.over.length + s.rt.length ≤ M
  mem : MemOk s.mem
def forTo (s : KS) (i : ID) (k : Int) : KS := { s with tm := tdrop s.tm i, ep := mapTo (epD i) k s.ep, nt := mapTo (ntD i) k s.nt, rp := mapTo (rpD i) k s.rp }
def kForget (s : KS) (i : ID) : KS := { s with tm := tdrop s.tm i, ep := allO (epD i) s.ep, nt := allO (ntD i) s.nt, rp := allO (rpD i) s.rp }
variable {M : Nat}
theorem forTo_one (h : Fits s N M) (i : ID) : forTo s i 1 = { s with tm := tdrop s.tm i } := by
  unfold forTo
  rw [mapTo_one fun x hx => (h.ep x hx).1, mapTo_one fun x hx => (h.nt x hx).1, mapTo_one h.rp]
theorem forTo_all (h : Fits s N M) (i : ID) : forTo s i 65 = kForget s i := by
  unfold forTo kForget
  rw [mapTo_all fun x hx => (h.ep x hx).1, mapTo_all fun x hx => (h.nt x hx).1, mapTo_all h.rp]
theorem Fits.forTo (h : Fits s N M) (i : ID) (k : Int) : Fits (forTo s i k) N M where
  n := h.n
  mm := h.mm
  ids := h.ids
  jn := h.jn
  tm := Nat.le_trans (List.length_filter_le _ _) h.tm
  ep := fun x hx => by
    obtain ⟨y, hy, h1, h2⟩ := mapTo_mem hx
    obtain ⟨g1, g2, g3⟩ := h.ep y hy
    rw [h1]
    rcases h2 with h2 | h2 <;> rw [h2]
    · exact ⟨g1, g2, g3⟩
    · exact ⟨g1, Nat.le_trans (List.length_filter_le _ _) g2, Nat.le_trans (List.length_filter_le _ _) g3⟩
  nt := fun x hx => by
    obtain ⟨y, hy, h1, h2⟩ := mapTo_mem hx
    obtain ⟨g1, g2⟩ := h.nt y hy
    rw [h1]
    rcases h2 with h2 | h2 <;> rw [h2]
    · exact ⟨g1, g2⟩
    · exact ⟨g1, Nat.le_trans (ldrop_len _ _) g2⟩
  rp := fun x hx => by
    obtain ⟨y, hy, h1, h2⟩ := mapTo_mem hx
    rw [h1]; exact h.rp y hy
  rg := h.rg
  mem := h.mem
theorem Fits.forget (h : Fits s N M) (i : ID) : Fits (kForget s i) N M := by rw [← forTo_all h]; exact h.forTo i 65
theorem Fits.jnl (h : Fits s N M) (hm : M + 1 ≤ 90000) (d : Deed) : Fits { s with jn := s.jn ++ [d] } N (M + 1) :=
  ⟨h.n, hm, h.ids, by have := h.jn; simp; omega, h.tm, h.ep, h.nt, h.rp, fun x hx => by have := h.rg x hx; exact ⟨this.1, by have := this.2; show _ + s.rt.length ≤ _; omega⟩, h.mem⟩
theorem del_less {κ υ : Type} [DecidableEq κ] {ps : List (κ × υ)} {i : κ} {q : υ} (h : look ps i = some q) : (del ps i).length + 1 ≤ ps.length := by
  have := List.length_filter_lt_length_iff_exists (p := fun p : κ × υ => !decide (p.1 = i)) (l := ps) |>.2 ⟨(i, q), mem_look h, by simp⟩
  unfold del; omega
theorem del_le {κ υ : Type} [DecidableEq κ] {ps : List (κ × υ)} {i : κ} : (del ps i).length ≤ ps.length := List.length_filter_le _ _
theorem Fits.drop (h : Fits s N (M + 1)) (hq : look s.rt i = some q) : Fits { s with rt := del s.rt i } N M := by
  have hl := del_less hq
  exact ⟨h.n, by have := h.mm; omega, h.ids.del i, by have := h.jn; show s.jn.length + (del s.rt i).length ≤ M; omega, h.tm, h.ep, h.nt, h.rp, fun x hx => ⟨(h.rg x hx).1, by have := (h.rg x hx).2; show _ + (del s.rt i).length ≤ M; omega⟩, h.mem⟩
theorem Fits.rgUp {s : KS} {N M : Nat} (h : Fits s N M) (hm : M + 1 ≤ 90000) (u : Int) (r0 : Rg) (h0 : RgOk r0) (c : Cqe) : Fits { s with rg := updO s.rg u (fun r => postR r s.mem c), mem := postM r0 s.mem c } N (M + 1) :=
  ⟨h.n, hm, h.ids, by have := h.jn; show s.jn.length + s.rt.length ≤ _; omega, h.tm, h.ep, h.nt, h.rp, fun x hx => by
    obtain ⟨y, hy, h1, h2⟩ := updO_mem (show x ∈ updO s.rg u (fun r => postR r s.mem c) from hx)
    obtain ⟨g1, g2⟩ := h.rg y hy
    rcases h2 with h2 | h2 <;> rw [h2]
    · exact ⟨g1, by show _ + s.rt.length ≤ _; omega⟩
    · refine ⟨postR_ok g1 c, ?_⟩
      have : (postR y.2.2 s.mem c).over.length ≤ y.2.2.over.length + 1 := by unfold postR; split <;> simp [Go.Pse.rgUp]
      show _ + s.rt.length ≤ _
      omega, postM_ok h0 h.mem c⟩
theorem Fits.sig (h : Fits s N M) (u x : Int) : Fits { s with nt := updO s.nt u (ntS x) } N M :=
  ⟨h.n, h.mm, h.ids, h.jn, h.tm, h.ep, fun z hz => by
    obtain ⟨y, hy, h1, h2⟩ := updO_mem (show z ∈ updO s.nt u (ntS x) from hz)
    obtain ⟨g1, g2⟩ := h.nt y hy
    rw [h1]
    rcases h2 with h2 | h2 <;> rw [h2]
    · exact ⟨g1, g2⟩
    · exact ⟨g1, Nat.le_trans (sigL_len _ _ _) g2⟩, h.rp, h.rg, h.mem⟩
theorem J_keyd {κ υ : Type} [DecidableEq κ] {ek : κ → Value} {ev : υ → Value} {n : Nat} {F : Env} {K : Act → World → Prop} {ps : List (κ × υ)} (hh : Has (mapV ek ev (.map (some b)) ps) l) (k : Keyd ps → Jk E l n F K) : Jk E l n F K :=
  J_mapV hh (fun h _ => by cases h) (fun _ _ hk => k hk)
theorem coRqGet (hp : Pick (coA p s) l m) :
    Con Tryz.prog 69 #[.pointer (some ⟨p, 10, none⟩), .agg (encI i).toArray] E l (fun _ : Unit => .tuple #[evQ ((look s.rt i).getD q00), .bool (look s.rt i).isSome]) (fun _ => coA p s :: m) := fun w H => by
  refine (?_ : Jk E l 0 [] fun _ w => Calls Tryz.prog 69 #[.pointer (some ⟨p, 10, none⟩), .agg (encI i).toArray] w fun e w' => ∃ x, e = .returned ((fun _ : Unit => .tuple #[evQ ((look s.rt i).getD q00), .bool (look s.rt i).isSome]) x) ∧ Sep E w' ((fun _ : Unit => coA p s :: m) x)) w _ H fr0
  refine J_pick hp <| J_coO fun bn be br bg bt bs bp bl bk _ => J_con (rtGetC (ps := s.rt) (i := i) PC) fun x => J_coS (p := p) (s := s) bn be br bg bt bs bp bl bk PX trivial ?_
  exact J_end SU
theorem coRqDrop (hp : Pick (coA p s) l m) :
    Con Tryz.prog 119 #[.pointer (some ⟨p, 10, none⟩), .agg (encI i).toArray] E l (fun _ : Unit => .bool (look s.rt i).isSome) (fun _ => coA p { s with rt := del s.rt i } :: m) := fun w H => by
  refine (?_ : Jk E l 0 [] fun _ w => Calls Tryz.prog 119 #[.pointer (some ⟨p, 10, none⟩), .agg (encI i).toArray] w fun e w' => ∃ x, e = .returned ((fun _ : Unit => .bool (look s.rt i).isSome) x) ∧ Sep E w' ((fun _ : Unit => coA p { s with rt := del s.rt i } :: m) x)) w _ H fr0
  refine J_pick hp <| J_coO fun bn be br bg bt bs bp bl bk _ => J_con (rtDropC (ps := s.rt) (i := i) PC) fun x => J_coS (p := p) (s := { s with rt := del s.rt i }) bn be br bg bt bs bp bl bk PX trivial ?_
  exact J_end SU
theorem coRqAfter (hp : Pick (coA p s) l m) (hI : Ids s.rt) (hb : s.rt.length ≤ 100000) :
    Con Tryz.prog 122 #[.pointer (some ⟨p, 10, none⟩), .agg (encI i).toArray] E l (fun _ : Unit => .tuple #[evQ ((afterQ s.rt i).getD q00), .bool (afterQ s.rt i).isSome]) (fun _ => coA p s :: m) := fun w H => by
  refine (?_ : Jk E l 0 [] fun _ w => Calls Tryz.prog 122 #[.pointer (some ⟨p, 10, none⟩), .agg (encI i).toArray] w fun e w' => ∃ x, e = .returned ((fun _ : Unit => .tuple #[evQ ((afterQ s.rt i).getD q00), .bool (afterQ s.rt i).isSome]) x) ∧ Sep E w' ((fun _ : Unit => coA p s :: m) x)) w _ H fr0
  refine J_pick hp <| J_coO fun bn be br bg bt bs bp bl bk _ => J_con (rtAfterC (ps := s.rt) (i := i) PC hI hb) fun x => J_coS (p := p) (s := s) bn be br bg bt bs bp bl bk PX trivial ?_
  exact J_end SU
theorem coRqOf (hp : Pick (coA p s) l m) {g : Int} (hI : Ids s.rt) (hb : s.rt.length ≤ 100000) :
    Con Tryz.prog 23 #[.pointer (some ⟨p, 10, none⟩), .int .i64 g] E l (fun x : Value => x) (fun x => row 122 13 x ((ofQ s.rt g).map encQ) :: coA p s :: m) := fun w H => by
  refine (?_ : Jk E l 0 [] fun _ w => Calls Tryz.prog 23 #[.pointer (some ⟨p, 10, none⟩), .int .i64 g] w fun e w' => ∃ x, e = .returned ((fun x : Value => x) x) ∧ Sep E w' ((fun x : Value => row 122 13 x ((ofQ s.rt g).map encQ) :: coA p s :: m) x)) w _ H fr0
  refine J_pick hp <| J_coO fun bn be br bg bt bs bp bl bk _ => J_con (rtOf (ps := s.rt) (g := g) PC hI hb) fun x => J_coS (p := p) (s := s) bn be br bg bt bs bp bl bk PX trivial ?_
  exact J_end SU
theorem coRqAdd (hp : Pick (coA p s) l m) (hI : Ids s.rt) (hb : s.rt.length ≤ 100000) :
    Con Tryz.prog 64 #[.pointer (some ⟨p, 10, none⟩), .agg (encQ q).toArray] E l (fun _ : Unit => .bool (addOk s.rt q)) (fun _ => coA p { s with rt := addQ s.rt q } :: m) := fun w H => by
  refine (?_ : Jk E l 0 [] fun _ w => Calls Tryz.prog 64 #[.pointer (some ⟨p, 10, none⟩), .agg (encQ q).toArray] w fun e w' => ∃ x, e = .returned ((fun _ : Unit => .bool (addOk s.rt q)) x) ∧ Sep E w' ((fun _ : Unit => coA p { s with rt := addQ s.rt q } :: m) x)) w _ H fr0
  refine J_pick hp <| J_coO fun bn be br bg bt bs bp bl bk _ => J_con (rtAddC (ps := s.rt) (q := q) PC hI hb) fun x => J_coS (p := p) (s := { s with rt := addQ s.rt q }) bn be br bg bt bs bp bl bk PX trivial ?_
  exact J_end SU
theorem coJAdd (hp : Pick (coA p s) l m) (hb : s.jn.length ≤ 200000) :
    Con Tryz.prog 174 #[.pointer (some ⟨p, 12, none⟩), .agg (encD d).toArray] E l (fun _ : Unit => .tuple #[]) (fun _ => coA p { s with jn := s.jn ++ [d] } :: m) := fun w H => by
  refine (?_ : Jk E l 0 [] fun _ w => Calls Tryz.prog 174 #[.pointer (some ⟨p, 12, none⟩), .agg (encD d).toArray] w fun e w' => ∃ x, e = .returned ((fun _ : Unit => .tuple #[]) x) ∧ Sep E w' ((fun _ : Unit => coA p { s with jn := s.jn ++ [d] } :: m) x)) w _ H fr0
  refine J_pick hp <| J_coO fun bn be br bg bt bs bp bl bk _ => J_con (jnlAdd (xs := s.jn) (d := d) PC hb) fun x => J_coS (p := p) (s := { s with jn := s.jn ++ [d] }) bn be br bg bt bs bp bl bk PX trivial ?_
  exact J_end SU
theorem coJAll (hp : Pick (coA p s) l m) (hb : s.jn.length ≤ 200000) :
    Con Tryz.prog 21 #[.pointer (some ⟨p, 12, none⟩)] E l (fun x : Value => x) (fun x => row 45 7 x (s.jn.map encD) :: coA p s :: m) := fun w H => by
  refine (?_ : Jk E l 0 [] fun _ w => Calls Tryz.prog 21 #[.pointer (some ⟨p, 12, none⟩)] w fun e w' => ∃ x, e = .returned ((fun x : Value => x) x) ∧ Sep E w' ((fun x : Value => row 45 7 x (s.jn.map encD) :: coA p s :: m) x)) w _ H fr0
  refine J_pick hp <| J_coO fun bn be br bg bt bs bp bl bk _ => J_con (jnlAll (xs := s.jn) PC hb) fun x => J_coS (p := p) (s := s) bn be br bg bt bs bp bl bk PX trivial ?_
  exact J_end SU
theorem coTmDrop (hp : Pick (coA p s) l m) (hb : s.tm.length ≤ 100000) :
    Con Tryz.prog 168 #[.pointer (some ⟨p, 11, none⟩), .agg (encI i).toArray] E l (fun _ : Unit => .bool (decide ((tdrop s.tm i).length < s.tm.length))) (fun _ => coA p { s with tm := tdrop s.tm i } :: m) := fun w H => by
  refine (?_ : Jk E l 0 [] fun _ w => Calls Tryz.prog 168 #[.pointer (some ⟨p, 11, none⟩), .agg (encI i).toArray] w fun e w' => ∃ x, e = .returned ((fun _ : Unit => .bool (decide ((tdrop s.tm i).length < s.tm.length))) x) ∧ Sep E w' ((fun _ : Unit => coA p { s with tm := tdrop s.tm i } :: m) x)) w _ H fr0
  refine J_pick hp <| J_coO fun bn be br bg bt bs bp bl bk _ => J_con (tmrDropC (xs := s.tm) (i := i) PC hb) fun x => J_coS (p := p) (s := { s with tm := tdrop s.tm i }) bn be br bg bt bs bp bl bk PX trivial ?_
  exact J_end SU
theorem coEpDrop (hp : Pick (coA p s) l m) (hl : look s.ep u = some (b, out, inn)) (hbo : out.length ≤ 100000) (hbi : inn.length ≤ 100000) :
  Con Tryz.prog 169 #[.pointer (some ⟨b, 0, none⟩), .agg (encI i).toArray] E l (fun _ : Unit => .bool (decide ((mdrop out i).length + (rdrop inn i).length < out.length + inn.length))) (fun _ => coA p { s with ep := updO s.ep u (epD i) } :: m) := by
 refine J_con0 ?_
 obtain ⟨j, hj⟩ := look_ix hl
 have hjl := (List.getElem?_eq_some_iff.1 hj).1
 refine J_pick hp <| J_coO fun bn be br bg bt bs bp bl bk _ => J_keyd (ps := ptrs s.ep) HS fun hK => J_pick (A := each epF s.ep) PC <| J_eachOut hj ?_
 skip
 refine J_asTo (B := epA b out inn) (by rfl) <| J_con (epDropC (out := out) (inn := inn) (i := i) PC hbo hbi) fun x => J_pick (A := epA b (mdrop out i) (rdrop inn i)) PC <| J_asTo (B := epF (u, b, ((epD i)) (out, inn))) (by rfl) <| J_pick (A := each epF _) PC <| J_pick (A := epF (u, b, _)) PC <| J_eachIn (u, b, ((epD i)) (out, inn)) hjl ?_
 skip
 refine J_asTo (B := each epF (updO s.ep u (epD i))) (by rw [updO_set hK hj]) <| J_pick (A := mapV kZ evA (.map (some be)) (ptrs s.ep)) PC <| J_mapEq (qs := ptrs (updO s.ep u (epD i))) ptrs_updO.symm <| J_coS (p := p) (s := { s with ep := updO s.ep u (epD i) }) bn be br bg bt bs bp bl bk PX trivial ?_
 exact J_end SU
theorem coNtDrop (hp : Pick (coA p s) l m) {w0 : Int} (hl : look s.nt u = some (b, w0, xs)) (hb : xs.length ≤ 100000) :
  Con Tryz.prog 171 #[.pointer (some ⟨b, 0, none⟩), .agg (encI i).toArray] E l (fun _ : Unit => .bool (decide (i ∈ xs))) (fun _ => coA p { s with nt := updO s.nt u (ntD i) } :: m) := by
 refine J_con0 ?_
 obtain ⟨j, hj⟩ := look_ix hl
 have hjl := (List.getElem?_eq_some_iff.1 hj).1
 refine J_pick hp <| J_coO fun bn be br bg bt bs bp bl bk _ => J_keyd (ps := ptrs s.nt) HS fun hK => J_pick (A := each ntF s.nt) PC <| J_eachOut hj ?_
 skip
 refine J_asTo (B := ntA b 0 w0 xs) (by rfl) <| J_con (ntDropC (w := w0) (xs := xs) (i := i) PC hb) fun x => J_pick (A := ntA b 0 w0 (ldrop xs i)) PC <| J_asTo (B := ntF (u, b, ((ntD i)) (w0, xs))) (by rfl) <| J_pick (A := each ntF _) PC <| J_pick (A := ntF (u, b, _)) PC <| J_eachIn (u, b, ((ntD i)) (w0, xs)) hjl ?_
 skip
 refine J_asTo (B := each ntF (updO s.nt u (ntD i))) (by rw [updO_set hK hj]) <| J_pick (A := mapV kZ evA (.map (some bn)) (ptrs s.nt)) PC <| J_mapEq (qs := ptrs (updO s.nt u (ntD i))) ptrs_updO.symm <| J_coS (p := p) (s := { s with nt := updO s.nt u (ntD i) }) bn be br bg bt bs bp bl bk PX trivial ?_
 exact J_end SU
theorem coNtSignal (hp : Pick (coA p s) l m) {w0 : Int} (hl : look s.nt u = some (b, w0, xs)) (hb : xs.length ≤ 100000) :
  Con Tryz.prog 178 #[.pointer (some ⟨b, 0, none⟩), .int .u32 z] E l (fun _ : Unit => .tuple #[.agg (encI (sigI w0 xs z)).toArray, .int .u32 (sigV w0 xs z), .bool (woke w0 xs z)]) (fun _ => coA p { s with nt := updO s.nt u (ntS z) } :: m) := by
 refine J_con0 ?_
 obtain ⟨j, hj⟩ := look_ix hl
 have hjl := (List.getElem?_eq_some_iff.1 hj).1
 refine J_pick hp <| J_coO fun bn be br bg bt bs bp bl bk _ => J_keyd (ps := ptrs s.nt) HS fun hK => J_pick (A := each ntF s.nt) PC <| J_eachOut hj ?_
 skip
 refine J_asTo (B := ntA b 0 w0 xs) (by rfl) <| J_con (ntSignal (w := w0) (xs := xs) (x := z) PC hb) fun x => J_pick (A := ntA b 0 (sigW w0 xs z) (sigL w0 xs z)) PC <| J_asTo (B := ntF (u, b, ((ntS z)) (w0, xs))) (by rfl) <| J_pick (A := each ntF _) PC <| J_pick (A := ntF (u, b, _)) PC <| J_eachIn (u, b, ((ntS z)) (w0, xs)) hjl ?_
 skip
 refine J_asTo (B := each ntF (updO s.nt u (ntS z))) (by rw [updO_set hK hj]) <| J_pick (A := mapV kZ evA (.map (some bn)) (ptrs s.nt)) PC <| J_mapEq (qs := ptrs (updO s.nt u (ntS z))) ptrs_updO.symm <| J_coS (p := p) (s := { s with nt := updO s.nt u (ntS z) }) bn be br bg bt bs bp bl bk PX trivial ?_
 exact J_end SU
theorem coRpDrop (hp : Pick (coA p s) l m) {c : ID × Bool} (hl : look s.rp u = some (b, c)) :
  Con Tryz.prog 173 #[.pointer (some ⟨b, 0, none⟩), .agg (encI i).toArray] E l (fun _ : Unit => .bool (decide (c.2 = true ∧ c.1 = i))) (fun _ => coA p { s with rp := updO s.rp u (rpD i) } :: m) := by
 refine J_con0 ?_
 obtain ⟨j, hj⟩ := look_ix hl
 have hjl := (List.getElem?_eq_some_iff.1 hj).1
 refine J_pick hp <| J_coO fun bn be br bg bt bs bp bl bk _ => J_keyd (ps := ptrs s.rp) HS fun hK => J_pick (A := each rpF s.rp) PC <| J_eachOut hj ?_
 skip
 refine J_asTo (B := rpA b c) (by rfl) <| J_con (rpDropC (c := c) (i := i) PC) fun x => J_pick (A := rpA b (cDrop c i)) PC <| J_asTo (B := rpF (u, b, ((rpD i)) (c))) (by rfl) <| J_pick (A := each rpF _) PC <| J_pick (A := rpF (u, b, _)) PC <| J_eachIn (u, b, ((rpD i)) (c)) hjl ?_
 skip
 refine J_asTo (B := each rpF (updO s.rp u (rpD i))) (by rw [updO_set hK hj]) <| J_pick (A := mapV kZ evA (.map (some br)) (ptrs s.rp)) PC <| J_mapEq (qs := ptrs (updO s.rp u (rpD i))) ptrs_updO.symm <| J_coS (p := p) (s := { s with rp := updO s.rp u (rpD i) }) bn be br bg bt bs bp bl bk PX trivial ?_
 exact J_end SU
theorem coPost (hp : Pick (coA p s) l m) (hl : look s.rg u = some (b, r)) (hb : r.over.length ≤ 100000) (hR : RgOk r) (hM : MemOk s.mem) :
  Con Tryz.prog 175 #[.pointer (some ⟨b, 0, none⟩), .agg (encX c).toArray] E l (fun _ : Unit => .bool (postOk r s.mem)) (fun _ => coA p { s with rg := updO s.rg u (fun r => postR r s.mem c), mem := postM r s.mem c } :: m) := by
 refine J_con0 ?_
 obtain ⟨j, hj⟩ := look_ix hl
 have hjl := (List.getElem?_eq_some_iff.1 hj).1
 refine J_pick hp <| J_coO fun bn be br bg bt bs bp bl bk _ => J_keyd (ps := ptrs s.rg) HS fun hK => J_pick (A := each (rgF s.mb) s.rg) PC <| J_eachOut hj ?_
 skip
 refine J_asTo (B := rgA b s.mb r) (by rfl) <| J_con (ringPost (r := r) (ms := s.mem) (c := c) PX hb hR hM) fun x => J_pick (A := rgA b s.mb (postR r s.mem c)) PC <| J_asTo (B := (rgF s.mb) (u, b, ((fun r => postR r s.mem c)) (r))) (by rfl) <| J_pick (A := each (rgF s.mb) _) PC <| J_pick (A := (rgF s.mb) (u, b, _)) PC <| J_eachIn (u, b, ((fun r => postR r s.mem c)) (r)) hjl ?_
 skip
 refine J_asTo (B := each (rgF s.mb) (updO s.rg u (fun r => postR r s.mem c))) (by rw [updO_set hK hj]) <| J_pick (A := mapV kZ evA (.map (some bg)) (ptrs s.rg)) PC <| J_mapEq (qs := ptrs (updO s.rg u (fun r => postR r s.mem c))) ptrs_updO.symm <| J_coS (p := p) (s := { s with rg := updO s.rg u (fun r => postR r s.mem c), mem := postM r s.mem c }) bn be br bg bt bs bp bl bk PX trivial ?_
 exact J_end SU
theorem coForget (hp : Pick (coA p s) l m) (hF : Fits s N M) :
  Con Tryz.prog 120 #[.pointer (some ⟨p, 0, none⟩), .agg (encI i).toArray] E l (fun _ : Unit => .tuple #[]) (fun _ => coA p (kForget s i) :: m) := by
 refine Con.body (n := 40) Tryz.func120 Z Z _ (env_ok 2 Z) <| J_pick hp <| sr <| L_op <| x_box Z Z Z fun b3 => nq <| J_seq <| J_drawL (some 3) mixed <| ip 0 Z Z Z Z (p_move Z) <| iv 2 Z Z Z Z (fun _ => v_loadA Z ty36 HS CT) <| i1 1 Z <| xc fc62 (A1 Z) Z (coTimers) fun _ => i1 3 Z <| xc fc168 (A2 Z Z) Z (coTmDrop (s := s) (i := i) PC (by have := hF.tm; have := hF.n; omega)) fun _ => J_pick (A := coA p _) PC <| J_asTo (B := coA p (forTo s i ((1 : Nat) : Int))) (by rw [show ((1 : Nat) : Int) = 1 from rfl, forTo_one hF]) <| i0 <| qx <| ag Z Z <| nq <| J_block <| J_loop (α := Nat) (fun k => 1 ≤ k ∧ k ≤ 65) (fun k => coA p (forTo s i (k : Int)) :: blk b3 36 (encI i) :: m) (fun k => [(4, .int .i64 (k : Int)), (0, .pointer (some ⟨p, 0, none⟩)), (3, .pointer (some ⟨b3, 0, none⟩))]) (fun k => 65 - k) 1 (by omega) SU KE ?_
 intro k hk
 refine J_seq <| sr <| mv Z Z <| L_pur Z (p_leq Z Z) <| nq <| C_dec Z (fun h13 => ?_) (fun h13 => ?_)
 have hF2 := hF.forTo i (k : Int)
 have hNN := hF.n
 refine J_skip <| Q_then <| J_seq <| J_block <| J_cut (α := Unit) (fun _ : Unit => coA p { forTo s i (k : Int) with ep := mapTo (epD i) ((k : Int) + 1) s.ep } :: blk b3 36 (encI i) :: m) (fun _ : Unit => [(4, .int .i64 (k : Int)), (0, .pointer (some ⟨p, 0, none⟩)), (3, .pointer (some ⟨b3, 0, none⟩))]) ?_ ?_
 refine sr <| mv Z Z <| mv Z Z <| xo fc60 (A2 Z Z) Z (coEp (s := (forTo s i (k : Int))) (u := (k : Int)) PC) fun _ => J_slot (t := 18) (v := .pointer ((look (ptrs (KS.ep (forTo s i (k : Int)))) (k : Int)).map fun b => ⟨b, 0, none⟩)) Z Z <| ag Z Z <| nx <| mv Z Z <| L_pur Z (p_neNilPtr Tryz.underlying112 Z) <| nq <| C_split Z (fun h20 => ?_) (fun h20 => ?_)
 obtain ⟨b, hb⟩ : ∃ b, look (ptrs (KS.ep (forTo s i (k : Int)))) (k : Int) = some b := by
  cases hq : look (ptrs (KS.ep (forTo s i (k : Int)))) (k : Int) with
  | none => rw [hq] at h20; simp at h20
  | some b => exact ⟨b, rfl⟩
 obtain ⟨⟨ob1, ob2⟩, hob⟩ := look_got hb
 have hb1 : ob1.length ≤ N := (hF2.ep _ (mem_look hob)).2.1
 have hb2 : ob2.length ≤ N := (hF2.ep _ (mem_look hob)).2.2
 refine J_region <| mv Z Z <| J_slot (t := 21) (v := .pointer (some ⟨b, 0, none⟩)) Z (by rw [hb]; rfl) <| L_val Z (v_loadA Z ty36 HS CT) <| xo fc169 (A2 Z Z) Z (coEpDrop (s := (forTo s i (k : Int))) (u := (k : Int)) PC hob (by omega) (by omega)) fun _ => nq <| J_pick (A := coA p _) PC <| J_asTo (B := coA p { forTo s i (k : Int) with ep := mapTo (epD i) ((k : Int) + 1) s.ep }) (by unfold forTo; simp only [mapTo_up]) ?_
 exact J_at () SU KE
 have hno : look (ptrs s.ep) (k : Int) = none := by
  rw [← ptrs_mapTo (f := epD i) (k := (k : Int))]
  cases hq : look (ptrs (mapTo (epD i) (k : Int) s.ep)) (k : Int) with
  | none => rfl
  | some b => rw [show look (ptrs (KS.ep (forTo s i (k : Int)))) (k : Int) = _ from hq] at h20; simp at h20
 refine J_skip <| Q_then <| J_pick (A := coA p _) PC <| J_asTo (B := coA p { forTo s i (k : Int) with ep := mapTo (epD i) ((k : Int) + 1) s.ep }) (by unfold forTo; simp only [mapTo_no (f := epD i) hno]) ?_
 exact J_at () SU KE
 intro _
 refine J_cut (α := Unit) (fun _ : Unit => coA p { forTo s i (k : Int) with ep := mapTo (epD i) ((k : Int) + 1) s.ep, nt := mapTo (ntD i) ((k : Int) + 1) s.nt } :: blk b3 36 (encI i) :: m) (fun _ : Unit => [(4, .int .i64 (k : Int)), (0, .pointer (some ⟨p, 0, none⟩)), (3, .pointer (some ⟨b3, 0, none⟩))]) ?_ ?_
 refine sr <| mv Z Z <| mv Z Z <| xo fc170 (A2 Z Z) Z (coNotif (s := { forTo s i (k : Int) with ep := mapTo (epD i) ((k : Int) + 1) s.ep }) (u := (k : Int)) PC) fun _ => J_slot (t := 26) (v := .pointer ((look (ptrs (KS.nt { forTo s i (k : Int) with ep := mapTo (epD i) ((k : Int) + 1) s.ep })) (k : Int)).map fun b => ⟨b, 0, none⟩)) Z Z <| ag Z Z <| nx <| mv Z Z <| L_pur Z (p_neNilPtr Tryz.underlying223 Z) <| nq <| C_split Z (fun h28 => ?_) (fun h28 => ?_)
 obtain ⟨b, hb⟩ : ∃ b, look (ptrs (KS.nt { forTo s i (k : Int) with ep := mapTo (epD i) ((k : Int) + 1) s.ep })) (k : Int) = some b := by
  cases hq : look (ptrs (KS.nt { forTo s i (k : Int) with ep := mapTo (epD i) ((k : Int) + 1) s.ep })) (k : Int) with
  | none => rw [hq] at h28; simp at h28
  | some b => exact ⟨b, rfl⟩
 obtain ⟨⟨ob1, ob2⟩, hob⟩ := look_got hb
 have hb2 : ob2.length ≤ N := (hF2.nt _ (mem_look hob)).2
 refine J_region <| mv Z Z <| J_slot (t := 29) (v := .pointer (some ⟨b, 0, none⟩)) Z (by rw [hb]; rfl) <| L_val Z (v_loadA Z ty36 HS CT) <| xo fc171 (A2 Z Z) Z (coNtDrop (s := { forTo s i (k : Int) with ep := mapTo (epD i) ((k : Int) + 1) s.ep }) (u := (k : Int)) PC hob (by omega)) fun _ => nq <| J_pick (A := coA p _) PC <| J_asTo (B := coA p { forTo s i (k : Int) with ep := mapTo (epD i) ((k : Int) + 1) s.ep, nt := mapTo (ntD i) ((k : Int) + 1) s.nt }) (by unfold forTo; simp only [mapTo_up]) ?_
 exact J_at () SU KE
 have hno : look (ptrs s.nt) (k : Int) = none := by
  rw [← ptrs_mapTo (f := ntD i) (k := (k : Int))]
  cases hq : look (ptrs (mapTo (ntD i) (k : Int) s.nt)) (k : Int) with
  | none => rfl
  | some b => rw [show look (ptrs (KS.nt { forTo s i (k : Int) with ep := mapTo (epD i) ((k : Int) + 1) s.ep })) (k : Int) = _ from hq] at h28; simp at h28
 refine J_skip <| Q_then <| J_pick (A := coA p _) PC <| J_asTo (B := coA p { forTo s i (k : Int) with ep := mapTo (epD i) ((k : Int) + 1) s.ep, nt := mapTo (ntD i) ((k : Int) + 1) s.nt }) (by unfold forTo; simp only [mapTo_no (f := ntD i) hno]) ?_
 exact J_at () SU KE
 intro _
 refine sr <| mv Z Z <| mv Z Z <| xo fc172 (A2 Z Z) Z (coReply (s := { forTo s i (k : Int) with ep := mapTo (epD i) ((k : Int) + 1) s.ep, nt := mapTo (ntD i) ((k : Int) + 1) s.nt }) (u := (k : Int)) PC) fun _ => J_slot (t := 34) (v := .pointer ((look (ptrs (KS.rp { forTo s i (k : Int) with ep := mapTo (epD i) ((k : Int) + 1) s.ep, nt := mapTo (ntD i) ((k : Int) + 1) s.nt })) (k : Int)).map fun b => ⟨b, 0, none⟩)) Z Z <| ag Z Z <| nx <| mv Z Z <| L_pur Z (p_neNilPtr Tryz.underlying241 Z) <| nq <| C_split Z (fun h36 => ?_) (fun h36 => ?_)
 obtain ⟨b, hb⟩ : ∃ b, look (ptrs (KS.rp { forTo s i (k : Int) with ep := mapTo (epD i) ((k : Int) + 1) s.ep, nt := mapTo (ntD i) ((k : Int) + 1) s.nt })) (k : Int) = some b := by
  cases hq : look (ptrs (KS.rp { forTo s i (k : Int) with ep := mapTo (epD i) ((k : Int) + 1) s.ep, nt := mapTo (ntD i) ((k : Int) + 1) s.nt })) (k : Int) with
  | none => rw [hq] at h36; simp at h36
  | some b => exact ⟨b, rfl⟩
 obtain ⟨ob, hob⟩ := look_got hb
 refine J_region <| mv Z Z <| J_slot (t := 37) (v := .pointer (some ⟨b, 0, none⟩)) Z (by rw [hb]; rfl) <| L_val Z (v_loadA Z ty36 HS CT) <| xo fc173 (A2 Z Z) Z (coRpDrop (s := { forTo s i (k : Int) with ep := mapTo (epD i) ((k : Int) + 1) s.ep, nt := mapTo (ntD i) ((k : Int) + 1) s.nt }) (u := (k : Int)) PC hob) fun _ => L_nil <| Q_blk_normal <| qr <| mv Z Z <| L_pur Z (p_add64 Z Z (by omega)) <| ag Z Z <| nq <| J_pick (A := coA p _) PC <| J_asTo (B := coA p (forTo s i ((k + 1 : Nat) : Int))) (by unfold forTo; simp only [mapTo_up]; push_cast; rfl) ?_
 exact J_again (k + 1) (by omega) (by omega) SU KE
 have hno : look (ptrs s.rp) (k : Int) = none := by
  rw [← ptrs_mapTo (f := rpD i) (k := (k : Int))]
  cases hq : look (ptrs (mapTo (rpD i) (k : Int) s.rp)) (k : Int) with
  | none => rfl
  | some b => rw [show look (ptrs (KS.rp { forTo s i (k : Int) with ep := mapTo (epD i) ((k : Int) + 1) s.ep, nt := mapTo (ntD i) ((k : Int) + 1) s.nt })) (k : Int) = _ from hq] at h36; simp at h36
 refine J_skip <| Q_blk_normal <| qr <| mv Z Z <| L_pur Z (p_add64 Z Z (by omega)) <| ag Z Z <| nq <| J_pick (A := coA p _) PC <| J_asTo (B := coA p (forTo s i ((k + 1 : Nat) : Int))) (by unfold forTo; simp only [mapTo_no (f := rpD i) hno]; push_cast; rfl) ?_
 exact J_again (k + 1) (by omega) (by omega) SU KE
 have hk65 : k = 65 := by omega
 subst hk65
 refine J_pick (A := coA p _) PC <| J_asTo (B := coA p (kForget s i)) (by rw [show ((65 : Nat) : Int) = 65 from rfl, forTo_all hF]) <| J_exit <| Q_then_exit <| Q_then_exit <| Q_blk_this <| J_endnormal ?_
 exact J_return (()) Tryz.results120 .nil Z SU
end Go.Pse
