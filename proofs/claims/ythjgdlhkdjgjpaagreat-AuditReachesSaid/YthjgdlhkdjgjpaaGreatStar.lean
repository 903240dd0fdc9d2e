/-
  Own layer: one assertion for each thing of a list (a map's objects, a slice's slices).
-/
import Derived.Test.YthjgdlhkdjgjpaaGreatMap
namespace Go.Pse
open Go.RowKit

def each {α : Type} (f : α → As) (xs : List α) : As := As.all (xs.map f)
theorem pick_mid {A : As} : ∀ {l r : List As}, Pick A (l ++ A :: r) (l ++ r)
  | [], _ => .here
  | _ :: _, _ => .there pick_mid
theorem Sep.unpick' {E w : World} {A : As} {l m : List As} (hp : Pick A l m) (H : Sep E w (A :: m)) : Sep E w l := ⟨H.os, H.tape, H.output, let ⟨S, hS⟩ := H.own; ⟨S, unpick_sep hp hS⟩⟩
theorem Sep.midOut {E w : World} {A : As} {T D l : List As} (H : Sep E w (As.all (T ++ A :: D) :: l)) : Sep E w (A :: As.all (T ++ D) :: l) := by
  have H1 := H.all_out
  rw [List.append_assoc, List.cons_append] at H1
  have H2 := H1.pick pick_mid
  have H3 : Sep E w ((T ++ D) ++ A :: l) := Sep.unpick' pick_mid (by rw [List.append_assoc]; exact H2)
  exact H3.all_in.pick (.there .here)
theorem Sep.midIn {E w : World} {A : As} {T D l : List As} (H : Sep E w (A :: As.all (T ++ D) :: l)) : Sep E w (As.all (T ++ A :: D) :: l) := by
  have H1 : Sep E w (As.all (T ++ D) :: A :: l) := H.pick (.there .here)
  have H2 := H1.all_out.pick (A := A) pick_mid
  refine Sep.all_in ?_
  rw [List.append_assoc, List.cons_append]
  exact Sep.unpick' pick_mid (by rw [← List.append_assoc]; exact H2)
section
variable {E : World} {l : List As} {n : Nat} {F : Env} {K : Act → World → Prop} {α β : Type} {f : α → As} {g : β → As} {xs : List α} {i : Nat}
theorem each_at {x : α} (hi : xs[i]? = some x) : xs.map f = (xs.take i).map f ++ f x :: (xs.drop (i + 1)).map f := by
  obtain ⟨h, rfl⟩ := List.getElem?_eq_some_iff.1 hi
  rw [← List.map_cons, ← List.map_append, ← List.drop_eq_getElem_cons h, List.take_append_drop]
theorem each_but : (xs.eraseIdx i).map f = (xs.take i).map f ++ (xs.drop (i + 1)).map f := by rw [List.eraseIdx_eq_take_drop_succ, List.map_append]
theorem each_set (y : α) (hi : i < xs.length) : (xs.set i y).map f = (xs.take i).map f ++ f y :: (xs.drop (i + 1)).map f := by
  rw [List.set_eq_take_append_cons_drop, if_pos hi, List.map_append, List.map_cons]
/-- The i-th is taken out. -/
theorem J_eachOut {x : α} (hi : xs[i]? = some x) (k : Jk E (f x :: each f (xs.eraseIdx i) :: l) n F K) : Jk E (each f xs :: l) n F K := fun w a H hF => by
  refine k w a ?_ hF
  unfold each at H ⊢
  rw [each_at hi] at H
  rw [each_but]
  exact H.midOut
/-- It is laid back, changed. -/
theorem J_eachIn (y : α) (hi : i < xs.length) (k : Jk E (each f (xs.set i y) :: l) n F K) : Jk E (f y :: each f (xs.eraseIdx i) :: l) n F K := fun w a H hF => by
  refine k w a ?_ hF
  unfold each at H ⊢
  rw [each_but] at H
  rw [each_set y hi]
  exact H.midIn
theorem J_eachNil (f : α → As) (k : Jk E (each f [] :: l) n F K) : Jk E l n F K := fun w a H hF => k w a (Sep.all_in (m := []) H) hF
theorem J_eachPush {x : α} (k : Jk E (each f (xs ++ [x]) :: l) n F K) : Jk E (f x :: each f xs :: l) n F K := fun w a H hF => by
  refine k w a ?_ hF
  unfold each at H ⊢
  rw [List.map_append, List.map_cons, List.map_nil]
  exact Sep.midIn (D := []) (by rw [List.append_nil]; exact H)
theorem sub_of_list : ∀ {xs ys l : List As}, ys.Sublist xs → Sub (xs ++ l) (ys ++ l)
  | _, _, _, .slnil => .refl
  | _, _, _, .cons _ h => Sub.drop (sub_of_list h)
  | _, _, _, .cons_cons _ h => .cons .here (sub_of_list h)
/-- Some are let go. -/
theorem J_eachSub {ys : List α} (h : ys.Sublist xs) (k : Jk E (each f ys :: l) n F K) : Jk E (each f xs :: l) n F K := fun w a H hF => by
  refine k w a ?_ hF
  unfold each at H ⊢
  exact Sep.all_in ((sub_of_list (h.map f)).sep H.all_out)
theorem J_eachTo {ys : List β} (h : xs.map f = ys.map g) (k : Jk E (each g ys :: l) n F K) : Jk E (each f xs :: l) n F K := by
  unfold each at k ⊢
  rw [h]; exact k
end
end Go.Pse
