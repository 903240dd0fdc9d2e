/-
  Deadlines: what is there, who is due.
-/
import Derived.Test.YtjolbnicboaaeaaTm4
namespace Go.Pse
open Go.RowKit Go.Proofs

theorem put_perm (xs : List Tm) (x : Tm) : (putT xs x).Perm (x :: xs) := by
  unfold putT
  refine List.perm_middle.trans ?_
  rw [List.take_append_drop]
section
variable {T : Nat → Tm}
theorem drop_new {xs : List Tm} {i : Nat} (hT : ∀ j k, (T j).2 = (T k).2 → j = k) (h : xs.Perm ((List.range i).map T)) : hdrop xs (T i).2 = xs := by
  unfold hdrop
  rw [List.filter_eq_self]
  intro c hc
  obtain ⟨j, hj, rfl⟩ := List.mem_map.1 (h.mem_iff.1 hc)
  have hj' : j < i := by simpa using hj
  have : ¬ (T j).2 = (T i).2 := fun e => by have := hT _ _ e; omega
  simp [isT_eq, this]
theorem push_new {xs : List Tm} {i : Nat} (hT : ∀ j k, (T j).2 = (T k).2 → j = k) (h : xs.Perm ((List.range i).map T)) : (hpush xs (T i)).Perm ((List.range (i + 1)).map T) := by
  unfold hpush
  rw [drop_new hT h]
  refine (put_perm _ _).trans ?_
  rw [List.range_succ, List.map_append]
  exact (List.Perm.cons _ h).trans (List.perm_append_singleton _ _).symm
theorem drop_old {xs : List Tm} {l : List Nat} {k : Nat} (hT : ∀ j k, (T j).2 = (T k).2 → j = k) (h : xs.Perm (l.map T)) : (hdrop xs (T k).2).Perm ((l.filter fun j => !decide (j = k)).map T) := by
  unfold hdrop
  refine (h.filter _).trans ?_
  rw [List.filter_map]
  have : ∀ j, ((fun c => !isT (T k).2 c) ∘ T) j = !decide (j = k) := fun j => by
    have e : (T j).2 = (T k).2 ↔ j = k := ⟨hT j k, fun e => by rw [e]⟩
    simp [isT_eq, e]
  rw [List.filter_congr fun j _ => this j]
theorem range_but {n k : Nat} (h : k < n) : (List.range n).Perm (k :: (List.range n).filter fun j => !decide (j = k)) := by
  have := List.filter_append_perm (fun j => decide (j = k)) (List.range n)
  refine this.symm.trans ?_
  have e : (List.range n).filter (fun j => decide (j = k)) = [k] := by
    clear this
    induction n with
    | zero => omega
    | succ n ih =>
      rw [List.range_succ, List.filter_append]
      by_cases hk : k = n
      · subst hk
        have : (List.range k).filter (fun j => decide (j = k)) = [] := List.filter_eq_nil_iff.2 fun a ha => by have := List.mem_range.1 ha; simp; omega
        rw [this]; simp
      · rw [ih (by omega)]
        have : ¬ n = k := fun e => hk e.symm
        simp [this]
  rw [e]; exact List.Perm.refl _
end
theorem srt_head {xs : List Tm} {x : Tm} (h : Srt (x :: xs)) : ∀ c ∈ xs, x.1 ≤ c.1 := fun c hc => by
  have := (List.pairwise_cons.1 h).1 c hc
  rw [ltT_iff] at this; omega
theorem due_none {xs : List Tm} {now : Int} (h : ∀ c ∈ xs, now < c.1) : due xs now = [] ∧ late xs now = xs := by
  cases xs with
  | nil => exact ⟨rfl, rfl⟩
  | cons x r =>
    have := h x (by simp)
    have hn : ¬ x.1 ≤ now := by omega
    unfold due late
    simp [hn]
theorem due_mem {xs : List Tm} {now : Int} (h : Srt xs) {c : Tm} : (c ∈ due xs now → c.1 ≤ now) ∧ (c ∈ late xs now → now < c.1) := by
  induction xs with
  | nil => exact ⟨(by simp [due]), (by simp [late])⟩
  | cons x r ih =>
    have ih' := ih (List.pairwise_cons.1 h).2
    unfold due late at ih'
    unfold due late
    rw [List.takeWhile_cons, List.dropWhile_cons]
    by_cases hx : x.1 ≤ now
    · simp only [hx, decide_true, if_true]
      refine ⟨fun hc => ?_, ih'.2⟩
      rcases List.mem_cons.1 hc with rfl | hc
      · exact hx
      · exact ih'.1 hc
    · simp only [hx, decide_false, Bool.false_eq_true, if_false]
      refine ⟨fun hc => by simp at hc, fun hc => ?_⟩
      rcases List.mem_cons.1 hc with rfl | hc
      · omega
      · have := srt_head h c hc; omega
theorem due_late (xs : List Tm) (now : Int) : xs = due xs now ++ late xs now := (List.takeWhile_append_dropWhile (p := fun c : Tm => decide (c.1 ≤ now)) (l := xs)).symm
theorem srt_late {xs : List Tm} (h : Srt xs) (now : Int) : Srt (late xs now) := List.Pairwise.sublist (List.dropWhile_sublist _) h

end Go.Pse
