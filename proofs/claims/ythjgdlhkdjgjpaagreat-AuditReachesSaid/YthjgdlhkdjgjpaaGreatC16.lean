/-
  Pages that are cleared.
-/
import Derived.Test.YthjgdlhkdjgjpaaGreatC13b
namespace Go.Pse
open Go.RowKit Go.Proofs

theorem J_picks2 {E : World} {A B : As} {l m : List As} {n : Nat} {F : Env} {K : Act → World → Prop} (hp : Picks [A, B] l m) (k : Jk E (A :: B :: m) n F K) : Jk E l n F K := fun w a H hF => k w a (hp.sep H) hF
/-! ### maps.DeleteFunc at pages -/
section
variable {κ υ : Type} [DecidableEq κ] {q : κ → υ → Bool} {ps : List (κ × υ)} {done : List κ} {a : κ} {u : υ}
/-- What is there still, when the keys 'done' have come. -/
def cur (q : κ → υ → Bool) (ps : List (κ × υ)) (done : List κ) : List (κ × υ) := ps.filter fun e => !(decide (e.1 ∈ done) && q e.1 e.2)
theorem cur_nil : cur q ps [] = ps := by unfold cur; rw [List.filter_eq_self]; intro e _; simp
theorem cur_mem (h : (a, u) ∈ cur q ps done) : (a, u) ∈ ps := (List.mem_filter.1 h).1
theorem cur_del (hK : Keyd ps) (hm : (a, u) ∈ ps) (hq : q a u = true) : del (cur q ps done) a = cur q ps (done ++ [a]) := by
  unfold del cur
  rw [List.filter_filter]
  refine List.filter_congr fun e he => ?_
  by_cases h : e.1 = a
  · have h2 : e.2 = u := by
      have h3 : look ps e.1 = some e.2 := look_mem hK he
      rw [h, look_mem hK hm] at h3; exact (Option.some.inj h3).symm
    simp [h, h2, hq]
  · simp [h]
theorem cur_keep (hK : Keyd ps) (hm : (a, u) ∈ ps) (hq : q a u = false) : cur q ps done = cur q ps (done ++ [a]) := by
  unfold cur
  refine List.filter_congr fun e he => ?_
  by_cases h : e.1 = a
  · have h2 : e.2 = u := by
      have h3 : look ps e.1 = some e.2 := look_mem hK he
      rw [h, look_mem hK hm] at h3; exact (Option.some.inj h3).symm
    simp [h, h2, hq]
  · simp [h]
theorem cur_end (h : ∀ e ∈ cur q ps done, e.1 ∈ done) : cur q ps done = ps.filter fun e => !q e.1 e.2 := by
  have h' := h
  unfold cur at h' ⊢
  refine List.filter_congr fun e he => ?_
  by_cases hd : e.1 ∈ done
  · simp [hd]
  · exact absurd (h' e (List.mem_filter.2 ⟨he, by simp [hd]⟩)) hd
end


end Go.Pse
