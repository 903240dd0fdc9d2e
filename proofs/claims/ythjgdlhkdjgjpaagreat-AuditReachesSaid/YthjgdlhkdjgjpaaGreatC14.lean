/-
  How all begins: what the statement asks of it, case by case.
-/
import Derived.Test.YthjgdlhkdjgjpaaGreatC13b
namespace Go.Pse
open Go.RowKit Go.Proofs

/-! ### How all begins: what hangs on the number of threads, of units, on what is shared, and on nothing else -/
abbrev Core := Int × Bool × List (Place × SV) × List (Place × M1) × List (Int × Th) × List (Int × Int)
def kCore (s : KS) : Core := (s.cu, s.sh, s.sl, s.mp, s.th, s.q)
def kStep (k : Core) (b t h : Int) : Core := (k.1, k.2.1, tput b k.2.2.1 0 (tcap8 b k.1 ++ if k.2.1 then tcap2 t h else []), tmap b k.2.2.2.1 2, ins k.2.2.2.2.1 (b + 1) (thOf b), qAdd k.2.2.2.2.2 (b + 1) 4)
def cTh (k : Core) (u h : Int) : Nat → Core
  | 0 => k
  | i + 1 => kStep (cTh k u h i) (bOf u i) (i : Int) h
theorem kThread_core {s : KS} {b t h : Int} {r c : Nat} : kCore (kThread s b t h r c) = kStep (kCore s) b t h := by
  simp only [kCore, kStep, kThread, tcaps]
  congr 1
theorem kTh_core {s : KS} {h : Int} {bs : Nat → Nat × Nat} : ∀ i, kCore (kTh s h bs i) = cTh (kCore s) s.cu h i
  | 0 => rfl
  | i + 1 => by
    rw [kTh, kThread_core, kTh_core i, cTh]
def coreN (ct cu : Nat) (sh : Bool) : Core := cTh ((cu : Int), sh, [], [], [], []) (cu : Int) (hOf (ct : Int) (cu : Int)) ct
theorem cut_id {n lo hi : Int} (h : lo ≤ n ∧ n ≤ hi) : cutI n lo hi = n := by unfold cutI; split <;> split <;> omega
section
variable {ct cu : Nat} {cs cc : Int} {sh : Bool} {g : NewG} (h1 : 1 ≤ ct ∧ ct ≤ 3) (h2 : 1 ≤ cu ∧ cu ≤ 12)
include h1 h2 in
theorem kNew_is : kNew (ct : Int) (cu : Int) cs cc sh g = kTh (kBase (ct : Int) (cu : Int) (cutI cs 0 3) (cutI cc 0 4) sh g.mb g.be g.bn) (hOf (ct : Int) (cu : Int)) g.bs ct := by
  unfold kNew
  rw [cut_id (show (1 : Int) ≤ (ct : Int) ∧ (ct : Int) ≤ 3 by omega), cut_id (show (1 : Int) ≤ (cu : Int) ∧ (cu : Int) ≤ 12 by omega), Int.toNat_natCast]
include h1 h2 in
theorem kNew_core : kCore (kNew (ct : Int) (cu : Int) cs cc sh g) = coreN ct cu sh := by
  rw [kNew_is h1 h2, kTh_core]
  cases sh <;> rfl
include h1 h2 in
theorem kNew_rg : (kNew (ct : Int) (cu : Int) cs cc sh g).rg = (List.range ct).map fun j => (bOf (cu : Int) j + 3, (g.bs j).1, rgNew (bOf (cu : Int) j + 4) (bOf (cu : Int) j + 5) (cutI cs 0 3) (cutI cc 0 4)) := by
  rw [kNew_is h1 h2, kTh_rg]
  cases sh <;> rfl
include h1 h2 in
theorem kNew_now : (kNew (ct : Int) (cu : Int) cs cc sh g).now = 0 := by
  rw [kNew_is h1 h2, (kTh_keep _).2.2.2.2.2.2.2.2.2.2.1]
  cases sh <;> rfl
end
def want (sh : Bool) : Nat := if sh then 10 else 8
def begSl (sl : List (Place × SV)) : Bool := sl.all fun e => decide (e.2.1.rights = 7) && decide (e.2.2 = (0, 0)) && sl.all fun e' => !decide (e.2.1.obj = e'.2.1.obj) || (decide (e.2.1.kind = e'.2.1.kind) && (decide (e.1.1 = e'.1.1) || decide (e.2.1.kind = 4) || decide (e.2.1.kind = 5)))
def begTh (ct cu : Nat) (k : Core) : Bool := k.2.2.2.2.1.all fun t => qHas k.2.2.2.2.2 t.1 && decide (qGet k.2.2.2.2.2 t.1 = some 4) && decide (look k.2.2.2.1 (t.2.space, 0) = some (t.2.ring + 1, 3)) && decide (look k.2.2.2.1 (t.2.space, 1) = some (t.2.ring + 2, 3)) && (List.range ct).any (fun j => decide (t.2.ring = bOf (cu : Int) j + 3)) && k.2.2.2.2.1.all fun t' => !decide (t'.2.ring = t.2.ring) || decide (t'.2.unit = t.2.unit)
def begOk (ct cu : Nat) (sh : Bool) : Bool :=
  let k := coreN ct cu sh
  decide (k.2.2.1.length = want sh * ct) && decide (k.2.2.2.2.1.length = ct) && decide ((qReady k.2.2.2.2.2).length = ct) && begSl k.2.2.1 && begTh ct cu k
set_option maxRecDepth 100000 in
theorem begOk_all : ∀ ct : Nat, ct < 3 → ∀ cu : Nat, cu < 12 → (begOk (ct + 1) (cu + 1) true && begOk (ct + 1) (cu + 1) false) = true := by decide +kernel
theorem begOk_is {ct cu : Nat} {sh : Bool} (h1 : 1 ≤ ct ∧ ct ≤ 3) (h2 : 1 ≤ cu ∧ cu ≤ 12) : begOk ct cu sh = true := by
  have h := begOk_all (ct - 1) (by omega) (cu - 1) (by omega)
  rw [show ct - 1 + 1 = ct by omega, show cu - 1 + 1 = cu by omega, Bool.and_eq_true] at h
  cases sh
  · exact h.2
  · exact h.1
structure Beg (K : KS) (ct cu w : Nat) : Prop where
  nsl : K.sl.length = w * ct
  nth : K.th.length = ct
  nq : (qReady K.q).length = ct
  one : ∀ p ∈ K.sl.map Prod.fst, ((look K.sl p).getD s0).1.rights = 7 ∧ ((look K.sl p).getD s0).2 = (0, 0)
  apart : ∀ p ∈ K.sl.map Prod.fst, ∀ p' ∈ K.sl.map Prod.fst, ((look K.sl p).getD s0).1.obj = ((look K.sl p').getD s0).1.obj → ((look K.sl p).getD s0).1.kind = ((look K.sl p').getD s0).1.kind ∧ (p.1 = p'.1 ∨ ((look K.sl p).getD s0).1.kind = 4 ∨ ((look K.sl p).getD s0).1.kind = 5)
  thr : ∀ t ∈ K.th.map Prod.fst, ∃ T, look K.th t = some T ∧ qHas K.q t = true ∧ qGet K.q t = some 4 ∧ look K.mp (T.space, 0) = some (T.ring + 1, 3) ∧ look K.mp (T.space, 1) = some (T.ring + 2, 3) ∧ (∃ j, j < ct ∧ T.ring = bOf (cu : Int) j + 3) ∧ ∀ q ∈ K.th, q.2.ring = T.ring → q.2.unit = T.unit
theorem key_look {κ υ : Type} [DecidableEq κ] {ps : List (κ × υ)} {a : κ} (h : a ∈ ps.map Prod.fst) : ∃ u, look ps a = some u ∧ (a, u) ∈ ps := by
  cases hl : look ps a with
  | none => exact absurd h (look_none_iff.1 hl)
  | some u => exact ⟨u, rfl, mem_look hl⟩
theorem beg_of {K : KS} {ct cu : Nat} {sh : Bool} (hk : kCore K = coreN ct cu sh) (hb : begOk ct cu sh = true) : Beg K ct cu (want sh) := by
  unfold begOk at hb
  rw [← hk] at hb
  simp only [kCore, Bool.and_eq_true] at hb
  obtain ⟨⟨⟨⟨g1, g2⟩, g3⟩, g4⟩, g5⟩ := hb
  have h4 := List.all_eq_true.1 g4
  have h5 := List.all_eq_true.1 g5
  refine ⟨of_decide_eq_true g1, of_decide_eq_true g2, of_decide_eq_true g3, fun p hp => ?_, fun p hp p' hp' => ?_, fun t ht => ?_⟩
  · obtain ⟨u, hu, hm⟩ := key_look hp
    have := h4 _ hm
    simp only [Bool.and_eq_true, decide_eq_true_eq] at this
    rw [hu]; exact ⟨this.1.1, this.1.2⟩
  · obtain ⟨u, hu, hm⟩ := key_look hp
    obtain ⟨u', hu', hm'⟩ := key_look hp'
    have := h4 _ hm
    simp only [Bool.and_eq_true, decide_eq_true_eq] at this
    have := List.all_eq_true.1 this.2 _ hm'
    simp only [Bool.and_eq_true, Bool.or_eq_true, decide_eq_true_eq, Bool.not_eq_true', decide_eq_false_iff_not] at this
    rw [hu, hu']
    intro ho
    rcases this with h | ⟨h, h'⟩
    · exact absurd ho h
    · exact ⟨h, by rcases h' with (h' | h') | h' <;> simp [h']⟩
  · obtain ⟨T, hT, hm⟩ := key_look ht
    have := h5 _ hm
    simp only [Bool.and_eq_true, decide_eq_true_eq] at this
    obtain ⟨⟨⟨⟨⟨q1, q2⟩, q3⟩, q4⟩, q5⟩, q6⟩ := this
    obtain ⟨j, hj, hr⟩ := List.any_eq_true.1 q5
    refine ⟨T, hT, q1, q2, q3, q4, ⟨j, by simpa using hj, by simpa using hr⟩, fun q hq hqr => ?_⟩
    have := List.all_eq_true.1 q6 _ hq
    simp only [Bool.or_eq_true, decide_eq_true_eq, Bool.not_eq_true', decide_eq_false_iff_not] at this
    rcases this with h | h
    · exact absurd hqr h
    · exact h
end Go.Pse
