/-
  The law ActErrors: what can not be done is told, and nothing else is done: proved for every input.
-/
import Derived.Test.YtclgdnpndlognaaGreatBC5
import Derived.Test.YtclgdnpndlognaaGreatBC3
import Derived.Test.YtclgdnpndlognaaGreatBXActErrors0
import Derived.WalkKit
import Derived.ProofKit
import Derived.OpenShut
import Derived.ShutString
import Derived.ChangeOld
import Derived.Below
import Derived.SizedLaws
import Derived.Carry
namespace Go.Proofs.YtclgdnpndlognaaGreat.actErrors
open Go.ChangeShapes Go.WideShapes Go.ChangeAt Go.RowKit Go.Pse
theorem in_place : (Rows.actErrorsRow.inPlace == Tryz.prog.inPlace 5) = true := by kernel_rfl
theorem unfol : (Rows.actErrorsRow.unfollowed == Tryz.prog.unfollowed 5) = true := by kernel_rfl
theorem recu : (Rows.actErrorsRow.recurses == Tryz.prog.recurses 5) = true := by kernel_rfl
theorem nam : (Rows.actErrorsRow.named == Tryz.prog.varsNamed 5) = true := by kernel_rfl
theorem pk : (Rows.actErrorsRow.plainKeys == Tryz.prog.plainKeys) = true := pf_plain
theorem lif : (Rows.actErrorsRow.lifted == Tryz.prog.liftsFinal) = true := pf_lifts
theorem mak : (Tryz.prog.make == some Rows.actErrorsRow.make) = true := pf_make
theorem closed : joinedFacts Tryz.prog 5 Tryz.f5 Rows.actErrorsSpec Rows.actErrorsRow = true := by
  simp only [joinedFacts, Bool.and_eq_true]
  and_intros <;> first | with_reducible exact pf_laidOut | with_reducible exact pf_rowed | with_reducible exact pf_stops | with_reducible exact pf_knobs | with_reducible exact pf_heard | with_reducible exact pf_enter | with_reducible exact in_place | with_reducible exact unfol | with_reducible exact recu | with_reducible exact nam | with_reducible exact pk | with_reducible exact lif | with_reducible exact mak | kernel_rfl
set_option maxRecDepth 100000 in
theorem lifted (os : Os) (started : os.Started) (H : Type) (enc : TypeId × Value → H) :
  ReturnsInHanded {} Tryz.checked os 5 .any (Rows.actErrorsSpec.pre6 enc Tryz.prog Tryz.f5 Rows.actErrorsRow.domain false) (Rows.actErrorsSpec.post enc Tryz.prog Tryz.f5 false true false false) := by
 refine returnsInHanded_of_change_sized (C := Tryz.checked) pf_own started (by kernel_rfl) Tryz.func5
  (ChangeSpec.witness6 (enc := enc) (C := Tryz.checked) false ⟨#[], #[.int .i64 0], []⟩ 8 (by kernel_rfl) (by kernel_rfl) (by kernel_rfl) (by kernel_rfl)) ?_
 intro W base args ds gs before hval0 hW hcnd hsz0 _
 have hsz : (DataW.weightsEach Tryz.prog (Tryz.f5.params.toList ++ Rows.actErrorsSpec.plain.varTypes Tryz.prog) (ds ++ gs)).all (· ≤ reachBytes) = true := hsz0
 have hval : ∀ (j : Nat) t v, Tryz.f5.params[j]? = some t → args[j]? = some v → Value.okWide Tryz.prog W .any base t v := hval0
 have hW' := hW
 obtain ⟨p, q, hA0, hV, rfl, hfz, hnd⟩ := hW
 have hA : DataW.TrodAll enc Tryz.prog W 0 (fun _ => true) true Tryz.f5.params.toList args.toList ds p := hA0
 rw [Tryz.params5] at hA hval hsz
 obtain ⟨v0, vs0, d0, ds0, p0, q0, hargs, rfl, rfl, h0, r0⟩ := trodAll_cons hA
 obtain ⟨rfl, rfl, rfl⟩ := trodAll_nil r0
 obtain rfl : args = #[v0] := by cases args; simp_all
 obtain ⟨rfl, rfl⟩ := trodVars_none hV
 obtain ⟨a0, rfl, rfl, rfl, w0⟩ := open_int Tryz.underlying3 (hval 0 3 v0 rfl rfl) h0
 clear hA0 hval0 hsz0 hsz
 refine ((actErrors (x := a0)) W (Sep.old_in W)).mono fun e W' ⟨_, he, hs⟩ => ?_
 have bel : Below W.heap.size W W' := hs.below .here rfl rfl rfl
 subst he
 exact ⟨_, rfl, _, _, _, [], _, [], hW', trodAll_mk1 (shut_bool Tryz.underlying4 _), (trodAll_cons_mk (shut_int Tryz.underlying3 w0) trodAll_mk0), rfl, bel.frame _, fun h => by cases h⟩
theorem over : Rows.actErrorsRow.holds Tryz.pinned (OpenSpec.ofChange Rows.actErrorsSpec) :=
  OpenClaim.holds_of_wide 5 Tryz.f5 rfl rfl rfl rfl rfl rfl rfl ⟨rfl, rfl, rfl, rfl, rfl⟩ rfl rfl rfl rfl rfl (by kernel_rfl) Tryz.func5 closed
    (of_decide_eq_true (by kernel_rfl)) (by unfold Func.isWrapper; first | (rw [if_pos (by decide +kernel)]; kernel_rfl) | (rw [if_neg (by decide +kernel)]; exact ⟨rfl, rfl⟩))
    (fun os started H enc _ => lifted os started H enc)
theorem proved : Rows.ActErrorsSaid := over
#print axioms proved
end Go.Proofs.YtclgdnpndlognaaGreat.actErrors
namespace Go.Proofs.YtclgdnpndlognaaGreat
/-- The row, under a short name, for the claim. -/
theorem actErrors_holds : Rows.ActErrorsSaid := actErrors.proved
end Go.Proofs.YtclgdnpndlognaaGreat
