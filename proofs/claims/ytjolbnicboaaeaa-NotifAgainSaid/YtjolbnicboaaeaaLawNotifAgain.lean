/-
  The law NotifAgain: who waits already, and asks again, keeps its place; taken, the word is gone, for whoever comes next: proved for every input.
-/
import Derived.Test.YtjolbnicboaaeaaFacts
import Derived.Test.YtjolbnicboaaeaaArg
import Derived.Test.YtjolbnicboaaeaaNt4
import Derived.WalkKit
import Derived.ProofKit
import Derived.OpenShut
import Derived.ShutString
import Derived.ChangeOld
import Derived.Below
import Derived.SizedLaws
import Derived.Carry
namespace Go.Proofs.Ytjolbnicboaaeaa.notifAgain
open Go.ChangeShapes Go.WideShapes Go.ChangeAt Go.RowKit Go.Pse
theorem in_place : (Rows.notifAgainRow.inPlace == Try.prog.inPlace 14) = true := by kernel_rfl
theorem unfol : (Rows.notifAgainRow.unfollowed == Try.prog.unfollowed 14) = true := by kernel_rfl
theorem recu : (Rows.notifAgainRow.recurses == Try.prog.recurses 14) = true := by kernel_rfl
theorem nam : (Rows.notifAgainRow.named == Try.prog.varsNamed 14) = true := by kernel_rfl
theorem pk : (Rows.notifAgainRow.plainKeys == Try.prog.plainKeys) = true := pf_plain
theorem lif : (Rows.notifAgainRow.lifted == Try.prog.liftsFinal) = true := pf_lifts
theorem mak : (Try.prog.make == some Rows.notifAgainRow.make) = true := pf_make
theorem closed : joinedFacts Try.prog 14 Try.f14 Rows.notifAgainSpec Rows.notifAgainRow = true := by
  simp only [joinedFacts, Bool.and_eq_true]
  and_intros <;> first | with_reducible exact pf_laidOut | with_reducible exact pf_rowed | with_reducible exact pf_stops | with_reducible exact pf_knobs | with_reducible exact pf_heard | with_reducible exact pf_enter | with_reducible exact in_place | with_reducible exact unfol | with_reducible exact recu | with_reducible exact nam | with_reducible exact pk | with_reducible exact lif | with_reducible exact mak | kernel_rfl
set_option maxRecDepth 100000 in
theorem lifted (os : Os) (started : os.Started) (H : Type) (enc : TypeId × Value → H) :
    ReturnsInHanded {} Try.checked os 14 .any (Rows.notifAgainSpec.pre6 enc Try.prog Try.f14 Rows.notifAgainRow.domain false) (Rows.notifAgainSpec.post enc Try.prog Try.f14 false true false false) := by
  refine returnsInHanded_of_change_sized (C := Try.checked) pf_own started (by kernel_rfl) Try.func14
    (ChangeSpec.witness6 (enc := enc) (C := Try.checked) false ⟨#[], #[.int .i64 0, .int .i64 0, .int .u32 0], []⟩ 8 (by kernel_rfl) (by kernel_rfl) (by kernel_rfl) (by kernel_rfl)) ?_
  intro W base args ds gs before hval0 hW hcnd hsz0 _
  have hsz : (DataW.weightsEach Try.prog (Try.f14.params.toList ++ Rows.notifAgainSpec.plain.varTypes Try.prog) (ds ++ gs)).all (· ≤ reachBytes) = true := hsz0
  have hval : ∀ (j : Nat) t v, Try.f14.params[j]? = some t → args[j]? = some v → Value.okWide Try.prog W .any base t v := hval0
  have hW' := hW
  obtain ⟨p, q, hA0, hV, rfl, hfz, hnd⟩ := hW
  have hA : DataW.TrodAll enc Try.prog W 0 (fun _ => true) true Try.f14.params.toList args.toList ds p := hA0
  rw [Try.params14] at hA hval hsz
  obtain ⟨v0, vs0, d0, ds0, p0, q0, hargs, rfl, rfl, h0, r0⟩ := trodAll_cons hA
  obtain ⟨v1, vs1, d1, ds1, p1, q1, rfl, rfl, rfl, h1, r1⟩ := trodAll_cons r0
  obtain ⟨v2, vs2, d2, ds2, p2, q2, rfl, rfl, rfl, h2, r2⟩ := trodAll_cons r1
  obtain ⟨rfl, rfl, rfl⟩ := trodAll_nil r2
  obtain rfl : args = #[v0, v1, v2] := by cases args; simp_all
  obtain ⟨rfl, rfl⟩ := trodVars_none hV
  obtain ⟨a0, rfl, rfl, rfl, w0⟩ := open_int Try.underlying3 (hval 0 3 v0 rfl rfl) h0
  obtain ⟨a1, rfl, rfl, rfl, w1⟩ := open_int Try.underlying3 (hval 1 3 v1 rfl rfl) h1
  obtain ⟨a2, rfl, rfl, rfl, w2⟩ := open_int Try.underlying37 (hval 2 37 v2 rfl rfl) h2
  clear hA0 hval0 hsz0 hsz
  refine ((notifAgain a0 a1 a2) W (Sep.old_in W)).mono fun e W' ⟨_, he, hs⟩ => ?_
  have bel : Below W.heap.size W W' := hs.below .here rfl rfl rfl
  subst he
  exact ⟨_, rfl, _, _, _, [], _, [], hW', trodAll_mk1 (shut_bool Try.underlying4 _), (trodAll_cons_mk (shut_int Try.underlying3 w0) (trodAll_cons_mk (shut_int Try.underlying3 w1) (trodAll_cons_mk (shut_int Try.underlying37 w2) trodAll_mk0))), rfl, bel.frame _, fun h => by cases h⟩
theorem over : Rows.notifAgainRow.holds Try.pinned (OpenSpec.ofChange Rows.notifAgainSpec) :=
  OpenClaim.holds_of_wide 14 Try.f14 rfl rfl rfl rfl rfl rfl rfl ⟨rfl, rfl, rfl, rfl, rfl⟩ rfl rfl rfl rfl rfl (by kernel_rfl) Try.func14 closed
    (of_decide_eq_true (by kernel_rfl)) (by unfold Func.isWrapper; first | (rw [if_pos (by decide +kernel)]; kernel_rfl) | (rw [if_neg (by decide +kernel)]; exact ⟨rfl, rfl⟩))
    (fun os started H enc _ => lifted os started H enc)
theorem proved : Rows.NotifAgainSaid := over
#print axioms proved
end Go.Proofs.Ytjolbnicboaaeaa.notifAgain
namespace Go.Proofs.Ytjolbnicboaaeaa
/-- The row, under a short name, for the claim. -/
theorem notifAgain_holds : Rows.NotifAgainSaid := notifAgain.proved
end Go.Proofs.Ytjolbnicboaaeaa
