/-
  The law TimerNext: the next one is the one that is due first, as long as there is one: proved for every input.
-/
import Derived.Test.YtjolbnicboaaeaaFacts
import Derived.Test.YtjolbnicboaaeaaArg
import Derived.Test.YtjolbnicboaaeaaTm6
import Derived.WalkKit
import Derived.ProofKit
import Derived.OpenShut
import Derived.ShutString
import Derived.ChangeOld
import Derived.Below
import Derived.SizedLaws
import Derived.Carry
namespace Go.Proofs.Ytjolbnicboaaeaa.timerNext
open Go.ChangeShapes Go.WideShapes Go.ChangeAt Go.RowKit Go.Pse
theorem in_place : (Rows.timerNextRow.inPlace == Try.prog.inPlace 19) = true := by kernel_rfl
theorem unfol : (Rows.timerNextRow.unfollowed == Try.prog.unfollowed 19) = true := by kernel_rfl
theorem recu : (Rows.timerNextRow.recurses == Try.prog.recurses 19) = true := by kernel_rfl
theorem nam : (Rows.timerNextRow.named == Try.prog.varsNamed 19) = true := by kernel_rfl
theorem pk : (Rows.timerNextRow.plainKeys == Try.prog.plainKeys) = true := pf_plain
theorem lif : (Rows.timerNextRow.lifted == Try.prog.liftsFinal) = true := pf_lifts
theorem mak : (Try.prog.make == some Rows.timerNextRow.make) = true := pf_make
theorem closed : joinedFacts Try.prog 19 Try.f19 Rows.timerNextSpec Rows.timerNextRow = true := by
  simp only [joinedFacts, Bool.and_eq_true]
  and_intros <;> first | with_reducible exact pf_laidOut | with_reducible exact pf_rowed | with_reducible exact pf_stops | with_reducible exact pf_knobs | with_reducible exact pf_heard | with_reducible exact pf_enter | with_reducible exact in_place | with_reducible exact unfol | with_reducible exact recu | with_reducible exact nam | with_reducible exact pk | with_reducible exact lif | with_reducible exact mak | kernel_rfl
set_option maxRecDepth 100000 in
theorem lifted (os : Os) (started : os.Started) (H : Type) (enc : TypeId × Value → H) :
  ReturnsInHanded {} Try.checked os 19 .any (Rows.timerNextSpec.pre6 enc Try.prog Try.f19 Rows.timerNextRow.domain false) (Rows.timerNextSpec.post enc Try.prog Try.f19 false true false false) := by
 refine returnsInHanded_of_change_sized (C := Try.checked) pf_own started (by kernel_rfl) Try.func19
  (ChangeSpec.witness6 (enc := enc) (C := Try.checked) false ⟨#[], #[.slice none 0 0], []⟩ 8 (by kernel_rfl) (by kernel_rfl) (by kernel_rfl) (by kernel_rfl)) ?_
 intro W base args ds gs before hval0 hW hcnd hsz0 _
 have hsz : (DataW.weightsEach Try.prog (Try.f19.params.toList ++ Rows.timerNextSpec.plain.varTypes Try.prog) (ds ++ gs)).all (· ≤ reachBytes) = true := hsz0
 have hval : ∀ (j : Nat) t v, Try.f19.params[j]? = some t → args[j]? = some v → Value.okWide Try.prog W .any base t v := hval0
 have hW' := hW
 obtain ⟨p, q, hA0, hV, rfl, hfz, hnd⟩ := hW
 have hA : DataW.TrodAll enc Try.prog W 0 (fun _ => true) true Try.f19.params.toList args.toList ds p := hA0
 rw [Try.params19] at hA hval hsz
 obtain ⟨v0, vs0, d0, ds0, p0, q0, hargs, rfl, rfl, h0, r0⟩ := trodAll_cons hA
 obtain ⟨rfl, rfl, rfl⟩ := trodAll_nil r0
 obtain rfl : args = #[v0] := by cases args; simp_all
 obtain ⟨rfl, rfl⟩ := trodVars_none hV
 have k0 := h0
 have lt0 : ∀ x ∈ p0, x.block < W.heap.size := by obtain ⟨m, hm⟩ := k0; exact DataW.trod_lt m _ _ _ hm
 obtain ⟨xs0, rd0, sh0⟩ := open_row (ks := [.int .i64]) (n := 5) Try.underlying23 (by kernel_rfl) (by kernel_rfl) (hval 0 23 v0 rfl rfl) h0
 obtain ⟨ds0, rfl, hd0⟩ := decodeRows (q := Shape [.int .i64]) (fun x hx => dec_int hx) xs0 sh0
 clear hA0 hval0 hsz0 hsz
 refine ((timerNext rd0) W (Sep.old_in W)).mono fun e W' ⟨_, he, hs⟩ => ?_
 have bel : Below W.heap.size W W' := hs.below .here rfl rfl rfl
 subst he
 exact ⟨_, rfl, _, _, _, [], _, [], hW', trodAll_mk1 (shut_bool Try.underlying4 _), (trodAll_cons_mk (Below.trod pf_laidOut (by kernel_rfl) (of_decide_eq_true (by kernel_rfl)) k0 bel lt0) trodAll_mk0), rfl, bel.frame _, fun h => by cases h⟩
theorem over : Rows.timerNextRow.holds Try.pinned (OpenSpec.ofChange Rows.timerNextSpec) :=
  OpenClaim.holds_of_wide 19 Try.f19 rfl rfl rfl rfl rfl rfl rfl ⟨rfl, rfl, rfl, rfl, rfl⟩ rfl rfl rfl rfl rfl (by kernel_rfl) Try.func19 closed
    (of_decide_eq_true (by kernel_rfl)) (by unfold Func.isWrapper; first | (rw [if_pos (by decide +kernel)]; kernel_rfl) | (rw [if_neg (by decide +kernel)]; exact ⟨rfl, rfl⟩))
    (fun os started H enc _ => lifted os started H enc)
theorem proved : Rows.TimerNextSaid := over
#print axioms proved
end Go.Proofs.Ytjolbnicboaaeaa.timerNext
namespace Go.Proofs.Ytjolbnicboaaeaa
/-- The row, under a short name, for the claim. -/
theorem timerNext_holds : Rows.TimerNextSaid := timerNext.proved
end Go.Proofs.Ytjolbnicboaaeaa
