/-
  The law TimerMoves: one that is put in again has its new deadline alone; one that is taken out is never due: proved for every input.
-/
import Derived.Test.YtjolbnicboaaeaaFacts
import Derived.Test.YtjolbnicboaaeaaArg
import Derived.Test.YtjolbnicboaaeaaTm8
import Derived.WalkKit
import Derived.ProofKit
import Derived.OpenShut
import Derived.ShutString
import Derived.ChangeOld
import Derived.Below
import Derived.SizedLaws
import Derived.Carry
namespace Go.Proofs.Ytjolbnicboaaeaa.timerMoves
open Go.ChangeShapes Go.WideShapes Go.ChangeAt Go.RowKit Go.Pse
theorem in_place : (Rows.timerMovesRow.inPlace == Try.prog.inPlace 18) = true := by kernel_rfl
theorem unfol : (Rows.timerMovesRow.unfollowed == Try.prog.unfollowed 18) = true := by kernel_rfl
theorem recu : (Rows.timerMovesRow.recurses == Try.prog.recurses 18) = true := by kernel_rfl
theorem nam : (Rows.timerMovesRow.named == Try.prog.varsNamed 18) = true := by kernel_rfl
theorem pk : (Rows.timerMovesRow.plainKeys == Try.prog.plainKeys) = true := pf_plain
theorem lif : (Rows.timerMovesRow.lifted == Try.prog.liftsFinal) = true := pf_lifts
theorem mak : (Try.prog.make == some Rows.timerMovesRow.make) = true := pf_make
theorem closed : joinedFacts Try.prog 18 Try.f18 Rows.timerMovesSpec Rows.timerMovesRow = true := by
  simp only [joinedFacts, Bool.and_eq_true]
  and_intros <;> first | with_reducible exact pf_laidOut | with_reducible exact pf_rowed | with_reducible exact pf_stops | with_reducible exact pf_knobs | with_reducible exact pf_heard | with_reducible exact pf_enter | with_reducible exact in_place | with_reducible exact unfol | with_reducible exact recu | with_reducible exact nam | with_reducible exact pk | with_reducible exact lif | with_reducible exact mak | kernel_rfl
set_option maxRecDepth 100000 in
theorem lifted (os : Os) (started : os.Started) (H : Type) (enc : TypeId × Value → H) :
  ReturnsInHanded {} Try.checked os 18 .any (Rows.timerMovesSpec.pre6 enc Try.prog Try.f18 Rows.timerMovesRow.domain false) (Rows.timerMovesSpec.post enc Try.prog Try.f18 false true false false) := by
 refine returnsInHanded_of_change_sized (C := Try.checked) pf_own started (by kernel_rfl) Try.func18
  (ChangeSpec.witness6 (enc := enc) (C := Try.checked) false ⟨#[], #[.slice none 0 0, .int .i64 0, .int .i64 0, .int .i64 0], []⟩ 8 (by kernel_rfl) (by kernel_rfl) (by kernel_rfl) (by kernel_rfl)) ?_
 intro W base args ds gs before hval0 hW hcnd hsz0 _
 have hsz : (DataW.weightsEach Try.prog (Try.f18.params.toList ++ Rows.timerMovesSpec.plain.varTypes Try.prog) (ds ++ gs)).all (· ≤ reachBytes) = true := hsz0
 have hval : ∀ (j : Nat) t v, Try.f18.params[j]? = some t → args[j]? = some v → Value.okWide Try.prog W .any base t v := hval0
 have hW' := hW
 obtain ⟨p, q, hA0, hV, rfl, hfz, hnd⟩ := hW
 have hA : DataW.TrodAll enc Try.prog W 0 (fun _ => true) true Try.f18.params.toList args.toList ds p := hA0
 rw [Try.params18] at hA hval hsz
 obtain ⟨v0, vs0, d0, ds0, p0, q0, hargs, rfl, rfl, h0, r0⟩ := trodAll_cons hA
 obtain ⟨v1, vs1, d1, ds1, p1, q1, rfl, rfl, rfl, h1, r1⟩ := trodAll_cons r0
 obtain ⟨v2, vs2, d2, ds2, p2, q2, rfl, rfl, rfl, h2, r2⟩ := trodAll_cons r1
 obtain ⟨v3, vs3, d3, ds3, p3, q3, rfl, rfl, rfl, h3, r3⟩ := trodAll_cons r2
 obtain ⟨rfl, rfl, rfl⟩ := trodAll_nil r3
 obtain rfl : args = #[v0, v1, v2, v3] := by cases args; simp_all
 obtain ⟨rfl, rfl⟩ := trodVars_none hV
 have k0 := h0
 have lt0 : ∀ x ∈ p0, x.block < W.heap.size := by obtain ⟨m, hm⟩ := k0; exact DataW.trod_lt m _ _ _ hm
 obtain ⟨xs0, rd0, sh0⟩ := open_row (ks := [.int .i64]) (n := 5) Try.underlying23 (by kernel_rfl) (by kernel_rfl) (hval 0 23 v0 rfl rfl) h0
 obtain ⟨ds0, rfl, hd0⟩ := decodeRows (q := Shape [.int .i64]) (fun x hx => dec_int hx) xs0 sh0
 obtain ⟨a1, rfl, rfl, rfl, w1⟩ := open_int Try.underlying3 (hval 1 3 v1 rfl rfl) h1
 obtain ⟨a2, rfl, rfl, rfl, w2⟩ := open_int Try.underlying3 (hval 2 3 v2 rfl rfl) h2
 obtain ⟨a3, rfl, rfl, rfl, w3⟩ := open_int Try.underlying3 (hval 3 3 v3 rfl rfl) h3
 clear hA0 hval0 hsz0 hsz
 refine ((timerMoves rd0 a1 a2 a3) W (Sep.old_in W)).mono fun e W' ⟨_, he, hs⟩ => ?_
 have bel : Below W.heap.size W W' := hs.below .here rfl rfl rfl
 subst he
 exact ⟨_, rfl, _, _, _, [], _, [], hW', trodAll_mk1 (shut_bool Try.underlying4 _), (trodAll_cons_mk (Below.trod pf_laidOut (by kernel_rfl) (of_decide_eq_true (by kernel_rfl)) k0 bel lt0) (trodAll_cons_mk (shut_int Try.underlying3 w1) (trodAll_cons_mk (shut_int Try.underlying3 w2) (trodAll_cons_mk (shut_int Try.underlying3 w3) trodAll_mk0)))), rfl, bel.frame _, fun h => by cases h⟩
theorem over : Rows.timerMovesRow.holds Try.pinned (OpenSpec.ofChange Rows.timerMovesSpec) :=
  OpenClaim.holds_of_wide 18 Try.f18 rfl rfl rfl rfl rfl rfl rfl ⟨rfl, rfl, rfl, rfl, rfl⟩ rfl rfl rfl rfl rfl (by kernel_rfl) Try.func18 closed
    (of_decide_eq_true (by kernel_rfl)) (by unfold Func.isWrapper; first | (rw [if_pos (by decide +kernel)]; kernel_rfl) | (rw [if_neg (by decide +kernel)]; exact ⟨rfl, rfl⟩))
    (fun os started H enc _ => lifted os started H enc)
theorem proved : Rows.TimerMovesSaid := over
#print axioms proved
end Go.Proofs.Ytjolbnicboaaeaa.timerMoves
namespace Go.Proofs.Ytjolbnicboaaeaa
/-- The row, under a short name, for the claim. -/
theorem timerMoves_holds : Rows.TimerMovesSaid := timerMoves.proved
end Go.Proofs.Ytjolbnicboaaeaa
