/-
  The law NotifTurns: those that wait are woken one by one, the first first, each with the bits that were signalled since; one that was dropped is not: proved for every input.
-/
import Derived.Test.YtjolbnicboaaeaaFacts
import Derived.Test.YtjolbnicboaaeaaArg
import Derived.Test.YtjolbnicboaaeaaNt5
import Derived.WalkKit
import Derived.ProofKit
import Derived.OpenShut
import Derived.ShutString
import Derived.ChangeOld
import Derived.Below
import Derived.SizedLaws
import Derived.Carry
namespace Go.Proofs.Ytjolbnicboaaeaa.notifTurns
open Go.ChangeShapes Go.WideShapes Go.ChangeAt Go.RowKit Go.Pse
theorem in_place : (Rows.notifTurnsRow.inPlace == Try.prog.inPlace 17) = true := by kernel_rfl
theorem unfol : (Rows.notifTurnsRow.unfollowed == Try.prog.unfollowed 17) = true := by kernel_rfl
theorem recu : (Rows.notifTurnsRow.recurses == Try.prog.recurses 17) = true := by kernel_rfl
theorem nam : (Rows.notifTurnsRow.named == Try.prog.varsNamed 17) = true := by kernel_rfl
theorem pk : (Rows.notifTurnsRow.plainKeys == Try.prog.plainKeys) = true := pf_plain
theorem lif : (Rows.notifTurnsRow.lifted == Try.prog.liftsFinal) = true := pf_lifts
theorem mak : (Try.prog.make == some Rows.notifTurnsRow.make) = true := pf_make
theorem closed : joinedFacts Try.prog 17 Try.f17 Rows.notifTurnsSpec Rows.notifTurnsRow = true := by
  simp only [joinedFacts, Bool.and_eq_true]
  and_intros <;> first | with_reducible exact pf_laidOut | with_reducible exact pf_rowed | with_reducible exact pf_stops | with_reducible exact pf_knobs | with_reducible exact pf_heard | with_reducible exact pf_enter | with_reducible exact in_place | with_reducible exact unfol | with_reducible exact recu | with_reducible exact nam | with_reducible exact pk | with_reducible exact lif | with_reducible exact mak | kernel_rfl
set_option maxRecDepth 100000 in
theorem lifted (os : Os) (started : os.Started) (H : Type) (enc : TypeId × Value → H) :
    ReturnsInHanded {} Try.checked os 17 .any (Rows.notifTurnsSpec.pre6 enc Try.prog Try.f17 Rows.notifTurnsRow.domain false) (Rows.notifTurnsSpec.post enc Try.prog Try.f17 false true false false) := by
  refine returnsInHanded_of_change_sized (C := Try.checked) pf_own started (by kernel_rfl) Try.func17
    (ChangeSpec.witness6 (enc := enc) (C := Try.checked) false ⟨#[], #[.int .i64 0, .int .i64 0, .slice none 0 0], []⟩ 8 (by kernel_rfl) (by kernel_rfl) (by kernel_rfl) (by kernel_rfl)) ?_
  intro W base args ds gs before hval0 hW hcnd hsz0 _
  have hsz : (DataW.weightsEach Try.prog (Try.f17.params.toList ++ Rows.notifTurnsSpec.plain.varTypes Try.prog) (ds ++ gs)).all (· ≤ reachBytes) = true := hsz0
  have hval : ∀ (j : Nat) t v, Try.f17.params[j]? = some t → args[j]? = some v → Value.okWide Try.prog W .any base t v := hval0
  have hW' := hW
  obtain ⟨p, q, hA0, hV, rfl, hfz, hnd⟩ := hW
  have hA : DataW.TrodAll enc Try.prog W 0 (fun _ => true) true Try.f17.params.toList args.toList ds p := hA0
  rw [Try.params17] at hA hval hsz
  obtain ⟨v0, vs0, d0, ds0, p0, q0, hargs, rfl, rfl, h0, r0⟩ := trodAll_cons hA
  obtain ⟨v1, vs1, d1, ds1, p1, q1, rfl, rfl, rfl, h1, r1⟩ := trodAll_cons r0
  obtain ⟨v2, vs2, d2, ds2, p2, q2, rfl, rfl, rfl, h2, r2⟩ := trodAll_cons r1
  obtain ⟨rfl, rfl, rfl⟩ := trodAll_nil r2
  obtain rfl : args = #[v0, v1, v2] := by cases args; simp_all
  obtain ⟨rfl, rfl⟩ := trodVars_none hV
  obtain ⟨a0, rfl, rfl, rfl, w0⟩ := open_int Try.underlying3 (hval 0 3 v0 rfl rfl) h0
  obtain ⟨a1, rfl, rfl, rfl, w1⟩ := open_int Try.underlying3 (hval 1 3 v1 rfl rfl) h1
  have k2 := h2
  have lt2 : ∀ x ∈ p2, x.block < W.heap.size := by obtain ⟨m, hm⟩ := k2; exact DataW.trod_lt m _ _ _ hm
  obtain ⟨xs2, rd2, sh2⟩ := open_row (ks := [.int .u32]) (n := 5) Try.underlying123 (by kernel_rfl) (by kernel_rfl) (hval 2 123 v2 rfl rfl) h2
  obtain ⟨ds2, rfl, hd2⟩ := decodeRows (q := Shape [.int .u32]) (fun x hx => dec_int hx) xs2 sh2
  clear hA0 hval0 hsz0 hsz
  refine ((notifTurns rd2 a0 a1) W (Sep.old_in W)).mono fun e W' ⟨_, he, hs⟩ => ?_
  have bel : Below W.heap.size W W' := hs.below .here rfl rfl rfl
  subst he
  exact ⟨_, rfl, _, _, _, [], _, [], hW', trodAll_mk1 (shut_bool Try.underlying4 _), (trodAll_cons_mk (shut_int Try.underlying3 w0) (trodAll_cons_mk (shut_int Try.underlying3 w1) (trodAll_cons_mk (Below.trod pf_laidOut (by kernel_rfl) (of_decide_eq_true (by kernel_rfl)) k2 bel lt2) trodAll_mk0))), rfl, bel.frame _, fun h => by cases h⟩
theorem over : Rows.notifTurnsRow.holds Try.pinned (OpenSpec.ofChange Rows.notifTurnsSpec) :=
  OpenClaim.holds_of_wide 17 Try.f17 rfl rfl rfl rfl rfl rfl rfl ⟨rfl, rfl, rfl, rfl, rfl⟩ rfl rfl rfl rfl rfl (by kernel_rfl) Try.func17 closed
    (of_decide_eq_true (by kernel_rfl)) (by unfold Func.isWrapper; first | (rw [if_pos (by decide +kernel)]; kernel_rfl) | (rw [if_neg (by decide +kernel)]; exact ⟨rfl, rfl⟩))
    (fun os started H enc _ => lifted os started H enc)
theorem proved : Rows.NotifTurnsSaid := over
#print axioms proved
end Go.Proofs.Ytjolbnicboaaeaa.notifTurns
namespace Go.Proofs.Ytjolbnicboaaeaa
/-- The row, under a short name, for the claim. -/
theorem notifTurns_holds : Rows.NotifTurnsSaid := notifTurns.proved
end Go.Proofs.Ytjolbnicboaaeaa
