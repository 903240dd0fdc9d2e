/-
  The law EnterTimes: what waits ends at its deadline, not ahead of it, told so; what ended otherwise is not told again: proved for every input.
-/
import Derived.Test.YtclgdnpndlognaaGreatBC4
import Derived.Test.YtclgdnpndlognaaGreatBC3
import Derived.Test.YtclgdnpndlognaaGreatBXEnterTimes0
import Derived.WalkKit
import Derived.ProofKit
import Derived.OpenShut
import Derived.ShutString
import Derived.ChangeOld
import Derived.Below
import Derived.SizedLaws
import Derived.Carry
namespace Go.Proofs.YtclgdnpndlognaaGreat.enterTimes
open Go.ChangeShapes Go.WideShapes Go.ChangeAt Go.RowKit Go.Pse
theorem in_place : (Rows.enterTimesRow.inPlace == Tryz.prog.inPlace 13) = true := by kernel_rfl
theorem unfol : (Rows.enterTimesRow.unfollowed == Tryz.prog.unfollowed 13) = true := by kernel_rfl
theorem recu : (Rows.enterTimesRow.recurses == Tryz.prog.recurses 13) = true := by kernel_rfl
theorem nam : (Rows.enterTimesRow.named == Tryz.prog.varsNamed 13) = true := by kernel_rfl
theorem pk : (Rows.enterTimesRow.plainKeys == Tryz.prog.plainKeys) = true := pf_plain
theorem lif : (Rows.enterTimesRow.lifted == Tryz.prog.liftsFinal) = true := pf_lifts
theorem mak : (Tryz.prog.make == some Rows.enterTimesRow.make) = true := pf_make
theorem closed : joinedFacts Tryz.prog 13 Tryz.f13 Rows.enterTimesSpec Rows.enterTimesRow = true := by
  simp only [joinedFacts, Bool.and_eq_true]
  and_intros <;> first | with_reducible exact pf_laidOut | with_reducible exact pf_rowed | with_reducible exact pf_stops | with_reducible exact pf_knobs | with_reducible exact pf_heard | with_reducible exact pf_enter | with_reducible exact in_place | with_reducible exact unfol | with_reducible exact recu | with_reducible exact nam | with_reducible exact pk | with_reducible exact lif | with_reducible exact mak | kernel_rfl
set_option maxRecDepth 100000 in
theorem lifted (os : Os) (started : os.Started) (H : Type) (enc : TypeId × Value → H) :
  ReturnsInHanded {} Tryz.checked os 13 .any (Rows.enterTimesSpec.pre6 enc Tryz.prog Tryz.f13 Rows.enterTimesRow.domain false) (Rows.enterTimesSpec.post enc Tryz.prog Tryz.f13 false true false false) := by
 refine returnsInHanded_of_change_sized (C := Tryz.checked) pf_own started (by kernel_rfl) Tryz.func13
  (ChangeSpec.witness6 (enc := enc) (C := Tryz.checked) false ⟨#[], #[.slice none 0 0, .slice none 0 0], []⟩ 8 (by kernel_rfl) (by kernel_rfl) (by kernel_rfl) (by kernel_rfl)) ?_
 intro W base args ds gs before hval0 hW hcnd hsz0 _
 have hsz : (DataW.weightsEach Tryz.prog (Tryz.f13.params.toList ++ Rows.enterTimesSpec.plain.varTypes Tryz.prog) (ds ++ gs)).all (· ≤ reachBytes) = true := hsz0
 have hval : ∀ (j : Nat) t v, Tryz.f13.params[j]? = some t → args[j]? = some v → Value.okWide Tryz.prog W .any base t v := hval0
 have hW' := hW
 obtain ⟨p, q, hA0, hV, rfl, hfz, hnd⟩ := hW
 have hA : DataW.TrodAll enc Tryz.prog W 0 (fun _ => true) true Tryz.f13.params.toList args.toList ds p := hA0
 rw [Tryz.params13] at hA hval hsz
 obtain ⟨v0, vs0, d0, ds0, p0, q0, hargs, rfl, rfl, h0, r0⟩ := trodAll_cons hA
 obtain ⟨v1, vs1, d1, ds1, p1, q1, rfl, rfl, rfl, h1, r1⟩ := trodAll_cons r0
 obtain ⟨rfl, rfl, rfl⟩ := trodAll_nil r1
 obtain rfl : args = #[v0, v1] := by cases args; simp_all
 obtain ⟨rfl, rfl⟩ := trodVars_none hV
 have k0 := h0
 have lt0 : ∀ x ∈ p0, x.block < W.heap.size := by obtain ⟨m, hm⟩ := k0; exact DataW.trod_lt m _ _ _ hm
 obtain ⟨xs0, rd0, sh0⟩ := open_row (ks := [.int .i64]) (n := 5) Tryz.underlying55 (by kernel_rfl) (by kernel_rfl) (hval 0 55 v0 rfl rfl) h0
 obtain ⟨ds0, rfl, hd0⟩ := decodeRows (q := Shape [.int .i64]) (fun x hx => dec_int hx) xs0 sh0
 have k1 := h1
 have lt1 : ∀ x ∈ p1, x.block < W.heap.size := by obtain ⟨m, hm⟩ := k1; exact DataW.trod_lt m _ _ _ hm
 obtain ⟨xs1, rd1, sh1⟩ := open_row (ks := [.int .i64]) (n := 5) Tryz.underlying55 (by kernel_rfl) (by kernel_rfl) (hval 1 55 v1 rfl rfl) h1
 obtain ⟨ds1, rfl, hd1⟩ := decodeRows (q := Shape [.int .i64]) (fun x hx => dec_int hx) xs1 sh1
 clear hA0 hval0 hsz0 hsz
 refine ((enterTimes rd0 rd1) W (Sep.old_in W)).mono fun e W' ⟨_, he, hs⟩ => ?_
 have bel : Below W.heap.size W W' := hs.below .here rfl rfl rfl
 subst he
 exact ⟨_, rfl, _, _, _, [], _, [], hW', trodAll_mk1 (shut_bool Tryz.underlying4 _), (trodAll_cons_mk (Below.trod pf_laidOut (by kernel_rfl) (of_decide_eq_true (by kernel_rfl)) k0 bel lt0) (trodAll_cons_mk (Below.trod pf_laidOut (by kernel_rfl) (of_decide_eq_true (by kernel_rfl)) k1 bel lt1) trodAll_mk0)), rfl, bel.frame _, fun h => by cases h⟩
theorem over : Rows.enterTimesRow.holds Tryz.pinned (OpenSpec.ofChange Rows.enterTimesSpec) :=
  OpenClaim.holds_of_wide 13 Tryz.f13 rfl rfl rfl rfl rfl rfl rfl ⟨rfl, rfl, rfl, rfl, rfl⟩ rfl rfl rfl rfl rfl (by kernel_rfl) Tryz.func13 closed
    (of_decide_eq_true (by kernel_rfl)) (by unfold Func.isWrapper; first | (rw [if_pos (by decide +kernel)]; kernel_rfl) | (rw [if_neg (by decide +kernel)]; exact ⟨rfl, rfl⟩))
    (fun os started H enc _ => lifted os started H enc)
theorem proved : Rows.EnterTimesSaid := over
#print axioms proved
end Go.Proofs.YtclgdnpndlognaaGreat.enterTimes
namespace Go.Proofs.YtclgdnpndlognaaGreat
/-- The row, under a short name, for the claim. -/
theorem enterTimes_holds : Rows.EnterTimesSaid := enterTimes.proved
end Go.Proofs.YtclgdnpndlognaaGreat
