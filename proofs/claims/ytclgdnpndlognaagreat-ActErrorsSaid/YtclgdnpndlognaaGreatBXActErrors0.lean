/-
  Own texts, merged: C87a, C87.
-/
import Derived.Test.YtclgdnpndlognaaGreatBC5
import Derived.Test.YtclgdnpndlognaaGreatBC3
set_option linter.unusedVariables false
set_option linter.unusedSimpArgs false
namespace Go.Pse
open Go.RowKit Go.Proofs

def erL : List Sqe := [⟨2, 0, 0, 0, (atK 11), 0, 0, 0⟩, ⟨2, 0, 0, (atK 12), (atK 11), 0, 0, 0⟩, ⟨2, 0, 0, (atK 1), (atK 2), 7, 0, 0⟩, ⟨2, 0, 0, (atK 1), (atK 11), 8, 0, 0⟩, ⟨3, 0, 0, (atK 5), (atK 11), 3, 0, 0⟩, ⟨4, 0, 0, (atK 11), (atK 12), 0, 0, 0⟩, ⟨5, 0, 0, (atK 11), 0, 0, 0, 0⟩, ⟨6, 0, 0, (atK 11), 0, 0, 0, 0⟩, ⟨7, 0, 0, (atK 5), (atK 11), 3, 0, 0⟩, ⟨7, 0, 0, (atK 7), (atK 11), 3, 1, 0⟩, ⟨7, 0, 0, (atK 7), (atK 11), 1, 7, 0⟩, ⟨8, 0, 0, (atK 8), 3, 1, 0, 0⟩, ⟨8, 0, 0, (atK 5), 8, 1, 0, 0⟩, ⟨8, 0, 0, (atK 5), 3, 0, 0, 0⟩, ⟨8, 0, 0, (atK 5), 0, 1, 0, 0⟩, ⟨9, 0, 0, 0, 5, 0, 0, 0⟩, ⟨9, 0, 0, 0, 8, 0, 0, 0⟩, ⟨10, 0, 0, (atK 5), 0, 0, 0, 0⟩, ⟨13, 0, 0, (atK 8), 0, 0, 0, 0⟩, ⟨14, 0, 0, (atK 9), 0, 0, 0, 0⟩, ⟨16, 0, 0, (atK 2), 8, 0, 0, 0⟩, ⟨18, 0, 0, (atK 2), 0, 0, 0, 0⟩, ⟨20, 0, 0, 0, 77, 0, 0, 0⟩]
def erAt (k : Nat) : Sqe := erL.getD k ⟨0, 0, 0, 0, 0, 0, 0, 0⟩
def erW : List Int := [2, 4, 3, 7, 5, 4, 4, 4, 5, 7, 8, 5, 7, 7, 3, 11, 7, 5, 11, 4, 7, 11, 11]
def erWant (k : Nat) : Int := erW.getD k 0
variable {k : Nat}
theorem er_cases (hk : k < 23) : k = 0 ∨ k = 1 ∨ k = 2 ∨ k = 3 ∨ k = 4 ∨ k = 5 ∨ k = 6 ∨ k = 7 ∨ k = 8 ∨ k = 9 ∨ k = 10 ∨ k = 11 ∨ k = 12 ∨ k = 13 ∨ k = 14 ∨ k = 15 ∨ k = 16 ∨ k = 17 ∨ k = 18 ∨ k = 19 ∨ k = 20 ∨ k = 21 ∨ k = 22 := by omega
theorem er_at (hk : k < 23) : ([[.int .i64 2, .int .i64 0, .int .u32 0, .int .u32 0, .int .u32 (atK 11), .int .u32 0, .int .u32 0, .int .u32 0], [.int .i64 2, .int .i64 0, .int .u32 0, .int .u32 (atK 12), .int .u32 (atK 11), .int .u32 0, .int .u32 0, .int .u32 0], [.int .i64 2, .int .i64 0, .int .u32 0, .int .u32 (atK 1), .int .u32 (atK 2), .int .u32 7, .int .u32 0, .int .u32 0], [.int .i64 2, .int .i64 0, .int .u32 0, .int .u32 (atK 1), .int .u32 (atK 11), .int .u32 8, .int .u32 0, .int .u32 0], [.int .i64 3, .int .i64 0, .int .u32 0, .int .u32 (atK 5), .int .u32 (atK 11), .int .u32 3, .int .u32 0, .int .u32 0], [.int .i64 4, .int .i64 0, .int .u32 0, .int .u32 (atK 11), .int .u32 (atK 12), .int .u32 0, .int .u32 0, .int .u32 0], [.int .i64 5, .int .i64 0, .int .u32 0, .int .u32 (atK 11), .int .u32 0, .int .u32 0, .int .u32 0, .int .u32 0], [.int .i64 6, .int .i64 0, .int .u32 0, .int .u32 (atK 11), .int .u32 0, .int .u32 0, .int .u32 0, .int .u32 0], [.int .i64 7, .int .i64 0, .int .u32 0, .int .u32 (atK 5), .int .u32 (atK 11), .int .u32 3, .int .u32 0, .int .u32 0], [.int .i64 7, .int .i64 0, .int .u32 0, .int .u32 (atK 7), .int .u32 (atK 11), .int .u32 3, .int .u32 1, .int .u32 0], [.int .i64 7, .int .i64 0, .int .u32 0, .int .u32 (atK 7), .int .u32 (atK 11), .int .u32 1, .int .u32 7, .int .u32 0], [.int .i64 8, .int .i64 0, .int .u32 0, .int .u32 (atK 8), .int .u32 3, .int .u32 1, .int .u32 0, .int .u32 0], [.int .i64 8, .int .i64 0, .int .u32 0, .int .u32 (atK 5), .int .u32 8, .int .u32 1, .int .u32 0, .int .u32 0], [.int .i64 8, .int .i64 0, .int .u32 0, .int .u32 (atK 5), .int .u32 3, .int .u32 0, .int .u32 0, .int .u32 0], [.int .i64 8, .int .i64 0, .int .u32 0, .int .u32 (atK 5), .int .u32 0, .int .u32 1, .int .u32 0, .int .u32 0], [.int .i64 9, .int .i64 0, .int .u32 0, .int .u32 0, .int .u32 5, .int .u32 0, .int .u32 0, .int .u32 0], [.int .i64 9, .int .i64 0, .int .u32 0, .int .u32 0, .int .u32 8, .int .u32 0, .int .u32 0, .int .u32 0], [.int .i64 10, .int .i64 0, .int .u32 0, .int .u32 (atK 5), .int .u32 0, .int .u32 0, .int .u32 0, .int .u32 0], [.int .i64 13, .int .i64 0, .int .u32 0, .int .u32 (atK 8), .int .u32 0, .int .u32 0, .int .u32 0, .int .u32 0], [.int .i64 14, .int .i64 0, .int .u32 0, .int .u32 (atK 9), .int .u32 0, .int .u32 0, .int .u32 0, .int .u32 0], [.int .i64 16, .int .i64 0, .int .u32 0, .int .u32 (atK 2), .int .u32 8, .int .u32 0, .int .u32 0, .int .u32 0], [.int .i64 18, .int .i64 0, .int .u32 0, .int .u32 (atK 2), .int .u32 0, .int .u32 0, .int .u32 0, .int .u32 0], [.int .i64 20, .int .i64 0, .int .u32 0, .int .u32 0, .int .u32 77, .int .u32 0, .int .u32 0, .int .u32 0]] : List (List Value))[k]? = some [.int .i64 (erAt k).op, .int .i64 (erAt k).flags, .int .u32 (erAt k).tag, .int .u32 (erAt k).cap, .int .u32 (erAt k).a, .int .u32 (erAt k).b, .int .u32 (erAt k).c, .int .u32 (erAt k).time] := by
  rcases er_cases hk with rfl | rfl | rfl | rfl | rfl | rfl | rfl | rfl | rfl | rfl | rfl | rfl | rfl | rfl | rfl | rfl | rfl | rfl | rfl | rfl | rfl | rfl | rfl <;> rfl
theorem erW_at (hk : k < 23) : ([[.int .i64 2], [.int .i64 4], [.int .i64 3], [.int .i64 7], [.int .i64 5], [.int .i64 4], [.int .i64 4], [.int .i64 4], [.int .i64 5], [.int .i64 7], [.int .i64 8], [.int .i64 5], [.int .i64 7], [.int .i64 7], [.int .i64 3], [.int .i64 11], [.int .i64 7], [.int .i64 5], [.int .i64 11], [.int .i64 4], [.int .i64 7], [.int .i64 11], [.int .i64 11]] : List (List Value))[k]? = some [.int .i64 (erWant k)] := by
  rcases er_cases hk with rfl | rfl | rfl | rfl | rfl | rfl | rfl | rfl | rfl | rfl | rfl | rfl | rfl | rfl | rfl | rfl | rfl | rfl | rfl | rfl | rfl | rfl | rfl <;> rfl
theorem erW_in (hk : k < 23) : 2 ≤ erWant k ∧ erWant k ≤ 11 := by
  rcases er_cases hk with rfl | rfl | rfl | rfl | rfl | rfl | rfl | rfl | rfl | rfl | rfl | rfl | rfl | rfl | rfl | rfl | rfl | rfl | rfl | rfl | rfl | rfl | rfl <;> decide
theorem er_sqe (hk : k < 23) : SqeOk (erAt k) := by
  rcases er_cases hk with rfl | rfl | rfl | rfl | rfl | rfl | rfl | rfl | rfl | rfl | rfl | rfl | rfl | rfl | rfl | rfl | rfl | rfl | rfl | rfl | rfl | rfl | rfl <;> (refine ⟨?_, ?_, ?_, ?_⟩ <;> exact ⟨by decide, by decide⟩)
def erS (g : NewG) (k b : Nat) : KS := kAskS (kNew 1 6 3 4 false g) 4 (erAt k) b
def erOk (g : NewG) (k b : Nat) : Bool := chk (kNew 1 6 3 4 false g) 4 (erAt k) b (-(erWant k)) 0 true 0 && (decide (sortP ((erS g k b).sl.map Prod.fst) = sortP ((kNew 1 6 3 4 false g).sl.map Prod.fst)) && (decide (sortP ((erS g k b).mp.map Prod.fst) = sortP ((kNew 1 6 3 4 false g).mp.map Prod.fst)) && decide ((qReady (erS g k b).q).length = 1)))
set_option maxRecDepth 100000 in
theorem er_all (g : NewG) (b : Nat) : ((List.range 23).all fun k => erOk g k b) = true := by kernel_rfl
theorem er_ok (g : NewG) (hk : k < 23) (b : Nat) : erOk g k b = true := all_range (er_all g b) hk
variable {E : World}
set_option maxRecDepth 100000 in
set_option maxHeartbeats 4000000 in
theorem samePlaces {l : List As} {v u : Value} {xs : List ID} (hr : ∀ w, Sep E w l → Reads w 2 v (xs.map encI)) (hs : ∀ w, Sep E w l → Reads w 2 u (xs.map encI)) (hb : xs.length ≤ 1000000) :
  Con Tryz.prog 32 #[v, u] E l (fun _ : Unit => .bool true) (fun _ => l) := by
 refine Con.body (n := 29) Tryz.func32 Z Z _ (env_ok 2 Z) <| J_readsB hr fun hw a cap hv h1 h2 h3 => ?_
 subst hv
 refine J_readsB hs fun hw' a' cap' hv h1' h2' h3' => ?_
 subst hv
 have hm : cap ≤ 9223372036854775807 := h2
 have hm' : cap' ≤ 9223372036854775807 := h2'
 have hml : (xs.map encI).length = xs.length := List.length_map _
 refine sr <| ag Z Z <| nxx <| mv Z Z <| L_pur Z (p_len Z Tryz.underlying57) <| mv Z Z <| L_pur Z (p_len Z Tryz.underlying57) <| L_pur Z (p_neq Z Z) <| nq <| J_bool (t := 11) (c := false) Z (by simp) <| C_false Z <| J_skip <| Q_then <| J_seq <| sr <| ag Z Z <| nq <| J_block <| J_loop (α := Nat) (fun k => k ≤ xs.length) (fun _ => l) (fun k => [(5, .int .i64 (k : Int)), (0, .slice a (xs.map encI).length cap), (1, .slice a' (xs.map encI).length cap')]) (fun k => xs.length - k) 0 (by omega) SU KE ?_
 intro k hk
 refine J_seq <| sr <| mv Z Z <| mv Z Z <| L_pur Z (p_len Z Tryz.underlying57) <| L_pur Z (p_lss Z Z) <| nq <| C_dec Z (fun h15 => ?_) (fun h15 => ?_)
 have hlt : k < xs.length := by omega
 obtain ⟨bx, ox, rfl⟩ := h3 (by intro h; rw [h] at hml; simp at hml; omega)
 obtain ⟨by', oy, rfl⟩ := h3' (by intro h; rw [h] at hml; simp at hml; omega)
 obtain ⟨c, hcc⟩ : ∃ c, xs[k]? = some c := ⟨_, List.getElem?_eq_getElem hlt⟩
 refine J_skip <| Q_then <| J_seq <| J_block <| J_seq <| J_drawS mixed (by kernel_rfl) <| sm Z Z <| sm Z Z <| sp Z (p_indexAddr Z Z Tryz.underlying57 ty108 (by omega) (by omega)) <| S_val Z (v_loadR Z ty108 (fun w H => hr w (Sub.sep SU H)) (by simp only [Int.toNat_natCast, List.getElem?_map, hcc]; rfl)) ?_
 refine sm Z Z <| sm Z Z <| sp Z (p_indexAddr Z Z Tryz.underlying57 ty108 (by omega) (by omega)) <| S_val Z (v_loadR Z ty108 (fun w H => hs w (Sub.sep SU H)) (by simp only [Int.toNat_natCast, List.getElem?_map, hcc]; rfl)) ?_
 refine sp Z (p_eqv Z Z (fun w => eg108 _ _ _ _ _ w) (fun w => eqv108 _ _ _ _ w)) <| sp Z (p_assign Z) <| sq <| sr <| mv Z Z <| L_pur Z (p_not Z) <| nq <| J_bool (t := 28) (c := false) Z (by simp) <| C_false Z <| J_skip <| Q_blk_normal <| qr <| mv Z Z <| L_pur Z (p_add64 Z Z (by omega)) <| ag Z Z <| nq ?_
 exact J_again (k + 1) (by omega) (by omega) SU KE
 refine J_exit <| Q_then_exit <| Q_then_exit <| Q_blk_this <| qx <| ag Z Z <| nq <| J_ret ?_
 exact J_return (()) Tryz.results32 (.tmp Z .nil) Z SU

set_option maxRecDepth 100000 in
set_option maxHeartbeats 4000000 in
theorem samePages1 {l : List As} {v u : Value} {xs : List ID} (hr : ∀ w, Sep E w l → Reads w 2 v (xs.map encI)) (hs : ∀ w, Sep E w l → Reads w 2 u (xs.map encI)) (hb : xs.length ≤ 1000000) :
  Con Tryz.prog 33 #[v, u] E l (fun _ : Unit => .bool true) (fun _ => l) := by
 refine Con.body (n := 29) Tryz.func33 Z Z _ (env_ok 2 Z) <| J_readsB hr fun hw a cap hv h1 h2 h3 => ?_
 subst hv
 refine J_readsB hs fun hw' a' cap' hv h1' h2' h3' => ?_
 subst hv
 have hm : cap ≤ 9223372036854775807 := h2
 have hm' : cap' ≤ 9223372036854775807 := h2'
 have hml : (xs.map encI).length = xs.length := List.length_map _
 refine sr <| ag Z Z <| nxx <| mv Z Z <| L_pur Z (p_len Z Tryz.underlying61) <| mv Z Z <| L_pur Z (p_len Z Tryz.underlying61) <| L_pur Z (p_neq Z Z) <| nq <| J_bool (t := 11) (c := false) Z (by simp) <| C_false Z <| J_skip <| Q_then <| J_seq <| sr <| ag Z Z <| nq <| J_block <| J_loop (α := Nat) (fun k => k ≤ xs.length) (fun _ => l) (fun k => [(5, .int .i64 (k : Int)), (0, .slice a (xs.map encI).length cap), (1, .slice a' (xs.map encI).length cap')]) (fun k => xs.length - k) 0 (by omega) SU KE ?_
 intro k hk
 refine J_seq <| sr <| mv Z Z <| mv Z Z <| L_pur Z (p_len Z Tryz.underlying61) <| L_pur Z (p_lss Z Z) <| nq <| C_dec Z (fun h15 => ?_) (fun h15 => ?_)
 have hlt : k < xs.length := by omega
 obtain ⟨bx, ox, rfl⟩ := h3 (by intro h; rw [h] at hml; simp at hml; omega)
 obtain ⟨by', oy, rfl⟩ := h3' (by intro h; rw [h] at hml; simp at hml; omega)
 obtain ⟨c, hcc⟩ : ∃ c, xs[k]? = some c := ⟨_, List.getElem?_eq_getElem hlt⟩
 refine J_skip <| Q_then <| J_seq <| J_block <| J_seq <| J_drawS mixed (by kernel_rfl) <| sm Z Z <| sm Z Z <| sp Z (p_indexAddr Z Z Tryz.underlying61 ty199 (by omega) (by omega)) <| S_val Z (v_loadR Z ty199 (fun w H => hr w (Sub.sep SU H)) (by simp only [Int.toNat_natCast, List.getElem?_map, hcc]; rfl)) ?_
 refine sm Z Z <| sm Z Z <| sp Z (p_indexAddr Z Z Tryz.underlying61 ty199 (by omega) (by omega)) <| S_val Z (v_loadR Z ty199 (fun w H => hs w (Sub.sep SU H)) (by simp only [Int.toNat_natCast, List.getElem?_map, hcc]; rfl)) ?_
 refine sp Z (p_eqv Z Z (fun w => eg199 _ _ _ _ _ w) (fun w => eqv199 _ _ _ _ w)) <| sp Z (p_assign Z) <| sq <| sr <| mv Z Z <| L_pur Z (p_not Z) <| nq <| J_bool (t := 28) (c := false) Z (by simp) <| C_false Z <| J_skip <| Q_blk_normal <| qr <| mv Z Z <| L_pur Z (p_add64 Z Z (by omega)) <| ag Z Z <| nq ?_
 exact J_again (k + 1) (by omega) (by omega) SU KE
 refine J_exit <| Q_then_exit <| Q_then_exit <| Q_blk_this <| qx <| ag Z Z <| nq <| J_ret ?_
 exact J_return (()) Tryz.results33 (.tmp Z .nil) Z SU


set_option maxRecDepth 100000 in
set_option maxHeartbeats 4000000 in
theorem actErrors {W : World} {x : Int} :
    Con Tryz.prog 5 #[.int .i64 x] E [old W] (fun _ : Unit => .bool true) (fun _ => [old W]) := by
  refine Con.body (n := 130) Tryz.func5 Z Z _ (env_ok 1 Z) <| sr <| ag Z Z <| nx <| xo fc14 .nil Z (firstG) fun _ => ag Z Z <| nxx <| mv Z Z <| L_pur Z (p_not Z) <| nq <| J_bool (t := 15) (c := false) Z (rfl) <| C_false Z <| J_skip <| qx <| xo fc24 (A1 Z) Z (alone1) fun g => ?_
  have W0 := well1 g
  obtain ⟨K, hK⟩ : ∃ K, K = kNew 1 6 3 4 false g := ⟨_, rfl⟩
  refine J_pick (A := coA g.p _) PC <| J_asTo (B := coA g.p K) (by rw [hK]) ?_
  rw [← hK] at W0
  refine ag Z Z <| nxx <| mv Z Z <| L_pur Z (p_eqNilPtr Tryz.underlying24 Z) <| nq <| J_bool (t := 18) (c := false) Z (rfl) <| C_false Z <| J_skip <| qx <| xo fc26 (A1 Z) Z (slotC (k := 11) (by omega)) fun _ => L_pur Z (bld34 (.cons Z (.cons Z (.cons Z .nil))) (by repeat constructor)) <| xo fc26 (A1 Z) Z (slotC (k := 12) (by omega)) fun _ => xo fc26 (A1 Z) Z (slotC (k := 11) (by omega)) fun _ => L_pur Z (bld34 (.cons Z (.cons Z (.cons Z .nil))) (by repeat constructor)) <| xo fc26 (A1 Z) Z (slotC (k := 1) (by omega)) fun _ => xo fc26 (A1 Z) Z (slotC (k := 2) (by omega)) fun _ => L_pur Z (bld34 (.cons Z (.cons Z (.cons Z (.cons Z .nil)))) (by repeat constructor)) <| xo fc26 (A1 Z) Z (slotC (k := 1) (by omega)) fun _ => ?_
  refine xo fc26 (A1 Z) Z (slotC (k := 11) (by omega)) fun _ => L_pur Z (bld34 (.cons Z (.cons Z (.cons Z (.cons Z .nil)))) (by repeat constructor)) <| xo fc26 (A1 Z) Z (slotC (k := 5) (by omega)) fun _ => xo fc26 (A1 Z) Z (slotC (k := 11) (by omega)) fun _ => L_pur Z (bld34 (.cons Z (.cons Z (.cons Z (.cons Z .nil)))) (by repeat constructor)) <| xo fc26 (A1 Z) Z (slotC (k := 11) (by omega)) fun _ => xo fc26 (A1 Z) Z (slotC (k := 12) (by omega)) fun _ => L_pur Z (bld34 (.cons Z (.cons Z (.cons Z .nil))) (by repeat constructor)) <| xo fc26 (A1 Z) Z (slotC (k := 11) (by omega)) fun _ => L_pur Z (bld34 (.cons Z (.cons Z .nil)) (by repeat constructor)) ?_
  refine xo fc26 (A1 Z) Z (slotC (k := 11) (by omega)) fun _ => L_pur Z (bld34 (.cons Z (.cons Z .nil)) (by repeat constructor)) <| xo fc26 (A1 Z) Z (slotC (k := 5) (by omega)) fun _ => xo fc26 (A1 Z) Z (slotC (k := 11) (by omega)) fun _ => L_pur Z (bld34 (.cons Z (.cons Z (.cons Z (.cons Z .nil)))) (by repeat constructor)) <| xo fc26 (A1 Z) Z (slotC (k := 7) (by omega)) fun _ => xo fc26 (A1 Z) Z (slotC (k := 11) (by omega)) fun _ => L_pur Z (bld34 (.cons Z (.cons Z (.cons Z (.cons Z (.cons Z .nil))))) (by repeat constructor)) <| xo fc26 (A1 Z) Z (slotC (k := 7) (by omega)) fun _ => xo fc26 (A1 Z) Z (slotC (k := 11) (by omega)) fun _ => ?_
  refine L_pur Z (bld34 (.cons Z (.cons Z (.cons Z (.cons Z (.cons Z .nil))))) (by repeat constructor)) <| xo fc26 (A1 Z) Z (slotC (k := 8) (by omega)) fun _ => L_pur Z (bld34 (.cons Z (.cons Z (.cons Z (.cons Z .nil)))) (by repeat constructor)) <| xo fc26 (A1 Z) Z (slotC (k := 5) (by omega)) fun _ => L_pur Z (bld34 (.cons Z (.cons Z (.cons Z (.cons Z .nil)))) (by repeat constructor)) <| xo fc26 (A1 Z) Z (slotC (k := 5) (by omega)) fun _ => L_pur Z (bld34 (.cons Z (.cons Z (.cons Z (.cons Z .nil)))) (by repeat constructor)) <| xo fc26 (A1 Z) Z (slotC (k := 5) (by omega)) fun _ => L_pur Z (bld34 (.cons Z (.cons Z (.cons Z (.cons Z .nil)))) (by repeat constructor)) <| L_pur Z (bld34 (.cons Z (.cons Z .nil)) (by repeat constructor)) <| L_pur Z (bld34 (.cons Z (.cons Z .nil)) (by repeat constructor)) <| xo fc26 (A1 Z) Z (slotC (k := 5) (by omega)) fun _ => ?_
  refine L_pur Z (bld34 (.cons Z (.cons Z .nil)) (by repeat constructor)) <| xo fc26 (A1 Z) Z (slotC (k := 8) (by omega)) fun _ => L_pur Z (bld34 (.cons Z (.cons Z .nil)) (by repeat constructor)) <| xo fc26 (A1 Z) Z (slotC (k := 9) (by omega)) fun _ => L_pur Z (bld34 (.cons Z (.cons Z .nil)) (by repeat constructor)) <| xo fc26 (A1 Z) Z (slotC (k := 2) (by omega)) fun _ => ?_
  refine L_pur Z (bld34 (.cons Z (.cons Z (.cons Z .nil))) (by repeat constructor)) <| xo fc26 (A1 Z) Z (slotC (k := 2) (by omega)) fun _ => L_pur Z (bld34 (.cons Z (.cons Z .nil)) (by repeat constructor)) <| L_pur Z (bld34 (.cons Z (.cons Z .nil)) (by repeat constructor)) <| L_op <| x_lit (vals := [_, _, _, _, _, _, _, _, _, _, _, _, _, _, _, _, _, _, _, _, _, _, _]) Tryz.underlying54 ty34 Z (.cons Z (.cons Z (.cons Z (.cons Z (.cons Z (.cons Z (.cons Z (.cons Z (.cons Z (.cons Z (.cons Z (.cons Z (.cons Z (.cons Z (.cons Z (.cons Z (.cons Z (.cons Z (.cons Z (.cons Z (.cons Z (.cons Z (.cons Z .nil))))))))))))))))))))))) (.agg (.agg (.agg (.agg (.agg (.agg (.agg (.agg (.agg (.agg (.agg (.agg (.agg (.agg (.agg (.agg (.agg (.agg (.agg (.agg (.agg (.agg (.agg .nil))))))))))))))))))))))) (Wf.cons Z Z (Wf.cons Z Z (Wf.cons Z Z (Wf.cons Z Z (Wf.cons Z Z (Wf.cons Z Z (Wf.cons Z Z (Wf.cons Z Z (Wf.cons Z Z (Wf.cons Z Z (Wf.cons Z Z (Wf.cons Z Z (Wf.cons Z Z (Wf.cons Z Z (Wf.cons Z Z (Wf.cons Z Z (Wf.cons Z Z (Wf.cons Z Z (Wf.cons Z Z (Wf.cons Z Z (Wf.cons Z Z (Wf.cons Z Z (Wf.cons Z Z Wf.nil))))))))))))))))))))))) Z (by decide) Z Z <| JR fun a70 c70 hw70 hl70 hm70 hz70 => ?_
  obtain ⟨bx, ox, rfl⟩ := hz70 (by simp)
  refine ag Z Z <| nx <| L_op <| x_lit (vals := [_, _, _, _, _, _, _, _, _, _, _, _, _, _, _, _, _, _, _, _, _, _, _]) Tryz.underlying55 ty3 Z (.cons Z (.cons Z (.cons Z (.cons Z (.cons Z (.cons Z (.cons Z (.cons Z (.cons Z (.cons Z (.cons Z (.cons Z (.cons Z (.cons Z (.cons Z (.cons Z (.cons Z (.cons Z (.cons Z (.cons Z (.cons Z (.cons Z (.cons Z .nil))))))))))))))))))))))) (.one Z (.one Z (.one Z (.one Z (.one Z (.one Z (.one Z (.one Z (.one Z (.one Z (.one Z (.one Z (.one Z (.one Z (.one Z (.one Z (.one Z (.one Z (.one Z (.one Z (.one Z (.one Z (.one Z .nil))))))))))))))))))))))) (Wf.cons Z Z (Wf.cons Z Z (Wf.cons Z Z (Wf.cons Z Z (Wf.cons Z Z (Wf.cons Z Z (Wf.cons Z Z (Wf.cons Z Z (Wf.cons Z Z (Wf.cons Z Z (Wf.cons Z Z (Wf.cons Z Z (Wf.cons Z Z (Wf.cons Z Z (Wf.cons Z Z (Wf.cons Z Z (Wf.cons Z Z (Wf.cons Z Z (Wf.cons Z Z (Wf.cons Z Z (Wf.cons Z Z (Wf.cons Z Z (Wf.cons Z Z Wf.nil))))))))))))))))))))))) Z (by decide) Z Z <| JR fun a71 c71 hw71 hl71 hm71 hz71 => ?_
  obtain ⟨by_, oy, rfl⟩ := hz71 (by simp)
  refine ag Z Z <| nx <| mv Z Z <| mv Z Z <| L_pur Z (p_len Z Tryz.underlying54) <| J_slot (t := 74) (v := .int .i64 23) Z Z <| xo fc27 (A2 Z Z) Z (number (by omega) (by omega)) fun _ => ?_
  obtain ⟨k, hk0⟩ : ∃ k, k = num x (23 : Nat) := ⟨_, rfl⟩
  have hk : k < 23 := by rw [hk0]; exact num_lt' (by omega)
  refine J_slot (t := 75) (v := .int .i64 (k : Int)) Z (by rw [hk0]; rfl) <| ag Z Z <| nx <| mv Z Z <| xo fc28 (A1 Z) Z (coSlots) fun _ => xo fc29 (A1 Z) Z (coSlAll (s := K) PC (by have := W0.sl; omega)) <| JE (((sortP (K.sl.map Prod.fst)).map encI)) (by rfl) fun a78 c78 hw78 hl78 hm78 hz78 => ag Z Z <| nx <| mv Z Z <| xo fc30 (A1 Z) Z (coMaps) fun _ => xo fc31 (A1 Z) Z (coSpAll (s := K) PC (by have := W0.mp; omega)) <| JE (((sortP (K.mp.map Prod.fst)).map encI)) (by rfl) fun a81 c81 hw81 hl81 hm81 hz81 => ag Z Z <| nx <| mv Z Z <| mv Z Z <| mv Z Z <| L_pur Z (p_indexAddr Z Z Tryz.underlying54 ty34 (by omega) (by simp; omega)) <| L_val Z (v_loadE Z ty34 HS (er_at hk)) ?_
  refine J_slot (t := 87) (v := .agg #[.int .i64 (erAt k).op, .int .i64 (erAt k).flags, .int .u32 (erAt k).tag, .int .u32 (erAt k).cap, .int .u32 (erAt k).a, .int .u32 (erAt k).b, .int .u32 (erAt k).c, .int .u32 (erAt k).time]) Z Z ?_
  have F := fun b => er_ok g hk b
  unfold erOk at F
  simp only [Bool.and_eq_true, decide_eq_true_eq] at F
  rw [← hK] at F
  have hwk := erW_in hk
  refine L_op (xc fc25 (A3 Z Z Z) Z (coAskG (s := K) (g := 4) (e := (erAt k)) (N := 40) (M := 60) PC W0 (by omega) (by omega) (er_sqe hk) (tk_is (chk_is ((fun b => (F b).1) 0)).1 (by omega)) (chk_is ((fun b => (F b).1) 0)).2.1 (fun q T hq hG hE => by
      rcases er_cases hk with rfl | rfl | rfl | rfl | rfl | rfl | rfl | rfl | rfl | rfl | rfl | rfl | rfl | rfl | rfl | rfl | rfl | rfl | rfl | rfl | rfl | rfl | rfl
      · exact doesC2 hG hE (by rw [hq]; rfl)
      · exact doesC2 hG hE (by rw [hq]; rfl)
      · exact doesC2 hG hE (by rw [hq]; rfl)
      · exact doesC2 hG hE (by rw [hq]; rfl)
      · exact doesC3 hG hE (by rw [hq]; rfl)
      · exact doesC4 hG hE (by rw [hq]; rfl)
      · exact doesC5 hG hE (by rw [hq]; rfl)
      · exact doesC6 hG hE (by rw [hq]; rfl)
      · exact doesC7 hG hE (by rw [hq]; rfl)
      · exact doesC7 hG hE (by rw [hq]; rfl)
      · exact doesC7 hG hE (by rw [hq]; rfl)
      · exact doesC8 hG hE (by rw [hq]; rfl)
      · exact doesC8 hG hE (by rw [hq]; rfl)
      · exact doesC8 hG hE (by rw [hq]; rfl)
      · exact doesC8 hG hE (by rw [hq]; rfl)
      · exact doesC9 hG hE (by rw [hq]; rfl)
      · exact doesC9 hG hE (by rw [hq]; rfl)
      · exact doesC10 hG hE (by rw [hq]; rfl)
      · exact doesC13 hG hE (by rw [hq]; rfl)
      · exact doesC14 hG hE (by rw [hq]; rfl)
      · exact doesC16 hG hE (by rw [hq]; rfl)
      · exact doesC18 hG hE (by rw [hq]; rfl)
      · exact doesC20 hG hE (by rw [hq]; rfl))) fun b1 => ?_)
  refine J_slot (t := 88) (v := .tuple #[.int .i64 (-(erWant k)), .int .u32 0, .bool true]) Z (by rw [(chk_is ((fun b => (F b).1) b1)).2.2]) ?_
  obtain ⟨S1, hS1⟩ : ∃ S : KS, S = (erS g k b1) := ⟨_, rfl⟩
  refine J_pick (A := coA g.p _) PC <| J_asTo (B := coA g.p S1) (by rw [hS1, hK]; rfl) ?_
  have W1 : Well S1 (40 + 1) (60 + 1) := by
    have h := W0.ask (by omega) (by omega) 4 (er_sqe hk) b1 (e := (erAt k))
    rw [hK] at h
    rw [hS1]; exact h
  obtain ⟨_, hpl, hpg, hrd⟩ := F b1
  rw [← hS1] at hpl hpg hrd
  clear F
  refine mv Z Z <| L_pur Z (p_extract Z Z) <| L_pur Z (p_extract Z Z) <| L_pur Z (p_extract Z Z) <| ag Z Z <| ag Z Z <| ag Z Z <| nx <| mv Z Z <| mv Z Z <| J_bool (t := 93) (c := true) Z (rfl) <| gp Z Z Z (p_move Z) Z <| L_pur Z (p_pick_t Z Z) <| mv Z Z <| J_bool (t := 96) (c := true) Z (rfl) <| gp Z Z Z (p_move Z) Z <| gp Z Z Z (p_move Z) Z <| L_op <| G_on Z Z Z <| J_pur (p_move Z) Z Z Z <| gp Z Z Z (p_indexAddr Z Z Tryz.underlying55 ty3 (by omega) (by simp; omega)) Z <| L_op <| G_on Z Z Z <| J_val (v_loadE1 Z ty3 HS (erW_at hk)) Z Z Z <| J_slot (t := 101) (v := .int .i64 (erWant k)) Z Z <| gp Z Z Z (p_neg64 Z (by omega)) Z <| J_slot (t := 102) (v := .int .i64 (-(erWant k))) Z Z <| gp Z Z Z (p_eql Z Z) Z ?_
  refine L_pur Z (p_pick_t Z Z) <| J_slot (t := 104) (v := .bool true) Z (by first | rfl | (congr 1; simp; done) | (simp; done)) <| mv Z Z <| J_bool (t := 105) (c := true) Z (rfl) <| gp Z Z Z (p_move Z) Z <| L_op <| G_on Z Z Z <| J_pur (p_eql Z Z) Z Z Z <| L_pur Z (p_pick_t Z Z) <| J_slot (t := 108) (v := .bool true) Z (by first | rfl | (congr 1; simp; done) | (simp; done)) <| mv Z Z <| J_bool (t := 109) (c := true) Z (rfl) <| gp Z Z Z (p_move Z) Z <| gp Z Z Z (p_move Z) Z <| L_op <| G_on Z Z Z <| xc fc28 (A1 Z) Z (coSlots) fun _ => L_op <| G_on Z Z Z ?_
  refine xc fc29 (A1 Z) Z (coSlAll (s := S1) PC (by have := W1.sl; omega)) <| JE (((sortP (K.sl.map Prod.fst)).map encI)) (by rw [hpl]) fun a113 c113 hw113 hl113 hm113 hz113 => L_op <| G_on Z Z Z <| xc fc32 (A2 Z Z) Z (samePlaces (xs := sortP (K.sl.map Prod.fst)) (fun w H => sep_reads (xs := ((sortP (K.sl.map Prod.fst)).map encI)) HS H) (fun w H => sep_reads (xs := ((sortP (K.sl.map Prod.fst)).map encI)) HS H) (by rw [sortP_len, List.length_map]; have := W0.sl; omega)) fun _ => L_pur Z (p_pick_t Z Z) <| mv Z Z <| J_bool (t := 116) (c := true) Z (rfl) <| gp Z Z Z (p_move Z) Z <| L_op <| G_on Z Z Z <| J_pur (p_move Z) Z Z Z <| L_op <| G_on Z Z Z <| xc fc30 (A1 Z) Z (coMaps) fun _ => L_op <| G_on Z Z Z <| xc fc31 (A1 Z) Z (coSpAll (s := S1) PC (by have := W1.mp; omega)) <| JE (((sortP (K.mp.map Prod.fst)).map encI)) (by rw [hpg]) fun a120 c120 hw120 hl120 hm120 hz120 => ?_
  refine L_op <| G_on Z Z Z <| xc fc33 (A2 Z Z) Z (samePages1 (xs := sortP (K.mp.map Prod.fst)) (fun w H => sep_reads (xs := ((sortP (K.mp.map Prod.fst)).map encI)) HS H) (fun w H => sep_reads (xs := ((sortP (K.mp.map Prod.fst)).map encI)) HS H) (by rw [sortP_len, List.length_map]; have := W0.mp; omega)) fun _ => L_pur Z (p_pick_t Z Z) <| mv Z Z <| J_bool (t := 123) (c := true) Z (rfl) <| gp Z Z Z (p_move Z) Z <| L_op <| G_on Z Z Z <| xc fc34 (A1 Z) Z (coQueue) fun _ => L_op <| G_on Z Z Z <| xc fc35 (A1 Z) Z (coReady (s := S1) PC (by have := W1.q; omega)) <| JR fun a126 c126 hw126 hl126 hm126 hz126 => gp Z Z Z (p_len Z Tryz.underlying55) Z ?_
  refine J_slot (t := 127) (v := .int .i64 1) Z (by rw [List.length_map, hrd]; rfl) <| gp Z Z Z (p_eql Z Z) Z <| L_pur Z (p_pick_t Z Z) <| J_slot (t := 129) (v := .bool true) Z (by first | rfl | (congr 1; simp; done) | (simp; done)) <| ag Z Z <| nq <| J_ret <| J_return (()) Tryz.results5 (.tmp Z .nil) ?_ ?_
  · first | rfl | simp [one]
  · exact SU

end Go.Pse
