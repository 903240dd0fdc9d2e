/-
  Own texts, merged: C26, C27, Arg, C28, C29, C30, C31, C32, C33, C34, InvP, C50, C14, C51, C52, C53, C60, C61, C62.
-/
import Derived.Test.YtclgdnpndlognaaGreatBC2
import Derived.Test.YtclgdnpndlognaaGreatBC0
import Derived.Deep.Slices
import Derived.ChangeSame
import Derived.Carry
set_option linter.unusedVariables false
set_option linter.unusedSimpArgs false
set_option maxRecDepth 100000
set_option maxHeartbeats 4000000
namespace Go.Pse
open Go.RowKit Go.Proofs
/-! ### plain: an end is told; a request ends -/
def kBell (s : KS) (g : Int) : Int × Int := (look s.be g).getD (0, 0)
def kPost (s : KS) (d : Deed) : KS := match look s.rg d.1.1 with
  | none => s
  | some (_, r) => { s with rg := updO s.rg d.1.1 (fun r => postR r s.mem (ofD d)), mem := postM r s.mem (ofD d) }
def kSaid (s : KS) (d : Deed) : KS := kPost { s with jn := s.jn ++ [d] } d
def kRung (s : KS) (g : Int) : KS := { s with nt := updO s.nt (kBell s g).1 (ntS (kBell s g).2) }
def kTell (D : KS → ID → Int → Int → KS) (s : KS) (d : Deed) : KS := match look (kSaid s d).nt (kBell (kSaid s d) d.1.1).1 with
  | none => kSaid s d
  | some (_, w, xs) => if woke w xs (kBell (kSaid s d) d.1.1).2 then D (kRung (kSaid s d) d.1.1) (sigI w xs (kBell (kSaid s d) d.1.1).2) 0 (sigV w xs (kBell (kSaid s d) d.1.1).2) else kRung (kSaid s d) d.1.1
def kDec : Nat → KS → ID → Int → Int → KS
  | 0, s, _, _, _ => s
  | n + 1, s, i, r, v => match look s.rt i with
    | none => s
    | some q => match afterQ (kTell (kDec n) (kForget { s with rt := del s.rt i } i) (i, q.e.tag, q.e.op, r, v, false)).rt i with
      | none => kTell (kDec n) (kForget { s with rt := del s.rt i } i) (i, q.e.tag, q.e.op, r, v, false)
      | some x => if x.soft = true ∧ r < 0 then kDec n (kTell (kDec n) (kForget { s with rt := del s.rt i } i) (i, q.e.tag, q.e.op, r, v, false)) x.id (-9) 0 else kTell (kDec n) (kForget { s with rt := del s.rt i } i) (i, q.e.tag, q.e.op, r, v, false)
variable {n : Nat} {s : KS} {i : ID} {v : Int}
theorem kDec_none {r : Int} (h : look s.rt i = none) : kDec n s i r v = s := by
  cases n with
  | zero => rfl
  | succ n => rw [kDec, h]
variable {d : Deed}
theorem kPost_rt : (kPost s d).rt = s.rt := by unfold kPost; split <;> rfl
theorem kSaid_rt : (kSaid s d).rt = s.rt := by unfold kSaid; rw [kPost_rt]
variable {N M : Nat}
theorem Fits.said (h : Fits s N M) (hm : M + 1 ≤ 90000) (d : Deed) : Fits (kSaid s d) N (M + 1) := by
  unfold kSaid kPost
  split
  · exact h.jnl hm d
  · rename_i b r hl
    have hr := h.rg _ (mem_look hl)
    refine ⟨h.n, hm, h.ids, ?_, h.tm, h.ep, h.nt, h.rp, fun x hx => ?_, postM_ok hr.1 h.mem _⟩
    · have := h.jn
      show (s.jn ++ [d]).length + s.rt.length ≤ M + 1
      simp; omega
    · obtain ⟨y, hy, h1, h2⟩ := updO_mem (show x ∈ updO s.rg d.1.1 (fun r => postR r s.mem (ofD d)) from hx)
      obtain ⟨g1, g2⟩ := h.rg y hy
      rcases h2 with h2 | h2 <;> rw [h2]
      · exact ⟨g1, by show _ + s.rt.length ≤ _; omega⟩
      · refine ⟨postR_ok g1 _, ?_⟩
        have : (postR y.2.2 s.mem (ofD d)).over.length ≤ y.2.2.over.length + 1 := by unfold postR; split <;> simp [Go.Pse.rgUp]
        show _ + s.rt.length ≤ _
        omega
theorem Fits.tell {D : KS → ID → Int → Int → KS} (hD : ∀ s i r v, Fits s N (M + 1) → Fits (D s i r v) N (M + 1) ∧ (D s i r v).rt.length ≤ s.rt.length) (h : Fits s N M) (hm : M + 1 ≤ 90000) (d : Deed) : Fits (kTell D s d) N (M + 1) ∧ (kTell D s d).rt.length ≤ s.rt.length := by
  have h1 := h.said hm d
  unfold kTell
  split
  · exact ⟨h1, by rw [kSaid_rt]; exact Nat.le_refl _⟩
  · split
    · exact ⟨(hD _ _ _ _ (h1.sig _ _)).1, Nat.le_trans (hD _ _ _ _ (h1.sig _ _)).2 (by show (kSaid s d).rt.length ≤ _; rw [kSaid_rt]; exact Nat.le_refl _)⟩
    · exact ⟨h1.sig _ _, by show (kSaid s d).rt.length ≤ _; rw [kSaid_rt]; exact Nat.le_refl _⟩
theorem Fits.dec {N : Nat} : ∀ n {M : Nat} {s : KS} {i : ID} {r v : Int}, Fits s N M → Fits (kDec n s i r v) N M ∧ (kDec n s i r v).rt.length ≤ s.rt.length
  | 0, _, _, _, _, _, h => ⟨h, Nat.le_refl _⟩
  | n + 1, M, s, i, r, v, h => by
    rw [kDec]
    split
    · exact ⟨h, Nat.le_refl _⟩
    · rename_i q hq
      have hl := del_less hq
      obtain ⟨M, rfl⟩ : ∃ M', M = M' + 1 := ⟨M - 1, by have := h.jn; omega⟩
      have h1 := ((h.drop hq).forget i).tell (D := kDec n) (fun s i r v h => Fits.dec n h) h.mm (i, q.e.tag, q.e.op, r, v, false)
      have h2 : (kTell (kDec n) (kForget { s with rt := del s.rt i } i) (i, q.e.tag, q.e.op, r, v, false)).rt.length ≤ s.rt.length := Nat.le_trans h1.2 (by show (del s.rt i).length ≤ _; omega)
      split
      · exact ⟨h1.1, h2⟩
      · split
        · exact ⟨(Fits.dec n h1.1).1, Nat.le_trans (Fits.dec n h1.1).2 h2⟩
        · exact ⟨h1.1, h2⟩
def DecC (n N M : Nat) : Prop := ∀ (E : World) (l m : List As) (p : Nat) (s : KS) (i : ID) (r v : Int), Pick (coA p s) l m → s.rt.length ≤ n → Fits s N M →
  Con Tryz.prog 72 #[.pointer (some ⟨p, 0, none⟩), .agg (encI i).toArray, .int .i64 r, .int .u32 v] E l (fun _ : Unit => .bool (look s.rt i).isSome) (fun _ => coA p (kDec n s i r v) :: m)
variable {E : World} {l m : List As} {p : Nat}
theorem coTell (hp : Pick (coA p s) l m) (hD : DecC n N (M + 1)) (hn : s.rt.length ≤ n) (hF : Fits s N M) (hm : M + 1 ≤ 90000) :
  Con Tryz.prog 121 #[.pointer (some ⟨p, 0, none⟩), .agg (encD d).toArray] E l (fun _ : Unit => .tuple #[]) (fun _ => coA p (kTell (kDec n) s d) :: m) := by
 refine Con.body (n := 51) Tryz.func121 Z Z _ (env_ok 2 Z) <| J_pick hp <| sr <| L_op <| x_box Z Z Z fun b3 => nq <| J_seq <| J_drawL (some 3) mixed <| ip 0 Z Z Z Z (p_move Z) <| iv 2 Z Z Z Z (fun _ => v_loadA Z ty45 HS CT) <| i1 1 Z <| xc fc17 (A1 Z) Z (coJournal) fun _ => i1 3 Z <| xc fc174 (A2 Z Z) Z (coJAdd (s := s) (d := d) PC (by have := hF.jn; omega)) fun _ => i0 <| Q_then <| J_cut (α := Unit) (fun _ : Unit => coA p (kSaid s d) :: blk b3 45 (encD d) :: m) (fun _ : Unit => [(0, .pointer (some ⟨p, 0, none⟩)), (3, .pointer (some ⟨b3, 0, none⟩))]) ?_ ?_
 refine sr <| mv Z Z <| fa Z Z fa45_0 <| fa Z Z fa36_0 <| L_val Z (v_load Z ty3 HS (by exact rfl)) <| xo fc43 (A2 Z Z) Z (coRing (s := { s with jn := s.jn ++ [d] }) (u := d.1.1) PC) fun _ => J_slot (t := 19) (v := .pointer ((look (ptrs s.rg) d.1.1).map fun b => ⟨b, 0, none⟩)) Z Z <| ag Z Z <| nx <| mv Z Z <| L_pur Z (p_neNilPtr Tryz.underlying80 Z) <| nq <| C_split Z (fun h21 => ?_) (fun h21 => ?_)
 obtain ⟨b, hb⟩ : ∃ b, look (ptrs s.rg) d.1.1 = some b := by
  cases hq : look (ptrs s.rg) d.1.1 with
  | none => rw [hq] at h21; simp at h21
  | some b => exact ⟨b, rfl⟩
 obtain ⟨r, hr⟩ := look_got hb
 obtain ⟨hro, hrl⟩ : RgOk r ∧ r.over.length + s.rt.length ≤ M := hF.rg _ (mem_look hr)
 refine J_region <| mv Z Z <| J_slot (t := 22) (v := .pointer (some ⟨b, 0, none⟩)) Z (by rw [hb]; rfl) <| L_val Z (v_loadA Z ty45 HS CT) <| xo fc176 (A1 Z) Z (compOfC (d := d)) fun _ => xo fc175 (A2 Z Z) Z (coPost (s := { s with jn := s.jn ++ [d] }) (u := d.1.1) (r := r) (c := ofD d) PC hr (by omega) hro hF.mem) fun _ => nq <| J_pick (A := coA p _) PC <| J_asTo (B := coA p (kSaid s d)) (by unfold kSaid kPost; rw [show look (KS.rg { s with jn := s.jn ++ [d] }) d.1.1 = _ from hr]) ?_
 exact J_at () SU KE
 have hrn : look s.rg d.1.1 = none := by
  cases hq : look s.rg d.1.1 with
  | none => rfl
  | some y => rw [look_ptrs, hq] at h21; simp at h21
 refine J_skip <| Q_then <| J_pick (A := coA p _) PC <| J_asTo (B := coA p (kSaid s d)) (by unfold kSaid kPost; rw [show look (KS.rg { s with jn := s.jn ++ [d] }) d.1.1 = _ from hrn]) ?_
 exact J_at () SU KE
 intro _
 have hF2 := hF.said hm d
 refine sr <| mv Z Z <| fa Z Z fa45_0 <| fa Z Z fa36_0 <| L_val Z (v_load Z ty3 HS (by exact rfl)) <| xo fc177 (A2 Z Z) Z (coBell (s := kSaid s d) (u := d.1.1) PC) fun _ => J_slot (t := 31) (v := .tuple #[.int .i64 (kBell (kSaid s d) d.1.1).1, .int .u32 (kBell (kSaid s d) d.1.1).2]) Z Z <| mv Z Z <| L_pur Z (p_extract Z Z) <| L_pur Z (p_extract Z Z) <| ag Z Z <| ag Z Z <| nx <| mv Z Z <| mv Z Z <| xo fc170 (A2 Z Z) Z (coNotif (s := kSaid s d) (u := (kBell (kSaid s d) d.1.1).1) PC) fun _ => J_slot (t := 36) (v := .pointer ((look (ptrs (kSaid s d).nt) (kBell (kSaid s d) d.1.1).1).map fun b => ⟨b, 0, none⟩)) Z Z <| ag Z Z <| nx <| mv Z Z <| L_pur Z (p_neNilPtr Tryz.underlying223 Z) <| nq <| C_split Z (fun h38 => ?_) (fun h38 => ?_)
 obtain ⟨b, hb⟩ : ∃ b, look (ptrs (kSaid s d).nt) (kBell (kSaid s d) d.1.1).1 = some b := by
  cases hq : look (ptrs (kSaid s d).nt) (kBell (kSaid s d) d.1.1).1 with
  | none => rw [hq] at h38; simp at h38
  | some b => exact ⟨b, rfl⟩
 obtain ⟨⟨w0, xs⟩, hob⟩ := look_got hb
 have hxl : xs.length ≤ N := (hF2.nt _ (mem_look hob)).2
 have hNN := hF.n
 refine sr <| mv Z Z <| J_slot (t := 40) (v := .pointer (some ⟨b, 0, none⟩)) Z (by rw [hb]; rfl) <| mv Z Z <| xo fc178 (A2 Z Z) Z (coNtSignal (s := kSaid s d) (u := (kBell (kSaid s d) d.1.1).1) (z := (kBell (kSaid s d) d.1.1).2) PC hob (by omega)) fun _ => J_pick (A := coA p _) PC <| J_asTo (B := coA p (kRung (kSaid s d) d.1.1)) (by rfl) <| mv Z Z <| L_pur Z (p_extract Z Z) <| L_pur Z (p_extract Z Z) <| L_pur Z (p_extract Z Z) <| L_op <| x_alloc ty36 Z fun b8 => L_op <| x_store Z Z ty36 Z SM SM RO PT <| ag Z Z <| ag Z Z <| nx <| mv Z Z <| nq <| C_split Z (fun h46 => ?_) (fun h46 => ?_)
 refine J_region <| mv Z Z <| L_val Z (v_loadA Z ty36 HS CT) <| mv Z Z <| xo fc72 (A4 Z Z Z Z) Z (hD _ _ _ p (kRung (kSaid s d) d.1.1) (sigI w0 xs (kBell (kSaid s d) d.1.1).2) 0 (sigV w0 xs (kBell (kSaid s d) d.1.1).2) PC (by show (kSaid s d).rt.length ≤ n; rw [kSaid_rt]; exact hn) (hF2.sig _ _)) fun _ => L_nil <| J_endnormal <| J_pick (A := coA p _) PC <| J_asTo (B := coA p (kTell (kDec n) s d)) (by unfold kTell; rw [hob]; simp only [h46, if_true]) ?_
 exact J_return (()) Tryz.results121 .nil Z SU
 refine J_skip <| J_endnormal <| J_pick (A := coA p _) PC <| J_asTo (B := coA p (kTell (kDec n) s d)) (by unfold kTell; rw [hob]; simp only [h46]; rfl) ?_
 exact J_return (()) Tryz.results121 .nil Z SU
 have hno : look (kSaid s d).nt (kBell (kSaid s d) d.1.1).1 = none := by
  cases hq : look (kSaid s d).nt (kBell (kSaid s d) d.1.1).1 with
  | none => rfl
  | some y => rw [look_ptrs, hq] at h38; simp at h38
 refine J_skip <| J_endnormal <| J_pick (A := coA p _) PC <| J_asTo (B := coA p (kTell (kDec n) s d)) (by unfold kTell; rw [hno]) ?_
 exact J_return (()) Tryz.results121 .nil Z SU
theorem coDecStep (hp : Pick (coA p s) l m) (hD : ∀ k, n = k + 1 → DecC k N M) {r : Int} (hn : s.rt.length ≤ n) (hF : Fits s N M) :
  Con Tryz.prog 72 #[.pointer (some ⟨p, 0, none⟩), .agg (encI i).toArray, .int .i64 r, .int .u32 v] E l (fun _ : Unit => .bool (look s.rt i).isSome) (fun _ => coA p (kDec n s i r v) :: m) := by
 rcases hq : look s.rt i with _ | q
 ·
  refine Con.body (n := 61) Tryz.func72 Z Z _ (env_ok 4 Z) <| J_pick hp <| sr <| L_op <| x_box Z Z Z fun b5 => ag Z Z <| nq <| J_seq <| J_drawL none mixed <| ip 0 Z Z Z Z (p_move Z) <| iv 2 Z Z Z Z (fun _ => v_loadA Z ty36 HS CT) <| I_ready (rs := [1, 7]) SI (by kernel_rfl) (by simp) <| (I_cons Z ?_ (I_cons Z ?_ I_nil))
  refine xc fc16 (A1 Z) Z (coReqs) fun _ => I_ready (rs := [3, 7]) SI (by kernel_rfl) (by simp) <| (I_cons Z ?_ (I_cons Z ?_ I_nil))
  refine xc fc69 (A2 Z Z) Z (coRqGet (s := s) (i := i) PC) fun _ => ip 4 Z Z Z Z (p_move Z) <| ip 5 Z Z Z Z (p_extract Z Z) <| ip 6 Z Z Z Z (p_extract Z Z) <| J_bool (t := 19) (c := false) Z (by rw [hq]; rfl) <| i1 7 Z <| x_alloc ty122 Z fun b9 => i1 8 Z <| x_store Z Z ty122 Z SM SM RO PT <| ip 9 Z Z Z Z (p_assign Z) <| i0 <| Q_then <| J_seq <| sr <| mv Z Z <| L_pur Z (p_not Z) <| nq <| J_bool (t := 21) (c := true) Z (rfl) <| C_true Z <| sr <| ag Z Z <| nq <| J_ret <| Q_then_ret <| J_pick (A := coA p _) PC <| J_asTo (B := coA p (kDec n s i r v)) (by rw [kDec_none hq]) ?_
  exact J_return (()) Tryz.results72 (.tmp Z .nil) Z SU
  refine x_alloc ty122 Z fun b9 => i1 3 Z <| xc fc69 (A2 Z Z) Z (coRqGet (s := s) (i := i) PC) fun _ => ip 4 Z Z Z Z (p_move Z) <| ip 5 Z Z Z Z (p_extract Z Z) <| ip 6 Z Z Z Z (p_extract Z Z) <| J_bool (t := 19) (c := false) Z (by rw [hq]; rfl) <| i1 8 Z <| x_store Z Z ty122 Z SM SM RO PT <| ip 9 Z Z Z Z (p_assign Z) <| i0 <| Q_then <| J_seq <| sr <| mv Z Z <| L_pur Z (p_not Z) <| nq <| J_bool (t := 21) (c := true) Z (rfl) <| C_true Z <| sr <| ag Z Z <| nq <| J_ret <| Q_then_ret <| J_pick (A := coA p _) PC <| J_asTo (B := coA p (kDec n s i r v)) (by rw [kDec_none hq]) ?_
  exact J_return (()) Tryz.results72 (.tmp Z .nil) Z SU
  refine x_alloc ty122 Z fun b9 => i1 1 Z <| xc fc16 (A1 Z) Z (coReqs) fun _ => i1 3 Z <| xc fc69 (A2 Z Z) Z (coRqGet (s := s) (i := i) PC) fun _ => ip 4 Z Z Z Z (p_move Z) <| ip 5 Z Z Z Z (p_extract Z Z) <| ip 6 Z Z Z Z (p_extract Z Z) <| J_bool (t := 19) (c := false) Z (by rw [hq]; rfl) <| i1 8 Z <| x_store Z Z ty122 Z SM SM RO PT <| ip 9 Z Z Z Z (p_assign Z) <| i0 <| Q_then <| J_seq <| sr <| mv Z Z <| L_pur Z (p_not Z) <| nq <| J_bool (t := 21) (c := true) Z (rfl) <| C_true Z <| sr <| ag Z Z <| nq <| J_ret <| Q_then_ret <| J_pick (A := coA p _) PC <| J_asTo (B := coA p (kDec n s i r v)) (by rw [kDec_none hq]) ?_
  exact J_return (()) Tryz.results72 (.tmp Z .nil) Z SU
 ·
  refine Con.body (n := 61) Tryz.func72 Z Z _ (env_ok 4 Z) ?_
  have hl := del_less hq
  obtain ⟨k, rfl⟩ : ∃ k, n = k + 1 := ⟨n - 1, by omega⟩
  obtain ⟨M, rfl⟩ : ∃ M', M = M' + 1 := ⟨M - 1, by have := hF.jn; omega⟩
  have hF1 := hF.drop hq
  have hn2 : (kForget { s with rt := del s.rt i } i).rt.length ≤ k := by show (del s.rt i).length ≤ k; omega
  have hF3 := (hF1.forget i).tell (D := kDec k) (fun s i r v h => Fits.dec k h) hF.mm (i, q.e.tag, q.e.op, r, v, false)
  refine J_pick hp <| sr <| L_op <| x_box Z Z Z fun b5 => ag Z Z <| nq <| J_seq <| J_drawL none mixed <| ip 0 Z Z Z Z (p_move Z) <| iv 2 Z Z Z Z (fun _ => v_loadA Z ty36 HS CT) <| I_ready (rs := [1, 7]) SI (by kernel_rfl) (by simp) <| (I_cons Z ?_ (I_cons Z ?_ I_nil))
  refine xc fc16 (A1 Z) Z (coReqs) fun _ => I_ready (rs := [3, 7]) SI (by kernel_rfl) (by simp) <| (I_cons Z ?_ (I_cons Z ?_ I_nil))
  refine xc fc69 (A2 Z Z) Z (coRqGet (s := s) (i := i) PC) fun _ => ip 4 Z Z Z Z (p_move Z) <| ip 5 Z Z Z Z (p_extract Z Z) <| ip 6 Z Z Z Z (p_extract Z Z) <| i1 7 Z <| x_alloc ty122 Z fun b9 => i1 8 Z <| x_store Z Z ty122 Z SM SM RO PT <| ip 9 Z Z Z Z (p_assign Z) <| i0 <| Q_then <| J_seq <| sr <| mv Z Z <| L_pur Z (p_not Z) <| nq <| J_bool (t := 21) (c := false) Z (by rw [hq]; rfl) <| C_false Z <| J_skip <| Q_then <| J_seq <| J_drawL (some 3) mixed <| ip 0 Z Z Z Z (p_move Z) <| iv 2 Z Z Z Z (fun _ => v_loadA Z ty36 HS CT) <| i1 1 Z <| xc fc16 (A1 Z) Z (coReqs) fun _ => i1 3 Z <| xc fc119 (A2 Z Z) Z (coRqDrop (s := s) (i := i) PC) fun _ => i0 <| qx <| mv Z Z <| L_val Z (v_loadA Z ty36 HS CT) <| xo fc120 (A2 Z Z) Z (coForget (s := { s with rt := del s.rt i }) (i := i) PC hF1) fun _ => nx <| mv Z Z <| L_val Z (v_loadA Z ty36 HS CT) ?_
  refine fa Z Z fa122_1 <| fa Z Z fa34_2 <| L_val Z (v_load Z ty22 HS (by exact rfl)) <| fa Z Z fa122_1 <| fa Z Z fa34_0 <| L_val Z (v_load Z ty3 HS (by exact rfl)) <| mv Z Z <| mv Z Z <| L_pur Z (bld45 (.cons Z (.cons Z (.cons Z (.cons Z (.cons Z .nil))))) (by repeat constructor)) <| J_slot (t := 39) (v := .agg (encD (i, q.e.tag, q.e.op, r, v, false)).toArray) Z (by rw [hq]; rfl) <| xo fc121 (A2 Z Z) Z (coTell (s := (kForget { s with rt := del s.rt i } i)) (d := (i, q.e.tag, q.e.op, r, v, false)) PC (hD k Z) hn2 (hF1.forget i) hF.mm) fun _ => nq <| J_seq <| J_seq <| J_drawL none mixed <| ip 0 Z Z Z Z (p_move Z) <| iv 2 Z Z Z Z (fun _ => v_loadA Z ty36 HS CT) <| I_ready (rs := [1, 7]) SI (by kernel_rfl) (by simp) <| (I_cons Z ?_ (I_cons Z ?_ I_nil))
  refine xc fc16 (A1 Z) Z (coReqs) fun _ => I_ready (rs := [3, 7]) SI (by kernel_rfl) (by simp) <| (I_cons Z ?_ (I_cons Z ?_ I_nil))
  refine xc fc122 (A2 Z Z) Z (coRqAfter (s := (kTell (kDec k) (kForget { s with rt := del s.rt i } i) (i, q.e.tag, q.e.op, r, v, false))) (i := i) PC hF3.1.ids (by have := hF3.1.jn; have := hF3.1.mm; omega)) fun _ => ip 4 Z Z Z Z (p_move Z) <| ip 5 Z Z Z Z (p_extract Z Z) <| ip 6 Z Z Z Z (p_extract Z Z) <| i1 7 Z <| x_alloc ty122 Z fun b11 => i1 8 Z <| x_store Z Z ty122 Z SM SM RO PT <| ip 9 Z Z Z Z (p_assign Z) <| i0 <| qx <| mv Z Z <| mv Z Z <| J_gsplit (t := 49) Z (fun h49 => ?_) (fun h49 => ?_)
  obtain ⟨x, haf⟩ : ∃ x, afterQ (kTell (kDec k) (kForget { s with rt := del s.rt i } i) (i, q.e.tag, q.e.op, r, v, false)).rt i = some x := by
   cases hz : afterQ (kTell (kDec k) (kForget { s with rt := del s.rt i } i) (i, q.e.tag, q.e.op, r, v, false)).rt i with
   | none => rw [hz] at h49; simp at h49
   | some x => exact ⟨x, rfl⟩
  refine J_pick (A := blk b11 _ _) PC <| J_asTo (B := blk b11 122 (encQ x)) (by rw [haf]; rfl) <| gp Z Z Z (p_fieldAddr Z fa122_3) Z <| L_op <| G_on Z Z Z <| J_val (v_load Z ty4 HS (by exact rfl)) Z Z Z <| L_pur Z (p_pick_t Z Z) <| mv Z Z <| J_gsplit (t := 53) Z (fun h53 => ?_) (fun h53 => ?_)
  refine gp Z Z Z (p_move Z) Z <| gp Z Z Z (p_lss Z Z) Z <| L_pur Z (p_pick_t Z Z) <| nq <| C_dec Z (fun h56 => ?_) (fun h56 => ?_)
  refine J_region <| mv Z Z <| fa Z Z fa122_0 <| L_val Z (v_loadA Z ty36 HS CT) <| xo fc72 (A4 Z Z Z Z) Z (hD k Z _ _ _ p (kTell (kDec k) (kForget { s with rt := del s.rt i } i) (i, q.e.tag, q.e.op, r, v, false)) x.id (-9) 0 PC (Nat.le_trans hF3.2 hn2) hF3.1) fun _ => nx <| ag Z Z <| nq <| J_ret <| J_pick (A := coA p _) PC <| J_asTo (B := coA p (kDec (k + 1) s i r v)) (by rw [kDec, hq]; simp only [haf]; rw [if_pos ⟨h53, h56⟩]) ?_
  exact J_return (()) Tryz.results72 (.tmp Z .nil) Z SU
  refine J_skip <| qx <| ag Z Z <| nq <| J_ret <| J_pick (A := coA p _) PC <| J_asTo (B := coA p (kDec (k + 1) s i r v)) (by rw [kDec, hq]; simp only [haf]; rw [if_neg (by intro hc; simp_all)]) ?_
  exact J_return (()) Tryz.results72 (.tmp Z .nil) Z SU
  refine gz Z Z Z Z Z <| gz Z Z Z Z Z <| L_pur Z (p_pick_f Z Z) <| nq <| C_false Z <| J_skip <| qx <| ag Z Z <| nq <| J_ret <| J_pick (A := coA p _) PC <| J_asTo (B := coA p (kDec (k + 1) s i r v)) (by rw [kDec, hq]; simp only [haf]; rw [if_neg (by intro hc; simp_all)]) ?_
  exact J_return (()) Tryz.results72 (.tmp Z .nil) Z SU
  have haf : afterQ (kTell (kDec k) (kForget { s with rt := del s.rt i } i) (i, q.e.tag, q.e.op, r, v, false)).rt i = none := by
   cases hz : afterQ (kTell (kDec k) (kForget { s with rt := del s.rt i } i) (i, q.e.tag, q.e.op, r, v, false)).rt i with
   | none => rfl
   | some x => rw [hz] at h49; simp at h49
  refine gz Z Z Z Z Z <| gz Z Z Z Z Z <| L_pur Z (p_pick_f Z Z) <| mv Z Z <| gz Z Z Z Z Z <| gz Z Z Z Z Z <| L_pur Z (p_pick_f Z Z) <| nq <| C_false Z <| J_skip <| qx <| ag Z Z <| nq <| J_ret <| J_pick (A := coA p _) PC <| J_asTo (B := coA p (kDec (k + 1) s i r v)) (by rw [kDec, hq]; simp only [haf]) ?_
  exact J_return (()) Tryz.results72 (.tmp Z .nil) Z SU
  refine x_alloc ty122 Z fun b11 => i1 3 Z <| xc fc122 (A2 Z Z) Z (coRqAfter (s := (kTell (kDec k) (kForget { s with rt := del s.rt i } i) (i, q.e.tag, q.e.op, r, v, false))) (i := i) PC hF3.1.ids (by have := hF3.1.jn; have := hF3.1.mm; omega)) fun _ => ip 4 Z Z Z Z (p_move Z) <| ip 5 Z Z Z Z (p_extract Z Z) <| ip 6 Z Z Z Z (p_extract Z Z) <| i1 8 Z <| x_store Z Z ty122 Z SM SM RO PT <| ip 9 Z Z Z Z (p_assign Z) <| i0 <| qx <| mv Z Z <| mv Z Z <| J_gsplit (t := 49) Z (fun h49 => ?_) (fun h49 => ?_)
  obtain ⟨x, haf⟩ : ∃ x, afterQ (kTell (kDec k) (kForget { s with rt := del s.rt i } i) (i, q.e.tag, q.e.op, r, v, false)).rt i = some x := by
   cases hz : afterQ (kTell (kDec k) (kForget { s with rt := del s.rt i } i) (i, q.e.tag, q.e.op, r, v, false)).rt i with
   | none => rw [hz] at h49; simp at h49
   | some x => exact ⟨x, rfl⟩
  refine J_pick (A := blk b11 _ _) PC <| J_asTo (B := blk b11 122 (encQ x)) (by rw [haf]; rfl) <| gp Z Z Z (p_fieldAddr Z fa122_3) Z <| L_op <| G_on Z Z Z <| J_val (v_load Z ty4 HS (by exact rfl)) Z Z Z <| L_pur Z (p_pick_t Z Z) <| mv Z Z <| J_gsplit (t := 53) Z (fun h53 => ?_) (fun h53 => ?_)
  refine gp Z Z Z (p_move Z) Z <| gp Z Z Z (p_lss Z Z) Z <| L_pur Z (p_pick_t Z Z) <| nq <| C_dec Z (fun h56 => ?_) (fun h56 => ?_)
  refine J_region <| mv Z Z <| fa Z Z fa122_0 <| L_val Z (v_loadA Z ty36 HS CT) <| xo fc72 (A4 Z Z Z Z) Z (hD k Z _ _ _ p (kTell (kDec k) (kForget { s with rt := del s.rt i } i) (i, q.e.tag, q.e.op, r, v, false)) x.id (-9) 0 PC (Nat.le_trans hF3.2 hn2) hF3.1) fun _ => nx <| ag Z Z <| nq <| J_ret <| J_pick (A := coA p _) PC <| J_asTo (B := coA p (kDec (k + 1) s i r v)) (by rw [kDec, hq]; simp only [haf]; rw [if_pos ⟨h53, h56⟩]) ?_
  exact J_return (()) Tryz.results72 (.tmp Z .nil) Z SU
  refine J_skip <| qx <| ag Z Z <| nq <| J_ret <| J_pick (A := coA p _) PC <| J_asTo (B := coA p (kDec (k + 1) s i r v)) (by rw [kDec, hq]; simp only [haf]; rw [if_neg (by intro hc; simp_all)]) ?_
  exact J_return (()) Tryz.results72 (.tmp Z .nil) Z SU
  refine gz Z Z Z Z Z <| gz Z Z Z Z Z <| L_pur Z (p_pick_f Z Z) <| nq <| C_false Z <| J_skip <| qx <| ag Z Z <| nq <| J_ret <| J_pick (A := coA p _) PC <| J_asTo (B := coA p (kDec (k + 1) s i r v)) (by rw [kDec, hq]; simp only [haf]; rw [if_neg (by intro hc; simp_all)]) ?_
  exact J_return (()) Tryz.results72 (.tmp Z .nil) Z SU
  have haf : afterQ (kTell (kDec k) (kForget { s with rt := del s.rt i } i) (i, q.e.tag, q.e.op, r, v, false)).rt i = none := by
   cases hz : afterQ (kTell (kDec k) (kForget { s with rt := del s.rt i } i) (i, q.e.tag, q.e.op, r, v, false)).rt i with
   | none => rfl
   | some x => rw [hz] at h49; simp at h49
  refine gz Z Z Z Z Z <| gz Z Z Z Z Z <| L_pur Z (p_pick_f Z Z) <| mv Z Z <| gz Z Z Z Z Z <| gz Z Z Z Z Z <| L_pur Z (p_pick_f Z Z) <| nq <| C_false Z <| J_skip <| qx <| ag Z Z <| nq <| J_ret <| J_pick (A := coA p _) PC <| J_asTo (B := coA p (kDec (k + 1) s i r v)) (by rw [kDec, hq]; simp only [haf]) ?_
  exact J_return (()) Tryz.results72 (.tmp Z .nil) Z SU
  refine x_alloc ty122 Z fun b11 => i1 1 Z <| xc fc16 (A1 Z) Z (coReqs) fun _ => i1 3 Z <| xc fc122 (A2 Z Z) Z (coRqAfter (s := (kTell (kDec k) (kForget { s with rt := del s.rt i } i) (i, q.e.tag, q.e.op, r, v, false))) (i := i) PC hF3.1.ids (by have := hF3.1.jn; have := hF3.1.mm; omega)) fun _ => ip 4 Z Z Z Z (p_move Z) <| ip 5 Z Z Z Z (p_extract Z Z) <| ip 6 Z Z Z Z (p_extract Z Z) <| i1 8 Z <| x_store Z Z ty122 Z SM SM RO PT <| ip 9 Z Z Z Z (p_assign Z) <| i0 <| qx <| mv Z Z <| mv Z Z <| J_gsplit (t := 49) Z (fun h49 => ?_) (fun h49 => ?_)
  obtain ⟨x, haf⟩ : ∃ x, afterQ (kTell (kDec k) (kForget { s with rt := del s.rt i } i) (i, q.e.tag, q.e.op, r, v, false)).rt i = some x := by
   cases hz : afterQ (kTell (kDec k) (kForget { s with rt := del s.rt i } i) (i, q.e.tag, q.e.op, r, v, false)).rt i with
   | none => rw [hz] at h49; simp at h49
   | some x => exact ⟨x, rfl⟩
  refine J_pick (A := blk b11 _ _) PC <| J_asTo (B := blk b11 122 (encQ x)) (by rw [haf]; rfl) <| gp Z Z Z (p_fieldAddr Z fa122_3) Z <| L_op <| G_on Z Z Z <| J_val (v_load Z ty4 HS (by exact rfl)) Z Z Z <| L_pur Z (p_pick_t Z Z) <| mv Z Z <| J_gsplit (t := 53) Z (fun h53 => ?_) (fun h53 => ?_)
  refine gp Z Z Z (p_move Z) Z <| gp Z Z Z (p_lss Z Z) Z <| L_pur Z (p_pick_t Z Z) <| nq <| C_dec Z (fun h56 => ?_) (fun h56 => ?_)
  refine J_region <| mv Z Z <| fa Z Z fa122_0 <| L_val Z (v_loadA Z ty36 HS CT) <| xo fc72 (A4 Z Z Z Z) Z (hD k Z _ _ _ p (kTell (kDec k) (kForget { s with rt := del s.rt i } i) (i, q.e.tag, q.e.op, r, v, false)) x.id (-9) 0 PC (Nat.le_trans hF3.2 hn2) hF3.1) fun _ => nx <| ag Z Z <| nq <| J_ret <| J_pick (A := coA p _) PC <| J_asTo (B := coA p (kDec (k + 1) s i r v)) (by rw [kDec, hq]; simp only [haf]; rw [if_pos ⟨h53, h56⟩]) ?_
  exact J_return (()) Tryz.results72 (.tmp Z .nil) Z SU
  refine J_skip <| qx <| ag Z Z <| nq <| J_ret <| J_pick (A := coA p _) PC <| J_asTo (B := coA p (kDec (k + 1) s i r v)) (by rw [kDec, hq]; simp only [haf]; rw [if_neg (by intro hc; simp_all)]) ?_
  exact J_return (()) Tryz.results72 (.tmp Z .nil) Z SU
  refine gz Z Z Z Z Z <| gz Z Z Z Z Z <| L_pur Z (p_pick_f Z Z) <| nq <| C_false Z <| J_skip <| qx <| ag Z Z <| nq <| J_ret <| J_pick (A := coA p _) PC <| J_asTo (B := coA p (kDec (k + 1) s i r v)) (by rw [kDec, hq]; simp only [haf]; rw [if_neg (by intro hc; simp_all)]) ?_
  exact J_return (()) Tryz.results72 (.tmp Z .nil) Z SU
  have haf : afterQ (kTell (kDec k) (kForget { s with rt := del s.rt i } i) (i, q.e.tag, q.e.op, r, v, false)).rt i = none := by
   cases hz : afterQ (kTell (kDec k) (kForget { s with rt := del s.rt i } i) (i, q.e.tag, q.e.op, r, v, false)).rt i with
   | none => rfl
   | some x => rw [hz] at h49; simp at h49
  refine gz Z Z Z Z Z <| gz Z Z Z Z Z <| L_pur Z (p_pick_f Z Z) <| mv Z Z <| gz Z Z Z Z Z <| gz Z Z Z Z Z <| L_pur Z (p_pick_f Z Z) <| nq <| C_false Z <| J_skip <| qx <| ag Z Z <| nq <| J_ret <| J_pick (A := coA p _) PC <| J_asTo (B := coA p (kDec (k + 1) s i r v)) (by rw [kDec, hq]; simp only [haf]) ?_
  exact J_return (()) Tryz.results72 (.tmp Z .nil) Z SU
  refine x_alloc ty122 Z fun b9 => i1 3 Z <| xc fc69 (A2 Z Z) Z (coRqGet (s := s) (i := i) PC) fun _ => ip 4 Z Z Z Z (p_move Z) <| ip 5 Z Z Z Z (p_extract Z Z) <| ip 6 Z Z Z Z (p_extract Z Z) <| i1 8 Z <| x_store Z Z ty122 Z SM SM RO PT <| ip 9 Z Z Z Z (p_assign Z) <| i0 <| Q_then <| J_seq <| sr <| mv Z Z <| L_pur Z (p_not Z) <| nq <| J_bool (t := 21) (c := false) Z (by rw [hq]; rfl) <| C_false Z <| J_skip <| Q_then <| J_seq <| J_drawL (some 3) mixed <| ip 0 Z Z Z Z (p_move Z) <| iv 2 Z Z Z Z (fun _ => v_loadA Z ty36 HS CT) <| i1 1 Z <| xc fc16 (A1 Z) Z (coReqs) fun _ => i1 3 Z <| xc fc119 (A2 Z Z) Z (coRqDrop (s := s) (i := i) PC) fun _ => i0 <| qx <| mv Z Z <| L_val Z (v_loadA Z ty36 HS CT) <| xo fc120 (A2 Z Z) Z (coForget (s := { s with rt := del s.rt i }) (i := i) PC hF1) fun _ => nx <| mv Z Z <| L_val Z (v_loadA Z ty36 HS CT) ?_
  refine fa Z Z fa122_1 <| fa Z Z fa34_2 <| L_val Z (v_load Z ty22 HS (by exact rfl)) <| fa Z Z fa122_1 <| fa Z Z fa34_0 <| L_val Z (v_load Z ty3 HS (by exact rfl)) <| mv Z Z <| mv Z Z <| L_pur Z (bld45 (.cons Z (.cons Z (.cons Z (.cons Z (.cons Z .nil))))) (by repeat constructor)) <| J_slot (t := 39) (v := .agg (encD (i, q.e.tag, q.e.op, r, v, false)).toArray) Z (by rw [hq]; rfl) <| xo fc121 (A2 Z Z) Z (coTell (s := (kForget { s with rt := del s.rt i } i)) (d := (i, q.e.tag, q.e.op, r, v, false)) PC (hD k Z) hn2 (hF1.forget i) hF.mm) fun _ => nq <| J_seq <| J_seq <| J_drawL none mixed <| ip 0 Z Z Z Z (p_move Z) <| iv 2 Z Z Z Z (fun _ => v_loadA Z ty36 HS CT) <| I_ready (rs := [1, 7]) SI (by kernel_rfl) (by simp) <| (I_cons Z ?_ (I_cons Z ?_ I_nil))
  refine xc fc16 (A1 Z) Z (coReqs) fun _ => I_ready (rs := [3, 7]) SI (by kernel_rfl) (by simp) <| (I_cons Z ?_ (I_cons Z ?_ I_nil))
  refine xc fc122 (A2 Z Z) Z (coRqAfter (s := (kTell (kDec k) (kForget { s with rt := del s.rt i } i) (i, q.e.tag, q.e.op, r, v, false))) (i := i) PC hF3.1.ids (by have := hF3.1.jn; have := hF3.1.mm; omega)) fun _ => ip 4 Z Z Z Z (p_move Z) <| ip 5 Z Z Z Z (p_extract Z Z) <| ip 6 Z Z Z Z (p_extract Z Z) <| i1 7 Z <| x_alloc ty122 Z fun b11 => i1 8 Z <| x_store Z Z ty122 Z SM SM RO PT <| ip 9 Z Z Z Z (p_assign Z) <| i0 <| qx <| mv Z Z <| mv Z Z <| J_gsplit (t := 49) Z (fun h49 => ?_) (fun h49 => ?_)
  obtain ⟨x, haf⟩ : ∃ x, afterQ (kTell (kDec k) (kForget { s with rt := del s.rt i } i) (i, q.e.tag, q.e.op, r, v, false)).rt i = some x := by
   cases hz : afterQ (kTell (kDec k) (kForget { s with rt := del s.rt i } i) (i, q.e.tag, q.e.op, r, v, false)).rt i with
   | none => rw [hz] at h49; simp at h49
   | some x => exact ⟨x, rfl⟩
  refine J_pick (A := blk b11 _ _) PC <| J_asTo (B := blk b11 122 (encQ x)) (by rw [haf]; rfl) <| gp Z Z Z (p_fieldAddr Z fa122_3) Z <| L_op <| G_on Z Z Z <| J_val (v_load Z ty4 HS (by exact rfl)) Z Z Z <| L_pur Z (p_pick_t Z Z) <| mv Z Z <| J_gsplit (t := 53) Z (fun h53 => ?_) (fun h53 => ?_)
  refine gp Z Z Z (p_move Z) Z <| gp Z Z Z (p_lss Z Z) Z <| L_pur Z (p_pick_t Z Z) <| nq <| C_dec Z (fun h56 => ?_) (fun h56 => ?_)
  refine J_region <| mv Z Z <| fa Z Z fa122_0 <| L_val Z (v_loadA Z ty36 HS CT) <| xo fc72 (A4 Z Z Z Z) Z (hD k Z _ _ _ p (kTell (kDec k) (kForget { s with rt := del s.rt i } i) (i, q.e.tag, q.e.op, r, v, false)) x.id (-9) 0 PC (Nat.le_trans hF3.2 hn2) hF3.1) fun _ => nx <| ag Z Z <| nq <| J_ret <| J_pick (A := coA p _) PC <| J_asTo (B := coA p (kDec (k + 1) s i r v)) (by rw [kDec, hq]; simp only [haf]; rw [if_pos ⟨h53, h56⟩]) ?_
  exact J_return (()) Tryz.results72 (.tmp Z .nil) Z SU
  refine J_skip <| qx <| ag Z Z <| nq <| J_ret <| J_pick (A := coA p _) PC <| J_asTo (B := coA p (kDec (k + 1) s i r v)) (by rw [kDec, hq]; simp only [haf]; rw [if_neg (by intro hc; simp_all)]) ?_
  exact J_return (()) Tryz.results72 (.tmp Z .nil) Z SU
  refine gz Z Z Z Z Z <| gz Z Z Z Z Z <| L_pur Z (p_pick_f Z Z) <| nq <| C_false Z <| J_skip <| qx <| ag Z Z <| nq <| J_ret <| J_pick (A := coA p _) PC <| J_asTo (B := coA p (kDec (k + 1) s i r v)) (by rw [kDec, hq]; simp only [haf]; rw [if_neg (by intro hc; simp_all)]) ?_
  exact J_return (()) Tryz.results72 (.tmp Z .nil) Z SU
  have haf : afterQ (kTell (kDec k) (kForget { s with rt := del s.rt i } i) (i, q.e.tag, q.e.op, r, v, false)).rt i = none := by
   cases hz : afterQ (kTell (kDec k) (kForget { s with rt := del s.rt i } i) (i, q.e.tag, q.e.op, r, v, false)).rt i with
   | none => rfl
   | some x => rw [hz] at h49; simp at h49
  refine gz Z Z Z Z Z <| gz Z Z Z Z Z <| L_pur Z (p_pick_f Z Z) <| mv Z Z <| gz Z Z Z Z Z <| gz Z Z Z Z Z <| L_pur Z (p_pick_f Z Z) <| nq <| C_false Z <| J_skip <| qx <| ag Z Z <| nq <| J_ret <| J_pick (A := coA p _) PC <| J_asTo (B := coA p (kDec (k + 1) s i r v)) (by rw [kDec, hq]; simp only [haf]) ?_
  exact J_return (()) Tryz.results72 (.tmp Z .nil) Z SU
  refine x_alloc ty122 Z fun b11 => i1 3 Z <| xc fc122 (A2 Z Z) Z (coRqAfter (s := (kTell (kDec k) (kForget { s with rt := del s.rt i } i) (i, q.e.tag, q.e.op, r, v, false))) (i := i) PC hF3.1.ids (by have := hF3.1.jn; have := hF3.1.mm; omega)) fun _ => ip 4 Z Z Z Z (p_move Z) <| ip 5 Z Z Z Z (p_extract Z Z) <| ip 6 Z Z Z Z (p_extract Z Z) <| i1 8 Z <| x_store Z Z ty122 Z SM SM RO PT <| ip 9 Z Z Z Z (p_assign Z) <| i0 <| qx <| mv Z Z <| mv Z Z <| J_gsplit (t := 49) Z (fun h49 => ?_) (fun h49 => ?_)
  obtain ⟨x, haf⟩ : ∃ x, afterQ (kTell (kDec k) (kForget { s with rt := del s.rt i } i) (i, q.e.tag, q.e.op, r, v, false)).rt i = some x := by
   cases hz : afterQ (kTell (kDec k) (kForget { s with rt := del s.rt i } i) (i, q.e.tag, q.e.op, r, v, false)).rt i with
   | none => rw [hz] at h49; simp at h49
   | some x => exact ⟨x, rfl⟩
  refine J_pick (A := blk b11 _ _) PC <| J_asTo (B := blk b11 122 (encQ x)) (by rw [haf]; rfl) <| gp Z Z Z (p_fieldAddr Z fa122_3) Z <| L_op <| G_on Z Z Z <| J_val (v_load Z ty4 HS (by exact rfl)) Z Z Z <| L_pur Z (p_pick_t Z Z) <| mv Z Z <| J_gsplit (t := 53) Z (fun h53 => ?_) (fun h53 => ?_)
  refine gp Z Z Z (p_move Z) Z <| gp Z Z Z (p_lss Z Z) Z <| L_pur Z (p_pick_t Z Z) <| nq <| C_dec Z (fun h56 => ?_) (fun h56 => ?_)
  refine J_region <| mv Z Z <| fa Z Z fa122_0 <| L_val Z (v_loadA Z ty36 HS CT) <| xo fc72 (A4 Z Z Z Z) Z (hD k Z _ _ _ p (kTell (kDec k) (kForget { s with rt := del s.rt i } i) (i, q.e.tag, q.e.op, r, v, false)) x.id (-9) 0 PC (Nat.le_trans hF3.2 hn2) hF3.1) fun _ => nx <| ag Z Z <| nq <| J_ret <| J_pick (A := coA p _) PC <| J_asTo (B := coA p (kDec (k + 1) s i r v)) (by rw [kDec, hq]; simp only [haf]; rw [if_pos ⟨h53, h56⟩]) ?_
  exact J_return (()) Tryz.results72 (.tmp Z .nil) Z SU
  refine J_skip <| qx <| ag Z Z <| nq <| J_ret <| J_pick (A := coA p _) PC <| J_asTo (B := coA p (kDec (k + 1) s i r v)) (by rw [kDec, hq]; simp only [haf]; rw [if_neg (by intro hc; simp_all)]) ?_
  exact J_return (()) Tryz.results72 (.tmp Z .nil) Z SU
  refine gz Z Z Z Z Z <| gz Z Z Z Z Z <| L_pur Z (p_pick_f Z Z) <| nq <| C_false Z <| J_skip <| qx <| ag Z Z <| nq <| J_ret <| J_pick (A := coA p _) PC <| J_asTo (B := coA p (kDec (k + 1) s i r v)) (by rw [kDec, hq]; simp only [haf]; rw [if_neg (by intro hc; simp_all)]) ?_
  exact J_return (()) Tryz.results72 (.tmp Z .nil) Z SU
  have haf : afterQ (kTell (kDec k) (kForget { s with rt := del s.rt i } i) (i, q.e.tag, q.e.op, r, v, false)).rt i = none := by
   cases hz : afterQ (kTell (kDec k) (kForget { s with rt := del s.rt i } i) (i, q.e.tag, q.e.op, r, v, false)).rt i with
   | none => rfl
   | some x => rw [hz] at h49; simp at h49
  refine gz Z Z Z Z Z <| gz Z Z Z Z Z <| L_pur Z (p_pick_f Z Z) <| mv Z Z <| gz Z Z Z Z Z <| gz Z Z Z Z Z <| L_pur Z (p_pick_f Z Z) <| nq <| C_false Z <| J_skip <| qx <| ag Z Z <| nq <| J_ret <| J_pick (A := coA p _) PC <| J_asTo (B := coA p (kDec (k + 1) s i r v)) (by rw [kDec, hq]; simp only [haf]) ?_
  exact J_return (()) Tryz.results72 (.tmp Z .nil) Z SU
  refine x_alloc ty122 Z fun b11 => i1 1 Z <| xc fc16 (A1 Z) Z (coReqs) fun _ => i1 3 Z <| xc fc122 (A2 Z Z) Z (coRqAfter (s := (kTell (kDec k) (kForget { s with rt := del s.rt i } i) (i, q.e.tag, q.e.op, r, v, false))) (i := i) PC hF3.1.ids (by have := hF3.1.jn; have := hF3.1.mm; omega)) fun _ => ip 4 Z Z Z Z (p_move Z) <| ip 5 Z Z Z Z (p_extract Z Z) <| ip 6 Z Z Z Z (p_extract Z Z) <| i1 8 Z <| x_store Z Z ty122 Z SM SM RO PT <| ip 9 Z Z Z Z (p_assign Z) <| i0 <| qx <| mv Z Z <| mv Z Z <| J_gsplit (t := 49) Z (fun h49 => ?_) (fun h49 => ?_)
  obtain ⟨x, haf⟩ : ∃ x, afterQ (kTell (kDec k) (kForget { s with rt := del s.rt i } i) (i, q.e.tag, q.e.op, r, v, false)).rt i = some x := by
   cases hz : afterQ (kTell (kDec k) (kForget { s with rt := del s.rt i } i) (i, q.e.tag, q.e.op, r, v, false)).rt i with
   | none => rw [hz] at h49; simp at h49
   | some x => exact ⟨x, rfl⟩
  refine J_pick (A := blk b11 _ _) PC <| J_asTo (B := blk b11 122 (encQ x)) (by rw [haf]; rfl) <| gp Z Z Z (p_fieldAddr Z fa122_3) Z <| L_op <| G_on Z Z Z <| J_val (v_load Z ty4 HS (by exact rfl)) Z Z Z <| L_pur Z (p_pick_t Z Z) <| mv Z Z <| J_gsplit (t := 53) Z (fun h53 => ?_) (fun h53 => ?_)
  refine gp Z Z Z (p_move Z) Z <| gp Z Z Z (p_lss Z Z) Z <| L_pur Z (p_pick_t Z Z) <| nq <| C_dec Z (fun h56 => ?_) (fun h56 => ?_)
  refine J_region <| mv Z Z <| fa Z Z fa122_0 <| L_val Z (v_loadA Z ty36 HS CT) <| xo fc72 (A4 Z Z Z Z) Z (hD k Z _ _ _ p (kTell (kDec k) (kForget { s with rt := del s.rt i } i) (i, q.e.tag, q.e.op, r, v, false)) x.id (-9) 0 PC (Nat.le_trans hF3.2 hn2) hF3.1) fun _ => nx <| ag Z Z <| nq <| J_ret <| J_pick (A := coA p _) PC <| J_asTo (B := coA p (kDec (k + 1) s i r v)) (by rw [kDec, hq]; simp only [haf]; rw [if_pos ⟨h53, h56⟩]) ?_
  exact J_return (()) Tryz.results72 (.tmp Z .nil) Z SU
  refine J_skip <| qx <| ag Z Z <| nq <| J_ret <| J_pick (A := coA p _) PC <| J_asTo (B := coA p (kDec (k + 1) s i r v)) (by rw [kDec, hq]; simp only [haf]; rw [if_neg (by intro hc; simp_all)]) ?_
  exact J_return (()) Tryz.results72 (.tmp Z .nil) Z SU
  refine gz Z Z Z Z Z <| gz Z Z Z Z Z <| L_pur Z (p_pick_f Z Z) <| nq <| C_false Z <| J_skip <| qx <| ag Z Z <| nq <| J_ret <| J_pick (A := coA p _) PC <| J_asTo (B := coA p (kDec (k + 1) s i r v)) (by rw [kDec, hq]; simp only [haf]; rw [if_neg (by intro hc; simp_all)]) ?_
  exact J_return (()) Tryz.results72 (.tmp Z .nil) Z SU
  have haf : afterQ (kTell (kDec k) (kForget { s with rt := del s.rt i } i) (i, q.e.tag, q.e.op, r, v, false)).rt i = none := by
   cases hz : afterQ (kTell (kDec k) (kForget { s with rt := del s.rt i } i) (i, q.e.tag, q.e.op, r, v, false)).rt i with
   | none => rfl
   | some x => rw [hz] at h49; simp at h49
  refine gz Z Z Z Z Z <| gz Z Z Z Z Z <| L_pur Z (p_pick_f Z Z) <| mv Z Z <| gz Z Z Z Z Z <| gz Z Z Z Z Z <| L_pur Z (p_pick_f Z Z) <| nq <| C_false Z <| J_skip <| qx <| ag Z Z <| nq <| J_ret <| J_pick (A := coA p _) PC <| J_asTo (B := coA p (kDec (k + 1) s i r v)) (by rw [kDec, hq]; simp only [haf]) ?_
  exact J_return (()) Tryz.results72 (.tmp Z .nil) Z SU
  refine x_alloc ty122 Z fun b9 => i1 1 Z <| xc fc16 (A1 Z) Z (coReqs) fun _ => i1 3 Z <| xc fc69 (A2 Z Z) Z (coRqGet (s := s) (i := i) PC) fun _ => ip 4 Z Z Z Z (p_move Z) <| ip 5 Z Z Z Z (p_extract Z Z) <| ip 6 Z Z Z Z (p_extract Z Z) <| i1 8 Z <| x_store Z Z ty122 Z SM SM RO PT <| ip 9 Z Z Z Z (p_assign Z) <| i0 <| Q_then <| J_seq <| sr <| mv Z Z <| L_pur Z (p_not Z) <| nq <| J_bool (t := 21) (c := false) Z (by rw [hq]; rfl) <| C_false Z <| J_skip <| Q_then <| J_seq <| J_drawL (some 3) mixed <| ip 0 Z Z Z Z (p_move Z) <| iv 2 Z Z Z Z (fun _ => v_loadA Z ty36 HS CT) <| i1 1 Z <| xc fc16 (A1 Z) Z (coReqs) fun _ => i1 3 Z <| xc fc119 (A2 Z Z) Z (coRqDrop (s := s) (i := i) PC) fun _ => i0 <| qx <| mv Z Z <| L_val Z (v_loadA Z ty36 HS CT) <| xo fc120 (A2 Z Z) Z (coForget (s := { s with rt := del s.rt i }) (i := i) PC hF1) fun _ => ?_
  refine nx <| mv Z Z <| L_val Z (v_loadA Z ty36 HS CT) <| fa Z Z fa122_1 <| fa Z Z fa34_2 <| L_val Z (v_load Z ty22 HS (by exact rfl)) <| fa Z Z fa122_1 <| fa Z Z fa34_0 <| L_val Z (v_load Z ty3 HS (by exact rfl)) <| mv Z Z <| mv Z Z <| L_pur Z (bld45 (.cons Z (.cons Z (.cons Z (.cons Z (.cons Z .nil))))) (by repeat constructor)) <| J_slot (t := 39) (v := .agg (encD (i, q.e.tag, q.e.op, r, v, false)).toArray) Z (by rw [hq]; rfl) <| xo fc121 (A2 Z Z) Z (coTell (s := (kForget { s with rt := del s.rt i } i)) (d := (i, q.e.tag, q.e.op, r, v, false)) PC (hD k Z) hn2 (hF1.forget i) hF.mm) fun _ => nq <| J_seq <| J_seq <| J_drawL none mixed <| ip 0 Z Z Z Z (p_move Z) <| iv 2 Z Z Z Z (fun _ => v_loadA Z ty36 HS CT) <| I_ready (rs := [1, 7]) SI (by kernel_rfl) (by simp) <| (I_cons Z ?_ (I_cons Z ?_ I_nil))
  refine xc fc16 (A1 Z) Z (coReqs) fun _ => I_ready (rs := [3, 7]) SI (by kernel_rfl) (by simp) <| (I_cons Z ?_ (I_cons Z ?_ I_nil))
  refine xc fc122 (A2 Z Z) Z (coRqAfter (s := (kTell (kDec k) (kForget { s with rt := del s.rt i } i) (i, q.e.tag, q.e.op, r, v, false))) (i := i) PC hF3.1.ids (by have := hF3.1.jn; have := hF3.1.mm; omega)) fun _ => ip 4 Z Z Z Z (p_move Z) <| ip 5 Z Z Z Z (p_extract Z Z) <| ip 6 Z Z Z Z (p_extract Z Z) <| i1 7 Z <| x_alloc ty122 Z fun b11 => i1 8 Z <| x_store Z Z ty122 Z SM SM RO PT <| ip 9 Z Z Z Z (p_assign Z) <| i0 <| qx <| mv Z Z <| mv Z Z <| J_gsplit (t := 49) Z (fun h49 => ?_) (fun h49 => ?_)
  obtain ⟨x, haf⟩ : ∃ x, afterQ (kTell (kDec k) (kForget { s with rt := del s.rt i } i) (i, q.e.tag, q.e.op, r, v, false)).rt i = some x := by
   cases hz : afterQ (kTell (kDec k) (kForget { s with rt := del s.rt i } i) (i, q.e.tag, q.e.op, r, v, false)).rt i with
   | none => rw [hz] at h49; simp at h49
   | some x => exact ⟨x, rfl⟩
  refine J_pick (A := blk b11 _ _) PC <| J_asTo (B := blk b11 122 (encQ x)) (by rw [haf]; rfl) <| gp Z Z Z (p_fieldAddr Z fa122_3) Z <| L_op <| G_on Z Z Z <| J_val (v_load Z ty4 HS (by exact rfl)) Z Z Z <| L_pur Z (p_pick_t Z Z) <| mv Z Z <| J_gsplit (t := 53) Z (fun h53 => ?_) (fun h53 => ?_)
  refine gp Z Z Z (p_move Z) Z <| gp Z Z Z (p_lss Z Z) Z <| L_pur Z (p_pick_t Z Z) <| nq <| C_dec Z (fun h56 => ?_) (fun h56 => ?_)
  refine J_region <| mv Z Z <| fa Z Z fa122_0 <| L_val Z (v_loadA Z ty36 HS CT) <| xo fc72 (A4 Z Z Z Z) Z (hD k Z _ _ _ p (kTell (kDec k) (kForget { s with rt := del s.rt i } i) (i, q.e.tag, q.e.op, r, v, false)) x.id (-9) 0 PC (Nat.le_trans hF3.2 hn2) hF3.1) fun _ => nx <| ag Z Z <| nq <| J_ret <| J_pick (A := coA p _) PC <| J_asTo (B := coA p (kDec (k + 1) s i r v)) (by rw [kDec, hq]; simp only [haf]; rw [if_pos ⟨h53, h56⟩]) ?_
  exact J_return (()) Tryz.results72 (.tmp Z .nil) Z SU
  refine J_skip <| qx <| ag Z Z <| nq <| J_ret <| J_pick (A := coA p _) PC <| J_asTo (B := coA p (kDec (k + 1) s i r v)) (by rw [kDec, hq]; simp only [haf]; rw [if_neg (by intro hc; simp_all)]) ?_
  exact J_return (()) Tryz.results72 (.tmp Z .nil) Z SU
  refine gz Z Z Z Z Z <| gz Z Z Z Z Z <| L_pur Z (p_pick_f Z Z) <| nq <| C_false Z <| J_skip <| qx <| ag Z Z <| nq <| J_ret <| J_pick (A := coA p _) PC <| J_asTo (B := coA p (kDec (k + 1) s i r v)) (by rw [kDec, hq]; simp only [haf]; rw [if_neg (by intro hc; simp_all)]) ?_
  exact J_return (()) Tryz.results72 (.tmp Z .nil) Z SU
  have haf : afterQ (kTell (kDec k) (kForget { s with rt := del s.rt i } i) (i, q.e.tag, q.e.op, r, v, false)).rt i = none := by
   cases hz : afterQ (kTell (kDec k) (kForget { s with rt := del s.rt i } i) (i, q.e.tag, q.e.op, r, v, false)).rt i with
   | none => rfl
   | some x => rw [hz] at h49; simp at h49
  refine gz Z Z Z Z Z <| gz Z Z Z Z Z <| L_pur Z (p_pick_f Z Z) <| mv Z Z <| gz Z Z Z Z Z <| gz Z Z Z Z Z <| L_pur Z (p_pick_f Z Z) <| nq <| C_false Z <| J_skip <| qx <| ag Z Z <| nq <| J_ret <| J_pick (A := coA p _) PC <| J_asTo (B := coA p (kDec (k + 1) s i r v)) (by rw [kDec, hq]; simp only [haf]) ?_
  exact J_return (()) Tryz.results72 (.tmp Z .nil) Z SU
  refine x_alloc ty122 Z fun b11 => i1 3 Z <| xc fc122 (A2 Z Z) Z (coRqAfter (s := (kTell (kDec k) (kForget { s with rt := del s.rt i } i) (i, q.e.tag, q.e.op, r, v, false))) (i := i) PC hF3.1.ids (by have := hF3.1.jn; have := hF3.1.mm; omega)) fun _ => ip 4 Z Z Z Z (p_move Z) <| ip 5 Z Z Z Z (p_extract Z Z) <| ip 6 Z Z Z Z (p_extract Z Z) <| i1 8 Z <| x_store Z Z ty122 Z SM SM RO PT <| ip 9 Z Z Z Z (p_assign Z) <| i0 <| qx <| mv Z Z <| mv Z Z <| J_gsplit (t := 49) Z (fun h49 => ?_) (fun h49 => ?_)
  obtain ⟨x, haf⟩ : ∃ x, afterQ (kTell (kDec k) (kForget { s with rt := del s.rt i } i) (i, q.e.tag, q.e.op, r, v, false)).rt i = some x := by
   cases hz : afterQ (kTell (kDec k) (kForget { s with rt := del s.rt i } i) (i, q.e.tag, q.e.op, r, v, false)).rt i with
   | none => rw [hz] at h49; simp at h49
   | some x => exact ⟨x, rfl⟩
  refine J_pick (A := blk b11 _ _) PC <| J_asTo (B := blk b11 122 (encQ x)) (by rw [haf]; rfl) <| gp Z Z Z (p_fieldAddr Z fa122_3) Z <| L_op <| G_on Z Z Z <| J_val (v_load Z ty4 HS (by exact rfl)) Z Z Z <| L_pur Z (p_pick_t Z Z) <| mv Z Z <| J_gsplit (t := 53) Z (fun h53 => ?_) (fun h53 => ?_)
  refine gp Z Z Z (p_move Z) Z <| gp Z Z Z (p_lss Z Z) Z <| L_pur Z (p_pick_t Z Z) <| nq <| C_dec Z (fun h56 => ?_) (fun h56 => ?_)
  refine J_region <| mv Z Z <| fa Z Z fa122_0 <| L_val Z (v_loadA Z ty36 HS CT) <| xo fc72 (A4 Z Z Z Z) Z (hD k Z _ _ _ p (kTell (kDec k) (kForget { s with rt := del s.rt i } i) (i, q.e.tag, q.e.op, r, v, false)) x.id (-9) 0 PC (Nat.le_trans hF3.2 hn2) hF3.1) fun _ => nx <| ag Z Z <| nq <| J_ret <| J_pick (A := coA p _) PC <| J_asTo (B := coA p (kDec (k + 1) s i r v)) (by rw [kDec, hq]; simp only [haf]; rw [if_pos ⟨h53, h56⟩]) ?_
  exact J_return (()) Tryz.results72 (.tmp Z .nil) Z SU
  refine J_skip <| qx <| ag Z Z <| nq <| J_ret <| J_pick (A := coA p _) PC <| J_asTo (B := coA p (kDec (k + 1) s i r v)) (by rw [kDec, hq]; simp only [haf]; rw [if_neg (by intro hc; simp_all)]) ?_
  exact J_return (()) Tryz.results72 (.tmp Z .nil) Z SU
  refine gz Z Z Z Z Z <| gz Z Z Z Z Z <| L_pur Z (p_pick_f Z Z) <| nq <| C_false Z <| J_skip <| qx <| ag Z Z <| nq <| J_ret <| J_pick (A := coA p _) PC <| J_asTo (B := coA p (kDec (k + 1) s i r v)) (by rw [kDec, hq]; simp only [haf]; rw [if_neg (by intro hc; simp_all)]) ?_
  exact J_return (()) Tryz.results72 (.tmp Z .nil) Z SU
  have haf : afterQ (kTell (kDec k) (kForget { s with rt := del s.rt i } i) (i, q.e.tag, q.e.op, r, v, false)).rt i = none := by
   cases hz : afterQ (kTell (kDec k) (kForget { s with rt := del s.rt i } i) (i, q.e.tag, q.e.op, r, v, false)).rt i with
   | none => rfl
   | some x => rw [hz] at h49; simp at h49
  refine gz Z Z Z Z Z <| gz Z Z Z Z Z <| L_pur Z (p_pick_f Z Z) <| mv Z Z <| gz Z Z Z Z Z <| gz Z Z Z Z Z <| L_pur Z (p_pick_f Z Z) <| nq <| C_false Z <| J_skip <| qx <| ag Z Z <| nq <| J_ret <| J_pick (A := coA p _) PC <| J_asTo (B := coA p (kDec (k + 1) s i r v)) (by rw [kDec, hq]; simp only [haf]) ?_
  exact J_return (()) Tryz.results72 (.tmp Z .nil) Z SU
  refine x_alloc ty122 Z fun b11 => i1 1 Z <| xc fc16 (A1 Z) Z (coReqs) fun _ => i1 3 Z <| xc fc122 (A2 Z Z) Z (coRqAfter (s := (kTell (kDec k) (kForget { s with rt := del s.rt i } i) (i, q.e.tag, q.e.op, r, v, false))) (i := i) PC hF3.1.ids (by have := hF3.1.jn; have := hF3.1.mm; omega)) fun _ => ip 4 Z Z Z Z (p_move Z) <| ip 5 Z Z Z Z (p_extract Z Z) <| ip 6 Z Z Z Z (p_extract Z Z) <| i1 8 Z <| x_store Z Z ty122 Z SM SM RO PT <| ip 9 Z Z Z Z (p_assign Z) <| i0 <| qx <| mv Z Z <| mv Z Z <| J_gsplit (t := 49) Z (fun h49 => ?_) (fun h49 => ?_)
  obtain ⟨x, haf⟩ : ∃ x, afterQ (kTell (kDec k) (kForget { s with rt := del s.rt i } i) (i, q.e.tag, q.e.op, r, v, false)).rt i = some x := by
   cases hz : afterQ (kTell (kDec k) (kForget { s with rt := del s.rt i } i) (i, q.e.tag, q.e.op, r, v, false)).rt i with
   | none => rw [hz] at h49; simp at h49
   | some x => exact ⟨x, rfl⟩
  refine J_pick (A := blk b11 _ _) PC <| J_asTo (B := blk b11 122 (encQ x)) (by rw [haf]; rfl) <| gp Z Z Z (p_fieldAddr Z fa122_3) Z <| L_op <| G_on Z Z Z <| J_val (v_load Z ty4 HS (by exact rfl)) Z Z Z <| L_pur Z (p_pick_t Z Z) <| mv Z Z <| J_gsplit (t := 53) Z (fun h53 => ?_) (fun h53 => ?_)
  refine gp Z Z Z (p_move Z) Z <| gp Z Z Z (p_lss Z Z) Z <| L_pur Z (p_pick_t Z Z) <| nq <| C_dec Z (fun h56 => ?_) (fun h56 => ?_)
  refine J_region <| mv Z Z <| fa Z Z fa122_0 <| L_val Z (v_loadA Z ty36 HS CT) <| xo fc72 (A4 Z Z Z Z) Z (hD k Z _ _ _ p (kTell (kDec k) (kForget { s with rt := del s.rt i } i) (i, q.e.tag, q.e.op, r, v, false)) x.id (-9) 0 PC (Nat.le_trans hF3.2 hn2) hF3.1) fun _ => nx <| ag Z Z <| nq <| J_ret <| J_pick (A := coA p _) PC <| J_asTo (B := coA p (kDec (k + 1) s i r v)) (by rw [kDec, hq]; simp only [haf]; rw [if_pos ⟨h53, h56⟩]) ?_
  exact J_return (()) Tryz.results72 (.tmp Z .nil) Z SU
  refine J_skip <| qx <| ag Z Z <| nq <| J_ret <| J_pick (A := coA p _) PC <| J_asTo (B := coA p (kDec (k + 1) s i r v)) (by rw [kDec, hq]; simp only [haf]; rw [if_neg (by intro hc; simp_all)]) ?_
  exact J_return (()) Tryz.results72 (.tmp Z .nil) Z SU
  refine gz Z Z Z Z Z <| gz Z Z Z Z Z <| L_pur Z (p_pick_f Z Z) <| nq <| C_false Z <| J_skip <| qx <| ag Z Z <| nq <| J_ret <| J_pick (A := coA p _) PC <| J_asTo (B := coA p (kDec (k + 1) s i r v)) (by rw [kDec, hq]; simp only [haf]; rw [if_neg (by intro hc; simp_all)]) ?_
  exact J_return (()) Tryz.results72 (.tmp Z .nil) Z SU
  have haf : afterQ (kTell (kDec k) (kForget { s with rt := del s.rt i } i) (i, q.e.tag, q.e.op, r, v, false)).rt i = none := by
   cases hz : afterQ (kTell (kDec k) (kForget { s with rt := del s.rt i } i) (i, q.e.tag, q.e.op, r, v, false)).rt i with
   | none => rfl
   | some x => rw [hz] at h49; simp at h49
  refine gz Z Z Z Z Z <| gz Z Z Z Z Z <| L_pur Z (p_pick_f Z Z) <| mv Z Z <| gz Z Z Z Z Z <| gz Z Z Z Z Z <| L_pur Z (p_pick_f Z Z) <| nq <| C_false Z <| J_skip <| qx <| ag Z Z <| nq <| J_ret <| J_pick (A := coA p _) PC <| J_asTo (B := coA p (kDec (k + 1) s i r v)) (by rw [kDec, hq]; simp only [haf]) ?_
  exact J_return (()) Tryz.results72 (.tmp Z .nil) Z SU
theorem decC : ∀ n N M, DecC n N M
  | 0, N, M => fun E l m p s i r v hp hn hF => coDecStep hp (fun k h => by cases h) hn hF
  | n + 1, N, M => fun E l m p s i r v hp hn hF => coDecStep hp (fun k h => by cases h; exact decC n N M) hn hF
theorem coDecide (hp : Pick (coA p s) l m) {r : Int} (hF : Fits s N M) : Con Tryz.prog 72 #[.pointer (some ⟨p, 0, none⟩), .agg (encI i).toArray, .int .i64 r, .int .u32 v] E l (fun _ : Unit => .bool (look s.rt i).isSome) (fun _ => coA p (kDec s.rt.length s i r v) :: m) := decC s.rt.length N M E l m p s i r v hp (Nat.le_refl _) hF
/-! ### plain: a ring that has room -/
def Rdy (s : KS) (g c t : Int) : Prop := ∃ b r, look s.rg g = some (b, r) ∧ r.over = [] ∧ r.tail = t ∧ r.cb = 4 ∧ r.cq = c ∧ getN (rowAt s.mem c) 0 4 = 0
theorem getN_far {bs ys : List Int} {a : Nat} (h : 4 ≤ a) (hl : a ≤ bs.length) : getN (putB bs a ys) 0 4 = getN bs 0 4 := by
  have e : ∀ k, k < 4 → byteAt (putB bs a ys) (0 + k) = byteAt bs (0 + k) := fun k hk => by
    unfold byteAt putB
    rw [List.append_assoc, List.getElem?_append_left (by simp; omega), List.getElem?_take_of_lt (by omega)]
  simp only [getN, e 0 (by omega), e 1 (by omega), e 2 (by omega), e 3 (by omega)]
variable {r : Rg} {ms : List (List Int)}
theorem getN_row (hr : RgOk r) (hM : MemOk ms) (c : Cqe) : getN (rgRow r ms c) 0 4 = getN (rowAt ms r.cq) 0 4 := by
  obtain ⟨h1, h2, h3⟩ := hM.at hr.cq
  have h4 := place_in hr
  unfold rgRow
  rw [getN_far (by omega) (by rw [putB_len (by rw [bytesX_len]; omega), h2]; omega), getN_far (by omega) (by rw [h2]; omega)]
variable {u : Int}
theorem rowAt_set {c : Int} {x : List Int} (hu : 1 ≤ u ∧ u ≤ 64) (hc : 1 ≤ c) (hl : ms.length = 64) : rowAt (ms.set (u - 1).toNat x) c = if c = u then x else rowAt ms c := by
  unfold rowAt
  by_cases h : c = u
  · subst h; rw [if_pos rfl, List.getElem?_set_self (by omega)]; rfl
  · rw [if_neg h, List.getElem?_set_ne (by omega)]
variable {t : Int}
theorem rdy_ok (h1 : r.over = []) (h2 : r.tail = t) (h3 : r.cb = 4) (h4 : getN (rowAt ms r.cq) 0 4 = 0) (ht : 0 ≤ t ∧ t < 16) : postOk r ms = true := by
  unfold postOk rgWrOk rgFar
  rw [h1, h2, h3, h4, Int.sub_zero, wrap32u_of (by omega)]
  simp only [List.isEmpty_nil, Bool.true_and, decide_eq_true_eq]
  show t < 2 ^ 4
  omega
theorem look_updO {α : Type} {u g : Int} {f : α → α} : ∀ {xs : List (Int × Nat × α)}, look (updO xs u f) g = (look xs g).map fun x => if g = u then (x.1, f x.2) else x
  | [] => rfl
  | x :: xs => by
    unfold updO
    rw [List.map_cons, look_cons, look_cons, show List.map _ xs = updO xs u f from rfl, look_updO]
    by_cases hx : x.1 = u
    · rw [if_pos hx]
      by_cases hg : x.1 = g
      · simp [hg, hg ▸ hx]
      · simp [hg]
    · rw [if_neg hx]
      by_cases hg : x.1 = g
      · have : ¬ g = u := fun e => hx (hg.trans e)
        simp [hg, this]
      · simp [hg]
variable {b : Nat}
theorem kPost_some (h : look s.rg d.1.1 = some (b, r)) : kPost s d = { s with rg := updO s.rg d.1.1 (fun r => postR r s.mem (ofD d)), mem := postM r s.mem (ofD d) } := by
  unfold kPost; rw [h]
theorem kPost_rg (h : look s.rg d.1.1 = some (b, r)) : (kPost s d).rg = updO s.rg d.1.1 (fun r => postR r s.mem (ofD d)) := by rw [kPost_some h]
variable {g : Int}
theorem Rdy.post (hF : Fits s N M) {c : Int} (h : Rdy s g c t) (ht : 0 ≤ t ∧ t < 16) (hd : d.1.1 = g) : Rdy (kPost s d) g c (t + 1) := by
  subst hd
  obtain ⟨b, r, h1, h2, h3, h4, h5, h6⟩ := h
  have hro := (hF.rg _ (mem_look h1)).1
  have hr : RgOk r := hro
  have hok := rdy_ok (ms := s.mem) h2 h3 h4 (by rw [h5]; exact h6) ht
  refine ⟨b, rgUp r, ?_, h2, ?_, h4, h5, ?_⟩
  · rw [kPost_rg h1, look_updO, h1]
    simp [postR, hok]
  · show IntKind.u32.wrap (r.tail + 1) = _
    rw [h3, wrap32u_of (by omega)]
  · rw [kPost_some h1]
    show getN (rowAt (postM r s.mem (ofD d)) c) 0 4 = 0
    unfold postM
    rw [hok, if_pos rfl, ← h5, rowAt_set hr.cq hr.cq.1 hF.mem.len, if_pos rfl, getN_row hr hF.mem, h5, h6]
theorem Rdy.other (hF : Fits s N M) {c g2 c2 t2 : Int} (h : Rdy s g c t) (h2 : Rdy s g2 c2 t2) (hg : g ≠ g2) (hc : c ≠ c2) (hd : d.1.1 = g2) : Rdy (kPost s d) g c t := by
  subst hd
  obtain ⟨b, r, h1, e2, e3, e4, e5, e6⟩ := h
  obtain ⟨b2, r2, k1, _, _, _, k5, _⟩ := h2
  have hr : RgOk r := (hF.rg _ (mem_look h1)).1
  have hr2 : RgOk r2 := (hF.rg _ (mem_look k1)).1
  refine ⟨b, r, ?_, e2, e3, e4, e5, ?_⟩
  · rw [kPost_rg k1, look_updO, h1]
    simp [hg]
  · rw [kPost_some k1]
    show getN (rowAt (postM r2 s.mem (ofD d)) c) 0 4 = 0
    unfold postM
    split
    · rw [rowAt_set hr2.cq (by have := hr.cq; omega) hF.mem.len, if_neg (by rw [k5]; exact hc)]; exact e6
    · exact e6
def kNext (D : KS → ID → Int → Int → KS) (s : KS) (i : ID) (r : Int) : KS := match afterQ s.rt i with
  | none => s
  | some x => if x.soft = true ∧ r < 0 then D s x.id (-9) 0 else s
theorem kDec_some {r : Int} {q : Rq} (hq : look s.rt i = some q) : kDec (n + 1) s i r v = kNext (kDec n) (kTell (kDec n) (kForget { s with rt := del s.rt i } i) (i, q.e.tag, q.e.op, r, v, false)) i r := by
  rw [kDec, hq]
  simp only []
  generalize kTell (kDec n) (kForget { s with rt := del s.rt i } i) (i, q.e.tag, q.e.op, r, v, false) = t
  unfold kNext
  cases afterQ t.rt i <;> rfl
/-! ### plain: a row of requests, each on the one ahead -/
section
variable {soft : List Bool} {a j n : Nat}
end
end Go.Pse
namespace Go.Pse
open Go.RowKit Go.ChangeShapes Go.WideShapes Go.Deep
inductive Leaf where
  | int (k : IntKind)
  | bool
def Leaf.ok : Leaf → Value → Prop
  | .int k, v => ∃ n, v = .int k n ∧ k.min ≤ n ∧ n ≤ k.max
  | .bool, v => ∃ b, v = .bool b
def Shape : List Leaf → List Value → Prop
  | [], [] => True
  | k :: ks, v :: vs => k.ok v ∧ Shape ks vs
  | _, _ => False
def leafFs (P : Program) (lv : TypeId → Option (List Leaf)) : List Field → Nat → Option (List Leaf)
  | [], _ => some []
  | f :: fs, o => match lv f.type with
    | some ks => if f.offset = o ∧ P.cellsOf f.type = ks.length then (match leafFs P lv fs (o + ks.length) with
      | some r => some (ks ++ r)
      | none => none) else none
    | none => none
def leaves (P : Program) : Nat → TypeId → Option (List Leaf)
  | 0, _ => none
  | n + 1, t => match P.underlying t with
    | some (.int k) => some [.int k]
    | some .bool => some [.bool]
    | some (.struct fs) => leafFs P (leaves P n) fs.toList 0
    | _ => none
theorem Shape.nil_inv {vs : List Value} (h : Shape [] vs) : vs = [] := by
  cases vs with
  | nil => rfl
  | cons v vs => exact h.elim
theorem Shape.cons_inv {k : Leaf} {ks : List Leaf} {vs : List Value} (h : Shape (k :: ks) vs) : ∃ v vs', vs = v :: vs' ∧ k.ok v ∧ Shape ks vs' := by
  cases vs with
  | nil => exact h.elim
  | cons v vs => exact ⟨v, vs, rfl, h.1, h.2⟩
theorem Shape.length : ∀ {ks : List Leaf} {vs : List Value}, Shape ks vs → vs.length = ks.length
  | [], vs, h => by rw [h.nil_inv]; rfl
  | _ :: _, _, h => by obtain ⟨v, vs', rfl, _, h'⟩ := h.cons_inv; simp [h'.length]
theorem Shape.append : ∀ {ks ks' : List Leaf} {vs vs' : List Value}, Shape ks vs → Shape ks' vs' → Shape (ks ++ ks') (vs ++ vs')
  | [], _, vs, _, h, h' => by rw [h.nil_inv]; exact h'
  | _ :: _, _, _, _, h, h' => by obtain ⟨v, ws, rfl, hv, h2⟩ := h.cons_inv; exact ⟨hv, h2.append h'⟩
theorem Shape.ones : ∀ {ks : List Leaf} {vs : List Value}, Shape ks vs → ones vs = true
  | [], vs, h => by rw [h.nil_inv]; rfl
  | k :: _, _, h => by
    obtain ⟨v, ws, rfl, hv, h2⟩ := h.cons_inv
    have h3 : v.oneCell' = true := by
      cases k with
      | int k => obtain ⟨n, rfl, _⟩ := hv; rfl
      | bool => obtain ⟨b, rfl⟩ := hv; rfl
    have h4 := h2.ones
    unfold Pse.ones at h4 ⊢
    simp [h3, h4]
section
variable {H : Type} {enc : TypeId × Value → H} {P : Program} {W : World} {base b0 : Nat} {spare : Nat → Bool} {held : Bool}
end
end Go.Pse
namespace Go.Pse
open Go.RowKit Go.Proofs
theorem zrow_ok : MemOk (List.replicate 64 zrow) := ⟨List.length_replicate, fun r hr => by
  rw [List.eq_of_mem_replicate hr]
  exact ⟨List.length_replicate, fun x hx => by rw [List.eq_of_mem_replicate hx]; omega⟩⟩
structure One (K : KS) (cs cc : Int) (g : NewG) : Prop where
  rt : K.rt = []
  jn : K.jn = []
  nt : K.nt = []
  rg : K.rg = [(4, (g.bs 0).1, rgNew 5 6 cs cc)]
  mem : K.mem = List.replicate 64 zrow
  fit : Fits K 20 40
theorem one_is (g : NewG) : One (kNew 1 1 0 0 false g) 0 0 g ∧ One (kNew 1 1 3 4 false g) 3 4 g := by
  have hrg : ∀ cs cc : Int, 0 ≤ cc ∧ cc ≤ 4 → RgOk (rgNew 5 6 cs cc) := fun cs cc _ => rgNew_is ⟨by omega, by omega⟩ ⟨by omega, by omega⟩
  constructor
  · exact ⟨rfl, rfl, rfl, rfl, rfl, ⟨by omega, by omega, Ids.nil, by show 0 ≤ 40; omega, by show 0 ≤ 20; omega, fun x hx => (by cases hx), fun x hx => (by cases hx), fun x hx => by
      obtain rfl := List.mem_singleton.1 (show x ∈ [(7, (g.bs 0).2, (0, 0), false)] from hx)
      exact ⟨by show (1 : Int) ≤ 7; omega, by show (7 : Int) ≤ 64; omega⟩, fun x hx => by
      obtain rfl := List.mem_singleton.1 (show x ∈ [(4, (g.bs 0).1, rgNew 5 6 0 0)] from hx)
      exact ⟨hrg 0 0 (by omega), by show 0 ≤ 40; omega⟩, zrow_ok⟩⟩
  · exact ⟨rfl, rfl, rfl, rfl, rfl, ⟨by omega, by omega, Ids.nil, by show 0 ≤ 40; omega, by show 0 ≤ 20; omega, fun x hx => (by cases hx), fun x hx => (by cases hx), fun x hx => by
      obtain rfl := List.mem_singleton.1 (show x ∈ [(7, (g.bs 0).2, (0, 0), false)] from hx)
      exact ⟨by show (1 : Int) ≤ 7; omega, by show (7 : Int) ≤ 64; omega⟩, fun x hx => by
      obtain rfl := List.mem_singleton.1 (show x ∈ [(4, (g.bs 0).1, rgNew 5 6 3 4)] from hx)
      exact ⟨hrg 3 4 (by omega), by show 0 ≤ 40; omega⟩, zrow_ok⟩⟩
theorem One.fits {K : KS} {cs cc : Int} {g : NewG} (h : One K cs cc g) {ps : List (ID × Rq)} (hI : Ids ps) (hl : ps.length ≤ 12) : Fits { K with rt := ps } 20 60 :=
  ⟨h.fit.n, by omega, hI, by show K.jn.length + ps.length ≤ 60; rw [h.jn]; simp; omega, h.fit.tm, h.fit.ep, h.fit.nt, h.fit.rp, fun x hx => by
    have := h.fit.rg x hx
    exact ⟨this.1, by have := this.2; rw [h.rt] at this; simp at this; show _ + ps.length ≤ 60; omega⟩, h.fit.mem⟩
theorem ofQ_nil (g : Int) : ofQ [] g = [] := List.length_eq_zero_iff.1 (Nat.le_zero.1 (ofQ_len [] g))
variable {E : World} {l m : List As} {p b : Nat} {s : KS} {u : Int}
theorem coNtWaits (hp : Pick (coA p s) l m) {w0 : Int} {xs : List ID} (hl : look s.nt u = some (b, w0, xs)) (hb : xs.length ≤ 100000) :
  Con Tryz.prog 334 #[.pointer (some ⟨b, 0, none⟩)] E l (fun x : Value => x) (fun x => row 36 2 x (xs.map encI) :: coA p s :: m) := by
 refine J_con0 ?_
 obtain ⟨j, hj⟩ := look_ix hl
 have hjl := (List.getElem?_eq_some_iff.1 hj).1
 refine J_pick hp <| J_coO fun bn be br bg bt bs bp bl bk _ => J_keyd (ps := ptrs s.nt) HS fun hK => J_pick (A := each ntF s.nt) PC <| J_eachOut hj ?_
 skip
 refine J_asTo (B := ntA b 0 w0 xs) (by rfl) <| J_con (ntWaits (w := w0) (xs := xs) PC hb) fun x => J_pick (A := ntA b 0 w0 xs) PC <| J_asTo (B := ntF (u, b, w0, xs)) (by rfl) <| J_pick (A := each ntF _) PC <| J_pick (A := ntF (u, b, _)) PC <| J_eachIn (u, b, w0, xs) hjl ?_
 skip
 refine J_asTo (B := each ntF s.nt) (by rw [lset_same hj]) <| J_coS (p := p) (s := s) bn be br bg bt bs bp bl bk PX trivial ?_
 exact J_end SU
def ntW (i : ID) (a : Int × List ID) : Int × List ID := (0, waitL a.1 a.2 i)
/-! ### plain: two threads that share; the first ring's requests -/
structure Duo (K : KS) (g : NewG) : Prop where
  rt : K.rt = []
  jn : K.jn = []
  tm : K.tm = []
  nt : K.nt = [(22, g.bn, 0, [])]
  ep : K.ep = [(21, g.be, [], [])]
  rp : K.rp = [(7, (g.bs 0).2, (0, 0), false), (17, (g.bs 1).2, (0, 0), false)]
  rg : K.rg = [(4, (g.bs 0).1, rgNew 5 6 3 4), (14, (g.bs 1).1, rgNew 15 16 3 4)]
  be4 : look K.be 4 = some (22, 1)
  be14 : look K.be 14 = some (22, 2)
  mem : K.mem = List.replicate 64 zrow
  fit : Fits K 20 40
theorem rgNew_ok {a : Int} (h : 1 ≤ a ∧ a ≤ 63) : RgOk (rgNew a (a + 1) 3 4) := rgNew_is ⟨by omega, by omega⟩ ⟨by omega, by omega⟩
theorem Duo.fits {K : KS} {g : NewG} (h : Duo K g) {ps : List (ID × Rq)} (hI : Ids ps) (hl : ps.length ≤ 13) : Fits { K with rt := ps } 20 60 :=
  ⟨h.fit.n, by omega, hI, by show K.jn.length + ps.length ≤ 60; rw [h.jn]; simp; omega, h.fit.tm, h.fit.ep, h.fit.nt, h.fit.rp, fun x hx => by
    have := h.fit.rg x hx
    exact ⟨this.1, by have := this.2; rw [h.rt] at this; simp at this; show _ + ps.length ≤ 60; omega⟩, h.fit.mem⟩
/-! ### plain: deadlines -/
def cmpI (a b : Int) : Int := if a < b then -1 else if b < a then 1 else 0
def orI (zs : List Int) : Int := (zs.find? fun z => !decide (z = 0)).getD 0
def ordT (a b : Tm) : Int := orI [cmpI a.1 b.1, cmpI a.2.1 b.2.1, cmpI a.2.2 b.2.2]
def ltI (a b : ID) : Bool := decide (a.1 < b.1) || decide (a.1 = b.1) && decide (a.2 < b.2)
def ltT (a b : Tm) : Bool := decide (a.1 < b.1) || decide (a.1 = b.1) && ltI a.2 b.2
theorem ltT_iff {a b : Tm} : ltT a b = true ↔ a.1 < b.1 ∨ (a.1 = b.1 ∧ (a.2.1 < b.2.1 ∨ (a.2.1 = b.2.1 ∧ a.2.2 < b.2.2))) := by
  unfold ltT ltI; simp
theorem ltT_trans {a b c : Tm} (h1 : ltT a b = true) (h2 : ltT b c = true) : ltT a c = true := by
  rw [ltT_iff] at *; omega
theorem ltT_total {a b : Tm} (h : ltT a b = false) (hne : a.2 ≠ b.2) : ltT b a = true := by
  have h' : ¬ ltT a b = true := by simp [h]
  rw [ltT_iff] at *
  have : ¬ (a.2.1 = b.2.1 ∧ a.2.2 = b.2.2) := fun e => hne (Prod.ext e.1 e.2)
  omega
abbrev hdrop (xs : List Tm) (i : ID) : List Tm := xs.filter fun c => !isTm i c
def place (xs : List Tm) (x : Tm) : Nat := (xs.takeWhile fun c => ltT c x).length
def putT (xs : List Tm) (x : Tm) : List Tm := xs.take (place xs x) ++ x :: xs.drop (place xs x)
def hpush (xs : List Tm) (x : Tm) : List Tm := putT (hdrop xs x.2) x
def Srt (xs : List Tm) : Prop := xs.Pairwise fun a b => ltT a b = true
theorem place_le (xs : List Tm) (x : Tm) : place xs x ≤ xs.length := by
  unfold place
  induction xs with
  | nil => simp
  | cons c xs ih => rw [List.takeWhile_cons]; split <;> simp <;> omega
theorem place_iff {x : Tm} : ∀ {xs : List Tm}, Srt xs → ∀ {j : Nat} {c : Tm}, xs[j]? = some c → (ltT c x = true ↔ j < place xs x)
  | [], _, _, _, h => by simp at h
  | a :: xs, hs, j, c, h => by
    have hs' := List.pairwise_cons.1 hs
    unfold place
    rw [List.takeWhile_cons]
    by_cases ha : ltT a x = true
    · rw [if_pos ha]
      cases j with
      | zero => simp at h; subst h; simp [ha]
      | succ j =>
        have := place_iff (x := x) hs'.2 (j := j) (c := c) (by simpa using h)
        unfold place at this
        rw [this]
        simp
    · rw [if_neg ha]
      cases j with
      | zero => simp at h; subst h; simp [ha]
      | succ j =>
        have hc : c ∈ xs := List.mem_of_getElem? (by simpa using h : xs[j]? = some c)
        have h1 := hs'.1 c hc
        constructor
        · intro h2; exact absurd (ltT_trans h1 h2) ha
        · intro h2; simp at h2
variable {xs : List Tm}
theorem Srt.drop (h : Srt xs) (i : ID) : Srt (hdrop xs i) := List.Pairwise.sublist List.filter_sublist h
theorem Srt.tail (h : Srt xs) (j : Nat) : Srt (xs.drop j) := List.Pairwise.sublist (List.drop_sublist j xs) h
variable {i : ID}
theorem hdrop_ne {c : Tm} (h : c ∈ hdrop xs i) : c.2 ≠ i := by
  unfold hdrop at h
  rw [List.mem_filter, isTm_eq] at h
  simpa using h.2
theorem Srt.put {x : Tm} (h : Srt xs) (hne : ∀ c ∈ xs, c.2 ≠ x.2) : Srt (putT xs x) := by
  have hi := fun {j : Nat} {c : Tm} => place_iff (x := x) h (j := j) (c := c)
  unfold putT Srt
  have hle := place_le xs x
  have hta : ∀ a ∈ xs.take (place xs x), ltT a x = true := fun a ha => by
    obtain ⟨j, hj⟩ := List.mem_iff_getElem?.1 ha
    rw [List.getElem?_take] at hj
    split at hj
    · exact (hi hj).2 (by assumption)
    · cases hj
  have hdr : ∀ b ∈ xs.drop (place xs x), ltT x b = true := fun b hb => by
    obtain ⟨j, hj⟩ := List.mem_iff_getElem?.1 hb
    rw [List.getElem?_drop] at hj
    have hn : ¬ ltT b x = true := fun e => by have := (hi hj).1 e; omega
    exact ltT_total (by simpa using hn) (hne b (List.mem_of_getElem? hj))
  rw [List.pairwise_append]
  refine ⟨List.Pairwise.sublist (List.take_sublist _ _) h, ?_, ?_⟩
  · rw [List.pairwise_cons]
    exact ⟨hdr, List.Pairwise.sublist (List.drop_sublist _ _) h⟩
  · intro a ha b hb
    rcases List.mem_cons.1 hb with rfl | hb
    · exact hta a ha
    · exact ltT_trans (hta a ha) (hdr b hb)
theorem Srt.push (h : Srt xs) (x : Tm) : Srt (hpush xs x) := (h.drop x.2).put fun _ hc => hdrop_ne hc
theorem isnan307 (a : Int) :
    Con Tryz.prog 307 #[.int .u64 a] E l (fun _ : Unit => .bool false) (fun _ => l) := by
  refine Con.body (n := 6) Tryz.func307 Z Z _ (env_ok 1 Z) <| sr <| ag Z Z <| nx <| mv Z Z <| mv Z Z <| L_pur Z (p_neq Z Z) <| ag Z Z <| nq <| J_ret <| J_return (()) Tryz.results307 (.tmp Z .nil) ?_ ?_
  · simp [one]
  · exact SU
theorem isnan125 (a : Int) :
    Con Tryz.prog 125 #[.int .i64 a] E l (fun _ : Unit => .bool false) (fun _ => l) := by
  refine Con.body (n := 6) Tryz.func125 Z Z _ (env_ok 1 Z) <| sr <| ag Z Z <| nx <| mv Z Z <| mv Z Z <| L_pur Z (p_neq Z Z) <| ag Z Z <| nq <| J_ret <| J_return (()) Tryz.results125 (.tmp Z .nil) ?_ ?_
  · simp [one]
  · exact SU
theorem compare266 (a b : Int) :
    Con Tryz.prog 266 #[.int .u64 a, .int .u64 b] E l (fun _ : Unit => .int .i64 (cmpI a b)) (fun _ => l) := by
  refine Con.body (n := 20) Tryz.func266 Z Z _ (env_ok 2 Z) <| sr <| ag Z Z <| nx <| mv Z Z <| xo fc307 (A1 Z) Z (isnan307 _) fun _ => ag Z Z <| nx <| mv Z Z <| xo fc307 (A1 Z) Z (isnan307 _) fun _ => ag Z Z <| nxx <| mv Z Z <| nq <| J_bool (t := 11) (c := false) Z (rfl) <| C_false Z <| J_skip <| Q_then <| J_seq <| sr <| mv Z Z <| nq <| J_bool (t := 13) (c := false) Z (rfl) <| C_false Z <| J_skip <| Q_then <| J_seq <| sr <| mv Z Z <| mv Z Z <| L_pur Z (p_lss Z Z) <| nq <| C_dec Z (fun h16 => ?_) (fun h16 => ?_)
  refine sr <| ag Z Z <| nq <| J_ret <| Q_then_ret <| J_return (()) Tryz.results266 (.tmp Z .nil) ?_ ?_
  · simp [one, cmpI, h16]
  · exact SU
  refine J_skip <| Q_then <| J_seq <| sr <| mv Z Z <| mv Z Z <| L_pur Z (p_gtr Z Z) <| nq <| C_dec Z (fun h19 => ?_) (fun h19 => ?_)
  refine sr <| ag Z Z <| nq <| J_ret <| Q_then_ret <| J_return (()) Tryz.results266 (.tmp Z .nil) ?_ ?_
  · simp [one, cmpI, h16, h19]
  · exact SU
  refine J_skip <| qx <| ag Z Z <| nq <| J_ret <| J_return (()) Tryz.results266 (.tmp Z .nil) ?_ ?_
  · simp [one, cmpI, h16, h19]
  · exact SU
theorem compare76 (a b : Int) :
    Con Tryz.prog 76 #[.int .i64 a, .int .i64 b] E l (fun _ : Unit => .int .i64 (cmpI a b)) (fun _ => l) := by
  refine Con.body (n := 20) Tryz.func76 Z Z _ (env_ok 2 Z) <| sr <| ag Z Z <| nx <| mv Z Z <| xo fc125 (A1 Z) Z (isnan125 _) fun _ => ag Z Z <| nx <| mv Z Z <| xo fc125 (A1 Z) Z (isnan125 _) fun _ => ag Z Z <| nxx <| mv Z Z <| nq <| J_bool (t := 11) (c := false) Z (rfl) <| C_false Z <| J_skip <| Q_then <| J_seq <| sr <| mv Z Z <| nq <| J_bool (t := 13) (c := false) Z (rfl) <| C_false Z <| J_skip <| Q_then <| J_seq <| sr <| mv Z Z <| mv Z Z <| L_pur Z (p_lss Z Z) <| nq <| C_dec Z (fun h16 => ?_) (fun h16 => ?_)
  refine sr <| ag Z Z <| nq <| J_ret <| Q_then_ret <| J_return (()) Tryz.results76 (.tmp Z .nil) ?_ ?_
  · simp [one, cmpI, h16]
  · exact SU
  refine J_skip <| Q_then <| J_seq <| sr <| mv Z Z <| mv Z Z <| L_pur Z (p_gtr Z Z) <| nq <| C_dec Z (fun h19 => ?_) (fun h19 => ?_)
  refine sr <| ag Z Z <| nq <| J_ret <| Q_then_ret <| J_return (()) Tryz.results76 (.tmp Z .nil) ?_ ?_
  · simp [one, cmpI, h16, h19]
  · exact SU
  refine J_skip <| qx <| ag Z Z <| nq <| J_ret <| J_return (()) Tryz.results76 (.tmp Z .nil) ?_ ?_
  · simp [one, cmpI, h16, h19]
  · exact SU
theorem orInts {v : Value} {zs : List Int} (hr : ∀ w, Sep E w l → Reads w 1 v (zs.map encZ)) (hb : zs.length ≤ 1000) :
    Con Tryz.prog 83 #[v] E l (fun _ : Unit => .int .i64 (orI zs)) (fun _ => l) := by
  refine Con.body (n := 18) Tryz.func83 Z Z _ (env_ok 1 Z) <| J_readsB hr fun hw a cap hv h1 h2 h3 => ?_
  subst hv
  have hm : cap ≤ 9223372036854775807 := h2
  have hml : (zs.map encZ).length = zs.length := List.length_map _
  refine sr <| ag Z Z <| nx <| ag Z Z <| nxx <| mv Z Z <| L_pur Z (p_len Z Tryz.underlying55) <| mv Z Z <| nq <| J_block <| J_loop (α := Nat) (fun k => k ≤ zs.length ∧ ∀ c ∈ zs.take k, (!decide (c = 0)) = false) (fun _ => l) (fun k => [(8, .int .i64 (k : Int)), (7, .int .i64 (zs.map encZ).length), (6, .slice a (zs.map encZ).length cap), (3, .int .i64 0)]) (fun k => zs.length - k) 0 ⟨by omega, by simp⟩ SU KE ?_
  intro k ⟨hk, hq⟩
  refine sr <| L_pur Z (p_lss Z Z) <| nq <| J_seq <| C_dec Z (fun h9 => ?_) (fun h9 => ?_)
  have hlt : k < zs.length := by omega
  obtain ⟨bx, ox, rfl⟩ := h3 (by intro h; rw [h] at hml; simp at hml; omega)
  obtain ⟨c, hcc⟩ : ∃ c, zs[k]? = some c := ⟨_, List.getElem?_eq_getElem hlt⟩
  refine J_skip <| Q_then <| J_seq <| J_block <| sr <| L_pur Z (p_indexAddr Z Z Tryz.underlying55 ty3 (by omega) (by omega)) <| L_val Z (by first | exact v_loadE1 Z ty3 HS (by first | (simp only [Int.toNat_natCast, List.getElem?_map, hcc]; rfl) | (simp only [Int.toNat_natCast, List.getElem?_map, hcd]; rfl) | simp | rfl) | exact v_loadR1 Z ty3 (fun w H => hr w (Sub.sep SU H)) (by first | (simp only [Int.toNat_natCast, List.getElem?_map, hcc]; rfl) | (simp only [Int.toNat_natCast, List.getElem?_map, hcd]; rfl) | simp | rfl)) ?_
  refine ag Z Z <| nx <| mv Z Z <| mv Z Z <| L_pur Z (p_neq Z Z) <| nq <| C_dec Z (fun h14 => ?_) (fun h14 => ?_)
  have hor : orI zs = c := by
    unfold orI
    have e : zs = zs.take k ++ c :: zs.drop (k + 1) := by
      conv => lhs; rw [← List.take_append_drop k zs, List.drop_eq_getElem_cons hlt, (List.getElem?_eq_some_iff.1 hcc).2]
    rw [e, List.find?_append, List.find?_eq_none.2 (fun x hx => by simpa using hq x hx), List.find?_cons]
    simp [h14]
  refine sr <| mv Z Z <| ag Z Z <| nq <| J_ret <| Q_blk_ret <| Q_then_ret <| Q_then_ret <| Q_blk_ret <| Q_then_ret <| J_return (()) Tryz.results83 (.tmp Z .nil) ?_ ?_
  · simp [one, hor]
  · exact SU
  refine J_skip <| Q_blk_normal <| qr <| L_pur Z (p_add64 Z Z (by omega)) <| mv Z Z <| nq ?_
  exact J_again (k + 1) (by omega) (⟨by omega, fun c hc => by rw [List.take_add_one, hcc] at hc; rcases List.mem_append.1 hc with h | h; exact hq c h; simp at h; subst h; simpa using h14⟩) SU KE
  have hke : k = zs.length := by omega
  rw [hke, List.take_length] at hq
  have hor : orI zs = 0 := by
    unfold orI
    rw [List.find?_eq_none.2 (fun x hx => by simpa using hq x hx)]; rfl
  refine J_exit <| Q_then_exit <| Q_then_exit <| Q_blk_this <| qx <| mv Z Z <| ag Z Z <| nq <| J_ret <| J_return (()) Tryz.results83 (.tmp Z .nil) ?_ ?_
  · simp [one, hor]
  · exact SU
theorem order (a b : Tm) :
  Con Tryz.prog 201 #[.agg (encT a).toArray, .agg (encT b).toArray] E l (fun _ : Unit => .int .i64 (ordT a b)) (fun _ => l) := by
 refine Con.body (n := 26) Tryz.func201 Z Z _ (env_ok 2 Z) <| sr <| L_op <| x_box Z Z Z fun b2 => L_op <| x_box Z Z Z fun b3 => ag Z Z <| nq <| J_seq <| J_drawI none [blk b2 308 (encT a), blk b3 308 (encT b)] mixed <| ip 0 Z Z Z Z (p_fieldAddr Z fa308_0) <| iv 1 Z Z Z Z (fun _ => v_load Z ty102 HS (by exact rfl)) <| ip 2 Z Z Z Z (p_fieldAddr Z fa308_0) <| iv 3 Z Z Z Z (fun _ => v_load Z ty102 HS (by exact rfl)) <| ip 5 Z Z Z Z (p_fieldAddr Z fa308_1) <| ip 6 Z Z Z Z (p_fieldAddr Z fa36_0) <| iv 7 Z Z Z Z (fun _ => v_load Z ty3 HS (by exact rfl)) <| ip 8 Z Z Z Z (p_fieldAddr Z fa308_1) <| ip 9 Z Z Z Z (p_fieldAddr Z fa36_0) <| iv 10 Z Z Z Z (fun _ => v_load Z ty3 HS (by exact rfl)) <| ip 12 Z Z Z Z (p_fieldAddr Z fa308_1) <| ip 13 Z Z Z Z (p_fieldAddr Z fa36_1) <| iv 14 Z Z Z Z (fun _ => v_load Z ty3 HS (by exact rfl)) ?_
 refine ip 15 Z Z Z Z (p_fieldAddr Z fa308_1) <| ip 16 Z Z Z Z (p_fieldAddr Z fa36_1) <| iv 17 Z Z Z Z (fun _ => v_load Z ty3 HS (by exact rfl)) <| i1 4 Z <| xc fc266 (A2 Z Z) Z (compare266 _ _) fun _ => i1 11 Z <| xc fc76 (A2 Z Z) Z (compare76 _ _) fun _ => i1 18 Z <| xc fc76 (A2 Z Z) Z (compare76 _ _) fun _ => i1 19 Z <| x_lit (vals := [_, _, _]) Tryz.underlying55 ty3 Z (.cons Z (.cons Z (.cons Z .nil))) (.one Z (.one Z (.one Z .nil))) (Wf.cons Z Z (Wf.cons Z Z (Wf.cons Z Z Wf.nil))) Z (by decide) Z Z fun v24 => J_rowEq (ys := [cmpI a.1 b.1, cmpI a.2.1 b.2.1, cmpI a.2.2 b.2.2].map encZ) (rfl) <| J_row .here fun hw24 a24 c24 hv24 hl24 hm24 hz24 => ?_
 subst hv24
 refine i1 20 Z <| xc fc83 (A1 Z) Z (orInts (zs := [cmpI a.1 b.1, cmpI a.2.1 b.2.1, cmpI a.2.2 b.2.2]) (fun w H => sep_reads (xs := [cmpI a.1 b.1, cmpI a.2.1 b.2.1, cmpI a.2.2 b.2.2].map encZ) HS H) (by simp)) fun _ => ip 21 Z Z Z Z (p_assign Z) <| i0 <| Q_then <| J_ret ?_
 exact J_return (()) Tryz.results201 (.tmp Z .nil) Z SU
variable {r : Rg}
theorem coClear (hp : Pick (coA p s) l m) (hl : look s.rg u = some (b, r)) :
  Con Tryz.prog 337 #[.pointer (some ⟨b, 0, none⟩)] E l (fun _ : Unit => .int .i64 (r.over.length : Int)) (fun _ => coA p { s with rg := updO s.rg u (fun r => { r with over := [] }) } :: m) := by
 refine J_con0 ?_
 obtain ⟨j, hj⟩ := look_ix hl
 have hjl := (List.getElem?_eq_some_iff.1 hj).1
 refine J_pick hp <| J_coO fun bn be br bg bt bs bp bl bk _ => J_keyd (ps := ptrs s.rg) HS fun hK => J_pick (A := each (rgF s.mb) s.rg) PC <| J_eachOut hj ?_
 skip
 refine J_asTo (B := rgA b s.mb r) (by rfl) <| J_con (ringClear (r := r) PC) fun x => J_pick (A := rgA b s.mb { r with over := [] }) PC <| J_asTo (B := (rgF s.mb) (u, b, ((fun r => { r with over := [] })) (r))) (by rfl) <| J_pick (A := each (rgF s.mb) _) PC <| J_pick (A := (rgF s.mb) (u, b, _)) PC <| J_eachIn (u, b, ((fun r => { r with over := [] })) (r)) hjl ?_
 skip
 refine J_asTo (B := each (rgF s.mb) (updO s.rg u (fun r => { r with over := [] }))) (by rw [updO_set hK hj]) <| J_pick (A := mapV kZ evA (.map (some bg)) (ptrs s.rg)) PC <| J_mapEq (qs := ptrs (updO s.rg u (fun r => { r with over := [] }))) ptrs_updO.symm <| J_coS (p := p) (s := { s with rg := updO s.rg u (fun r => { r with over := [] }) }) bn be br bg bt bs bp bl bk PX trivial ?_
 exact J_end SU
theorem rem_erase {α : Type} {xs : List (Int × Nat × α)} {i : Nat} {a : α} (hK : Keyd (ptrs xs)) (hi : xs[i]? = some (u, b, a)) : rem xs u = xs.eraseIdx i := by
  have hK' : Keyd xs := by
    unfold Keyd at hK ⊢
    rw [show (ptrs xs).map Prod.fst = xs.map Prod.fst by unfold ptrs; rw [List.map_map]; rfl] at hK
    exact hK
  exact del_at (ps := xs) hK' hi Z
/-! ### plain: a ring is torn down -/
def deedG (q : Rq) : Deed := (q.id, q.e.tag, q.e.op, 0, 0, true)
def kTear1 (s : KS) (q : Rq) : KS := { kForget { s with rt := del s.rt q.id } q.id with jn := s.jn ++ [deedG q] }
def kTearL (s : KS) (l : List Rq) : KS := l.foldl kTear1 s
def kCleared (s : KS) (g : Int) : KS := { s with rg := updO s.rg g (fun r => { r with over := [] }) }
def kTear (s : KS) (g : Int) : KS := if (look s.rg g).isSome then kGone (kCleared (kTearL s (ofQ s.rt g)) g) 9 g else s
theorem kTearL_snoc {l : List Rq} {q : Rq} : kTearL s (l ++ [q]) = kTear1 (kTearL s l) q := by unfold kTearL; rw [List.foldl_append]; rfl
theorem kTearL_rg : ∀ {l : List Rq} {s : KS}, (kTearL s l).rg = s.rg ∧ (kTearL s l).mb = s.mb ∧ (kTearL s l).ep = (kTearL s l).ep
  | [], s => ⟨rfl, rfl, rfl⟩
  | q :: l, s => by
    have h := kTearL_rg (l := l) (s := kTear1 s q)
    exact ⟨h.1, h.2.1, rfl⟩
variable {N M : Nat}
theorem Fits.delAny (h : Fits s N M) (i : ID) : Fits { s with rt := del s.rt i } N M := by
  have hl := del_le (ps := s.rt) (i := i)
  exact ⟨h.n, h.mm, h.ids.del i, by have := h.jn; show s.jn.length + (del s.rt i).length ≤ M; omega, h.tm, h.ep, h.nt, h.rp, fun x hx => ⟨(h.rg x hx).1, by have := (h.rg x hx).2; show _ + (del s.rt i).length ≤ M; omega⟩, h.mem⟩
variable {g : Int}
theorem cleared_look (h : look s.rg g = some (b, r)) : look (kCleared s g).rg g = some (b, { r with over := [] }) := by
  have e : (kCleared s g).rg = updO s.rg g (fun r => { r with over := [] }) := rfl
  rw [e, look_updO, h]; simp
theorem Fits.tear1 (h : Fits s N M) (hm : M + 1 ≤ 90000) (q : Rq) : Fits (kTear1 s q) N (M + 1) := by
  have h1 := h.delAny q.id
  exact (h1.forget q.id).jnl hm (deedG q)
theorem Fits.tearL {N : Nat} : ∀ {l : List Rq} {s : KS} {M : Nat}, Fits s N M → M + l.length ≤ 90000 → Fits (kTearL s l) N (M + l.length)
  | [], s, M, h, _ => h
  | q :: l, s, M, h, hm => by
    have := Fits.tearL (l := l) (h.tear1 (by simp at hm; omega) q) (by simp at hm; omega)
    rw [List.length_cons, show M + (l.length + 1) = M + 1 + l.length by omega]
    exact this
theorem coGoneRing (hp : Pick (coA p s) l m) (hl : look s.rg u = some (b, r)) :
  Con Tryz.prog 327 #[.pointer (some ⟨p, 0, none⟩), .agg (encI (9, u)).toArray] E l (fun _ : Unit => .tuple #[]) (fun _ => coA p (kGone s 9 u) :: rgA b s.mb r :: m) := by
 refine Con.body (n := 74) Tryz.func327 Z Z _ (env_ok 2 Z) <| J_pick hp <| J_coO fun bn be br bg bt bs bp bl bk _ => ?_
 obtain ⟨j, hj⟩ := look_ix hl
 refine J_keyd (ps := ptrs s.rg) HS fun hK => J_pick (A := each (rgF s.mb) s.rg) PC <| J_eachOut hj ?_
 skip
 refine J_asTo (B := rgA b s.mb r) (by rfl) <| sr <| L_op <| x_box Z Z Z fun b3 => nx <| fa Z Z fa449_0 <| L_val Z (v_load Z ty3 HS (by exact rfl)) <| nq <| J_block <| sr <| L_pur Z (p_eql Z Z) <| ag Z Z <| nq <| J_bool (t := 6) (c := false) Z (rfl) <| C_false Z <| sr <| L_pur Z (p_eql Z Z) <| ag Z Z <| nq <| J_bool (t := 14) (c := false) Z (rfl) <| C_false Z <| sr <| L_pur Z (p_eql Z Z) <| ag Z Z <| nq <| J_bool (t := 22) (c := false) Z (rfl) <| C_false Z <| sr <| L_pur Z (p_eql Z Z) <| ag Z Z <| nq <| J_bool (t := 30) (c := false) Z (rfl) <| C_false Z <| sr <| L_pur Z (p_eql Z Z) <| ag Z Z <| nq <| J_bool (t := 38) (c := false) Z (rfl) <| C_false Z <| sr <| L_pur Z (p_eql Z Z) <| ag Z Z <| nq <| J_bool (t := 52) (c := false) Z (rfl) <| C_false Z <| sr <| L_pur Z (p_eql Z Z) ?_
 refine ag Z Z <| nq <| J_bool (t := 66) (c := true) Z (rfl) <| C_true Z <| J_drawT 6 mixed (by kernel_rfl) <| sm Z Z <| sp Z (p_nilCheck Z) <| sp Z (p_fieldAddr Z fa153_12) <| S_val Z (v_loadL (o := 13) (i := 3) Z ty147 HS Z (by exact rfl)) <| sp Z (p_fieldAddr Z fa449_1) <| S_val Z (v_load Z ty3 HS (by exact rfl)) <| S_nil <| L_op <| x_delete (ek := kZ) (ev := evA) (a := u) Z Z ky3 Tryz.underlying147 PC <| L_nil <| Q_blk_normal <| J_endnormal <| J_pick (A := each (rgF s.mb) (s.rg.eraseIdx j)) PC <| J_asTo (B := each (rgF s.mb) (rem s.rg u)) (by rw [rem_erase hK hj]) <| J_pick (A := mapV kZ evA (.map (some bg)) _) PC <| J_mapEq (qs := ptrs (rem s.rg u)) ptrs_rem <| J_coS (p := p) (s := { s with rg := rem s.rg u }) bn be br bg bt bs bp bl bk PX trivial <| J_asTo (B := coA p (kGone s 9 u)) (by rfl) ?_
 exact J_return (()) Tryz.results327 .nil Z SU
theorem coTearNo (hp : Pick (coA p s) l m) (hl : look s.rg g = none) :
    Con Tryz.prog 326 #[.pointer (some ⟨p, 0, none⟩), .int .i64 g] E l (fun _ : Unit => .bool false) (fun _ => coA p s :: m) := by
  refine Con.body (n := 50) Tryz.func326 Z Z _ (env_ok 2 Z) <| J_pick hp <| sr <| ag Z Z <| nx <| mv Z Z <| mv Z Z <| xo fc43 (A2 Z Z) Z (coRing (s := s) (u := g) PC) fun _ => J_slot (t := 10) (v := .pointer none) Z (by rw [look_ptrs, hl]; rfl) <| ag Z Z <| nxx <| mv Z Z <| L_pur Z (p_eqNilPtr Tryz.underlying80 Z) <| nq <| J_bool (t := 12) (c := true) Z (rfl) <| C_true Z <| sr <| ag Z Z <| nq <| J_ret <| Q_then_ret ?_
  exact J_return (()) Tryz.results326 (.tmp Z .nil) Z SU
theorem coTear (hp : Pick (coA p s) l m) (hl : look s.rg g = some (b, r)) (hF : Fits s N M) (hm : M + s.rt.length ≤ 90000) :
  Con Tryz.prog 326 #[.pointer (some ⟨p, 0, none⟩), .int .i64 g] E l (fun _ : Unit => .bool true) (fun _ => coA p (kTear s g) :: rgA b s.mb { r with over := [] } :: m) := by
 refine Con.body (n := 50) Tryz.func326 Z Z _ (env_ok 2 Z) <| J_pick hp <| sr <| ag Z Z <| nx <| mv Z Z <| mv Z Z <| xo fc43 (A2 Z Z) Z (coRing (s := s) (u := g) PC) fun _ => J_slot (t := 10) (v := .pointer (some ⟨b, 0, none⟩)) Z (by rw [look_is hl]; rfl) <| ag Z Z <| nxx <| mv Z Z <| L_pur Z (p_eqNilPtr Tryz.underlying80 Z) <| nq <| J_bool (t := 12) (c := false) Z (rfl) <| C_false Z <| J_skip <| Q_then <| J_seq <| sr <| mv Z Z <| xo fc16 (A1 Z) Z (coReqs) fun _ => mv Z Z <| xo fc23 (A2 Z Z) Z (coRqOf (s := s) (g := g) PC hF.ids (by have := hF.jn; have := hF.mm; omega)) <| JR fun a16 c16 hw16 hl16 hm16 hz16 => ?_
 have hol := ofQ_len s.rt g
 obtain ⟨xs, hxs⟩ : ∃ xs, xs = ofQ s.rt g := ⟨_, rfl⟩
 refine J_pick (A := row 122 13 _ _) PC <| J_rowTo (ys := xs.map encQ) (v' := .slice a16 (xs.map encQ).length c16) (by rw [hxs]) (by rw [hxs]) <| J_slot (t := 16) (v := .slice a16 (xs.map encQ).length c16) Z (by rw [hxs]) ?_
 rw [← hxs] at hol hz16
 have hmcap : c16 ≤ 9223372036854775807 := hm16
 have hml : (xs.map encQ).length = xs.length := List.length_map _
 refine J_pick (A := coA p s) PC <| J_asTo (B := coA p (kTearL s (xs.take 0))) (by rw [List.take_zero]; rfl) <| L_pur Z (p_len Z Tryz.underlying46) <| mv Z Z <| nq <| J_block <| J_loop (α := Nat) (fun k => k ≤ xs.length) (fun k => row 122 13 (.slice a16 (xs.map encQ).length c16) (xs.map encQ) :: coA p (kTearL s (xs.take k)) :: m) (fun k => [(18, .int .i64 (k : Int)), (16, .slice a16 (xs.map encQ).length c16), (17, .int .i64 ((xs.map encQ).length : Int)), (0, .pointer (some ⟨p, 0, none⟩)), (1, .int .i64 g), (5, .pointer (some ⟨b, 0, none⟩))]) (fun k => xs.length - k) 0 (by omega) SU KE ?_
 intro k hk
 refine sr <| L_pur Z (p_lss Z Z) <| nq <| J_seq <| C_dec Z (fun h19 => ?_) (fun h19 => ?_)
 have hlt : k < xs.length := by omega
 obtain ⟨bx, ox, rfl⟩ := hz16 (by intro h; rw [h] at hml; simp at hml; omega)
 obtain ⟨c, hcc⟩ : ∃ c, xs[k]? = some c := ⟨_, List.getElem?_eq_getElem hlt⟩
 have hFk : Fits (kTearL s (xs.take k)) N (M + k) := by have := hF.tearL (l := xs.take k) (by simp; omega); rwa [List.length_take, Nat.min_eq_left (by omega)] at this
 have hFd : Fits { (kTearL s (xs.take k)) with rt := del (kTearL s (xs.take k)).rt c.id } N (M + k) := hFk.delAny c.id
 refine J_skip <| Q_then <| J_seq <| J_block <| sr <| L_pur Z (p_indexAddr Z Z Tryz.underlying46 ty122 (by omega) (by omega)) <| L_val Z (v_loadE Z ty122 HS (by first | (simp only [Int.toNat_natCast, List.getElem?_map, hcc]; rfl) | (simp only [Int.toNat_natCast, List.getElem?_map, hcd]; rfl) | simp | rfl)) ?_
 refine L_op <| x_alloc ty122 Z fun b7 => L_op <| x_store Z Z ty122 Z SM SM RO PT <| J_pick (A := blk b7 _ _) PC <| J_asTo (B := blk b7 122 (encQ c)) (by rfl) <| nq <| J_seq <| J_drawL (some 4) mixed <| ip 0 Z Z Z Z (p_move Z) <| ip 2 Z Z Z Z (p_fieldAddr Z fa122_0) <| iv 3 Z Z Z Z (fun _ => v_loadA Z ty36 HS CT) <| i1 1 Z <| xc fc16 (A1 Z) Z (coReqs) fun _ => i1 4 Z <| xc fc119 (A2 Z Z) Z (coRqDrop (s := (kTearL s (xs.take k))) (i := c.id) PC) fun _ => i0 <| qx <| mv Z Z <| fa Z Z fa122_0 <| L_val Z (v_loadA Z ty36 HS CT) <| xo fc120 (A2 Z Z) Z (coForget (s := { (kTearL s (xs.take k)) with rt := del (kTearL s (xs.take k)).rt c.id }) (i := c.id) PC hFd) fun _ => nq <| J_drawL (some 11) mixed <| ip 0 Z Z Z Z (p_move Z) <| ip 2 Z Z Z Z (p_fieldAddr Z fa122_0) <| iv 3 Z Z Z Z (fun _ => v_loadA Z ty36 HS CT) ?_
 refine ip 4 Z Z Z Z (p_fieldAddr Z fa122_1) <| ip 5 Z Z Z Z (p_fieldAddr Z fa34_2) <| iv 6 Z Z Z Z (fun _ => v_load Z ty22 HS (by exact rfl)) <| ip 7 Z Z Z Z (p_fieldAddr Z fa122_1) <| ip 8 Z Z Z Z (p_fieldAddr Z fa34_0) <| iv 9 Z Z Z Z (fun _ => v_load Z ty3 HS (by exact rfl)) <| ip 10 Z Z Z Z (bld45 (.cons Z (.cons Z (.cons Z (.cons Z .nil)))) (by repeat constructor)) <| J_slot (t := 41) (v := .agg (encD (deedG c)).toArray) Z Z <| i1 1 Z <| xc fc17 (A1 Z) Z (coJournal) fun _ => i1 11 Z <| xc fc174 (A2 Z Z) Z (coJAdd (s := kForget { (kTearL s (xs.take k)) with rt := del (kTearL s (xs.take k)).rt c.id } c.id) (d := deedG c) PC (by have := hFk.jn; have := hFk.mm; show (kTearL s (xs.take k)).jn.length ≤ 200000; omega)) fun _ => J_pick (A := coA p _) PC ?_
 refine J_asTo (B := coA p (kTearL s (xs.take (k + 1)))) (by rw [List.take_add_one, hcc, Option.toList_some, kTearL_snoc]; rfl) <| i0 <| Q_blk_normal <| qr <| L_pur Z (p_add64 Z Z (by omega)) <| mv Z Z <| nq ?_
 exact J_again (k + 1) (by omega) (by omega) SU KE
 have hkx : k = xs.length := by omega
 subst hkx
 rw [List.take_length]
 have hl2 : look (kTearL s xs).rg g = some (b, r) := by rw [kTearL_rg.1]; exact hl
 refine J_exit <| Q_then_exit <| Q_then_exit <| Q_blk_this <| qx <| mv Z Z <| xo fc337 (A1 Z) Z (coClear (s := kTearL s xs) (u := g) (r := r) PC hl2) fun _ => J_pick (A := coA p _) PC <| J_asTo (B := coA p (kCleared (kTearL s xs) g)) (by rfl) <| nx <| mv Z Z <| mv Z Z <| L_pur Z (bld449 (.cons Z (.cons Z .nil)) (by repeat constructor)) <| J_slot (t := 48) (v := .agg (encI (9, g)).toArray) Z Z <| xo fc327 (A2 Z Z) Z (coGoneRing (s := kCleared (kTearL s xs) g) (u := g) (b := b) (r := { r with over := [] }) PC (cleared_look hl2)) fun _ => nx <| ag Z Z <| nq <| J_ret <| J_pick (A := coA p _) PC <| J_asTo (B := coA p (kTear s g)) (by unfold kTear; rw [hl, ← hxs]; rfl) <| J_pick (A := rgA b _ _) PC <| J_asTo (B := rgA b s.mb { r with over := [] }) (by rw [show (kCleared (kTearL s xs) g).mb = s.mb from kTearL_rg.2.1]) ?_
 exact J_return (()) Tryz.results326 (.tmp Z .nil) Z SU
theorem rpBindC {c : ID × Bool} (hp : Pick (rpA b c) l m) :
    Con Tryz.prog 287 #[.pointer (some ⟨b, 0, none⟩), .agg (encI i).toArray] E l (fun _ : Unit => .tuple #[.agg (encI c.1).toArray, .bool c.2]) (fun _ => rpA b (i, true) :: m) := by
  refine Con.body (n := 22) Tryz.func287 Z Z _ (env_ok 2 Z) <| J_pick hp <| sr <| L_op <| x_box Z Z Z fun b3 => L_op <| x_alloc ty36 Z fun b4 => ag Z Z <| nx <| mv Z Z <| xo fc289 (A1 Z) Z (rpCaller (c := c) PC) fun _ => J_pick (A := rpA b c) PC <| J_asTo (B := blk b 243 [.int .i64 c.1.1, .int .i64 c.1.2, .bool c.2]) (by rfl) <| mv Z Z <| L_pur Z (p_extract Z Z) <| L_pur Z (p_extract Z Z) <| L_op <| x_alloc ty36 Z fun b6 => L_op <| x_store Z Z ty36 Z SM SM RO PT <| J_pick (A := blk b6 _ _) PC <| J_asTo (B := blk b6 36 (encI c.1)) (by rfl) <| ag Z Z <| nx <| mv Z Z <| mv Z Z <| L_val Z (v_loadA Z ty36 HS CT) <| nc Z Z <| fa Z Z fa243_0 <| L_op <| x_store Z Z ty36 Z SM SM RO PT <| nc Z Z <| fa Z Z fa243_1 <| L_op <| x_store Z Z ty4 Z SM SM RO PT <| nx <| L_val Z (v_loadA Z ty36 HS CT) <| mv Z Z <| L_op <| x_store Z Z ty36 Z SM SM RO PT ?_
  refine ag Z Z <| nq <| J_ret <| J_pick (A := blk b _ _) PC <| J_asTo (B := rpA b (i, true)) (by rfl) <| J_return (()) Tryz.results287 (.cellA Z ty36 HS CT (.tmp Z .nil)) ?_ ?_
  · rfl
  · exact SU
theorem coRpBind (hp : Pick (coA p s) l m) {c : ID × Bool} (hl : look s.rp u = some (b, c)) :
  Con Tryz.prog 287 #[.pointer (some ⟨b, 0, none⟩), .agg (encI i).toArray] E l (fun _ : Unit => .tuple #[.agg (encI c.1).toArray, .bool c.2]) (fun _ => coA p { s with rp := updO s.rp u (fun _ => (i, true)) } :: m) := by
 refine J_con0 ?_
 obtain ⟨j, hj⟩ := look_ix hl
 have hjl := (List.getElem?_eq_some_iff.1 hj).1
 refine J_pick hp <| J_coO fun bn be br bg bt bs bp bl bk _ => J_keyd (ps := ptrs s.rp) HS fun hK => J_pick (A := each rpF s.rp) PC <| J_eachOut hj ?_
 skip
 refine J_asTo (B := rpA b c) (by rfl) <| J_con (rpBindC (c := c) (i := i) PC) fun x => J_pick (A := rpA b (i, true)) PC <| J_asTo (B := rpF (u, b, ((fun _ => (i, true))) (c))) (by rfl) <| J_pick (A := each rpF _) PC <| J_pick (A := rpF (u, b, _)) PC <| J_eachIn (u, b, ((fun _ => (i, true))) (c)) hjl ?_
 skip
 refine J_asTo (B := each rpF (updO s.rp u (fun _ => (i, true)))) (by rw [updO_set hK hj]) <| J_pick (A := mapV kZ evA (.map (some br)) (ptrs s.rp)) PC <| J_mapEq (qs := ptrs (updO s.rp u (fun _ => (i, true)))) ptrs_updO.symm <| J_coS (p := p) (s := { s with rp := updO s.rp u (fun _ => (i, true)) }) bn be br bg bt bs bp bl bk PX trivial ?_
 exact J_end SU
theorem coRpCaller (hp : Pick (coA p s) l m) {c : ID × Bool} (hl : look s.rp u = some (b, c)) :
  Con Tryz.prog 289 #[.pointer (some ⟨b, 0, none⟩)] E l (fun _ : Unit => .tuple #[.agg (encI c.1).toArray, .bool c.2]) (fun _ => coA p s :: m) := by
 refine J_con0 ?_
 obtain ⟨j, hj⟩ := look_ix hl
 have hjl := (List.getElem?_eq_some_iff.1 hj).1
 refine J_pick hp <| J_coO fun bn be br bg bt bs bp bl bk _ => J_keyd (ps := ptrs s.rp) HS fun hK => J_pick (A := each rpF s.rp) PC <| J_eachOut hj ?_
 skip
 refine J_asTo (B := rpA b c) (by rfl) <| J_con (rpCaller (c := c) PC) fun x => J_pick (A := rpA b c) PC <| J_asTo (B := rpF (u, b, c)) (by rfl) <| J_pick (A := each rpF _) PC <| J_pick (A := rpF (u, b, _)) PC <| J_eachIn (u, b, c) hjl ?_
 skip
 refine J_asTo (B := each rpF s.rp) (by rw [lset_same hj]) <| J_coS (p := p) (s := s) bn be br bg bt bs bp bl bk PX trivial ?_
 exact J_end SU
variable {out : List Msg} {inn : List Rcv}
theorem coEpSenders (hp : Pick (coA p s) l m) (hl : look s.ep u = some (b, out, inn)) (hbo : out.length ≤ 100000) (hbi : inn.length ≤ 100000) :
  Con Tryz.prog 333 #[.pointer (some ⟨b, 0, none⟩)] E l (fun x : Value => x) (fun x => row 374 5 x (out.map encM) :: coA p s :: m) := by
 refine J_con0 ?_
 obtain ⟨j, hj⟩ := look_ix hl
 have hjl := (List.getElem?_eq_some_iff.1 hj).1
 refine J_pick hp <| J_coO fun bn be br bg bt bs bp bl bk _ => J_keyd (ps := ptrs s.ep) HS fun hK => J_pick (A := each epF s.ep) PC <| J_eachOut hj ?_
 skip
 refine J_asTo (B := epA b out inn) (by rfl) <| J_con (epSenders (out := out) (inn := inn) PC hbo hbi) fun x => J_pick (A := epA b out inn) PC <| J_asTo (B := epF (u, b, out, inn)) (by rfl) <| J_pick (A := each epF _) PC <| J_pick (A := epF (u, b, _)) PC <| J_eachIn (u, b, out, inn) hjl ?_
 skip
 refine J_asTo (B := each epF s.ep) (by rw [lset_same hj]) <| J_coS (p := p) (s := s) bn be br bg bt bs bp bl bk PX trivial ?_
 exact J_end SU
theorem coEpReceivers (hp : Pick (coA p s) l m) (hl : look s.ep u = some (b, out, inn)) (hbo : out.length ≤ 100000) (hbi : inn.length ≤ 100000) :
  Con Tryz.prog 61 #[.pointer (some ⟨b, 0, none⟩)] E l (fun x : Value => x) (fun x => row 246 3 x (inn.map encR) :: coA p s :: m) := by
 refine J_con0 ?_
 obtain ⟨j, hj⟩ := look_ix hl
 have hjl := (List.getElem?_eq_some_iff.1 hj).1
 refine J_pick hp <| J_coO fun bn be br bg bt bs bp bl bk _ => J_keyd (ps := ptrs s.ep) HS fun hK => J_pick (A := each epF s.ep) PC <| J_eachOut hj ?_
 skip
 refine J_asTo (B := epA b out inn) (by rfl) <| J_con (epReceivers (out := out) (inn := inn) PC hbo hbi) fun x => J_pick (A := epA b out inn) PC <| J_asTo (B := epF (u, b, out, inn)) (by rfl) <| J_pick (A := each epF _) PC <| J_pick (A := epF (u, b, _)) PC <| J_eachIn (u, b, out, inn) hjl ?_
 skip
 refine J_asTo (B := each epF s.ep) (by rw [lset_same hj]) <| J_coS (p := p) (s := s) bn be br bg bt bs bp bl bk PX trivial ?_
 exact J_end SU
theorem coWaitsEp (hp : Pick (coA p s) l m) (hl : look s.ep u = some (b, out, inn)) (hbo : out.length ≤ 100000) (hbi : inn.length ≤ 100000) :
  Con Tryz.prog 323 #[.pointer (some ⟨p, 0, none⟩), .agg (encI (4, u)).toArray] E l (fun v : Value => v) (fun v => row 36 2 v ((out.map Prod.fst ++ inn.map Prod.fst).map encI) :: coA p s :: m) := by
 refine Con.body (n := 80) Tryz.func323 Z Z _ (env_ok 2 Z) <| J_pick hp <| sr <| L_op <| x_box Z Z Z fun b3 => ag Z Z <| nx <| ag Z Z <| J_nil (el := 36) (sz := 2) <| nxx <| fa Z Z fa449_0 <| L_val Z (v_load Z ty3 HS (by exact rfl)) <| nq <| J_block <| sr <| L_pur Z (p_eql Z Z) <| ag Z Z <| nq <| J_bool (t := 17) (c := true) Z (rfl) <| C_true Z <| sr <| mv Z Z <| fa Z Z fa449_1 <| L_val Z (v_load Z ty3 HS (by exact rfl)) <| xo fc60 (A2 Z Z) Z (coEp (s := s) (u := u) PC) fun _ => J_slot (t := 22) (v := .pointer (some ⟨b, 0, none⟩)) Z (by rw [look_is hl]; rfl) <| ag Z Z <| nx <| mv Z Z <| L_pur Z (p_neNilPtr Tryz.underlying112 Z) <| nq <| J_bool (t := 24) (c := true) Z (rfl) <| C_true Z <| J_seq <| sr <| mv Z Z <| xo fc333 (A1 Z) Z (coEpSenders (s := s) (u := u) PC hl hbo hbi) <| JR fun a26 c26 hw26 hl26 hm26 hz26 => ?_
 have hmo : (out.map encM).length = out.length := List.length_map _
 refine L_pur Z (p_len Z Tryz.underlying220) <| mv Z Z <| nq <| J_block <| J_loop2 (fun k v5 => k ≤ out.length) (fun k v5 => row 36 2 v5 (((out.take k).map Prod.fst).map encI) :: row 374 5 (.slice a26 (out.map encM).length c26) (out.map encM) :: blk b3 449 [.int .i64 4, .int .i64 u] :: coA p s :: m) (fun k v5 => [(28, .int .i64 (k : Int)), (5, v5), (26, .slice a26 (out.map encM).length c26), (27, .int .i64 ((out.map encM).length : Int)), (6, .pointer (some ⟨b, 0, none⟩)), (3, .pointer (some ⟨b3, 0, none⟩)), (0, .pointer (some ⟨p, 0, none⟩))]) (fun k v5 => out.length - k) 0 _ (by omega) SU KE ?_
 intro k v5 hk
 refine sr <| L_pur Z (p_lss Z Z) <| nq <| J_seq <| C_dec Z (fun h29 => ?_) (fun h29 => ?_)
 have hlt : k < out.length := by omega
 obtain ⟨bx, ox, rfl⟩ := hz26 (by intro h; rw [h] at hmo; simp at hmo; omega)
 obtain ⟨c, hcc⟩ : ∃ c, out[k]? = some c := ⟨_, List.getElem?_eq_getElem hlt⟩
 refine J_skip <| Q_then <| J_seq <| J_block <| sr <| L_pur Z (p_indexAddr Z Z Tryz.underlying220 ty374 (by omega) (by omega)) <| L_val Z (v_loadE Z ty374 HS (by first | (simp only [Int.toNat_natCast, List.getElem?_map, hcc]; rfl) | (simp only [Int.toNat_natCast, List.getElem?_map, hcd]; rfl) | simp | rfl)) ?_
 refine L_op <| x_alloc ty374 Z fun b8 => L_op <| x_store Z Z ty374 Z SM SM RO PT <| ny <| mv Z Z <| fa Z Z fa374_0 <| L_val Z (v_loadA Z ty36 HS CT) <| L_op <| x_lit (vals := [_]) Tryz.underlying224 ty36 Z (.cons Z .nil) (.agg .nil) (Wf.cons Z Z Wf.nil) Z (by decide) Z Z <| JR fun a35 c35 hw35 hl35 hm35 hz35 => L_op <| x_app Z Z Tryz.underlying224 ty36 Z Z PC (fun w H => sep_reads HS H) (by simp; omega) (by simp; omega) Z <| JE (((out.take (k + 1)).map Prod.fst).map encI) (by rw [List.take_add_one, hcc]; simp [encI]) fun a36 c36 hw36 hl36 hm36 hz36 => ag Z Z <| L_nil <| Q_blk_normal <| qr <| L_pur Z (p_add64 Z Z (by omega)) <| mv Z Z <| nq ?_
 exact J_again2 (k + 1) _ (by omega) (by omega) SU KE
 have hko : k = out.length := by omega
 subst hko
 refine J_pick (A := row 36 2 v5 _) PC <| J_rowEq (ys := (out.map Prod.fst ++ (inn.take 0).map Prod.fst).map encI) (by rw [List.take_length, List.take_zero]; simp) <| J_exit <| Q_then_exit <| Q_then_exit <| Q_blk_this <| qx <| mv Z Z <| xo fc61 (A1 Z) Z (coEpReceivers (s := s) (u := u) PC hl hbo hbi) <| JR fun a39 c39 hw39 hl39 hm39 hz39 => ?_
 have hmi : (inn.map encR).length = inn.length := List.length_map _
 refine L_pur Z (p_len Z Tryz.underlying114) <| mv Z Z <| nq <| J_block <| J_loop2 (fun k v5 => k ≤ inn.length) (fun k v5 => row 36 2 v5 ((out.map Prod.fst ++ (inn.take k).map Prod.fst).map encI) :: row 246 3 (.slice a39 (inn.map encR).length c39) (inn.map encR) :: coA p s :: m) (fun k v5 => [(41, .int .i64 (k : Int)), (5, v5), (39, .slice a39 (inn.map encR).length c39), (40, .int .i64 ((inn.map encR).length : Int)), (0, .pointer (some ⟨p, 0, none⟩))]) (fun k v5 => inn.length - k) 0 _ (by omega) SU KE ?_
 intro k v5 hk
 refine sr <| L_pur Z (p_lss Z Z) <| nq <| J_seq <| C_dec Z (fun h42 => ?_) (fun h42 => ?_)
 have hlt : k < inn.length := by omega
 obtain ⟨bx, ox, rfl⟩ := hz39 (by intro h; rw [h] at hmi; simp at hmi; omega)
 obtain ⟨c, hcc⟩ : ∃ c, inn[k]? = some c := ⟨_, List.getElem?_eq_getElem hlt⟩
 refine J_skip <| Q_then <| J_seq <| J_block <| sr <| L_pur Z (p_indexAddr Z Z Tryz.underlying114 ty246 (by omega) (by omega)) <| L_val Z (v_loadE Z ty246 HS (by first | (simp only [Int.toNat_natCast, List.getElem?_map, hcc]; rfl) | (simp only [Int.toNat_natCast, List.getElem?_map, hcd]; rfl) | simp | rfl)) ?_
 refine L_op <| x_alloc ty246 Z fun b10 => L_op <| x_store Z Z ty246 Z SM SM RO PT <| ny <| mv Z Z <| fa Z Z fa246_0 <| L_val Z (v_loadA Z ty36 HS CT) <| L_op <| x_lit (vals := [_]) Tryz.underlying224 ty36 Z (.cons Z .nil) (.agg .nil) (Wf.cons Z Z Wf.nil) Z (by decide) Z Z <| JR fun a48 c48 hw48 hl48 hm48 hz48 => L_op <| x_app Z Z Tryz.underlying224 ty36 Z Z PC (fun w H => sep_reads HS H) (by simp; omega) (by simp; omega) Z <| JE ((out.map Prod.fst ++ (inn.take (k + 1)).map Prod.fst).map encI) (by rw [List.take_add_one, hcc]; simp [encI]) fun a49 c49 hw49 hl49 hm49 hz49 => ag Z Z <| L_nil <| Q_blk_normal <| qr <| L_pur Z (p_add64 Z Z (by omega)) <| mv Z Z <| nq ?_
 exact J_again2 (k + 1) _ (by omega) (by omega) SU KE
 have hko : k = inn.length := by omega
 subst hko
 refine J_pick (A := row 36 2 v5 _) PC <| J_rowEq (ys := (out.map Prod.fst ++ inn.map Prod.fst).map encI) (by rw [List.take_length]) <| J_exit <| Q_then_exit <| Q_then_exit <| Q_blk_this <| Q_blk_normal <| qx <| mv Z Z <| ag Z Z <| nq <| J_ret ?_
 exact J_return (_) Tryz.results323 (.tmp Z .nil) Z SU
theorem coWaitsNt (hp : Pick (coA p s) l m) {w0 : Int} {xs : List ID} (hl : look s.nt u = some (b, w0, xs)) (hb : xs.length ≤ 100000) :
    Con Tryz.prog 323 #[.pointer (some ⟨p, 0, none⟩), .agg (encI (5, u)).toArray] E l (fun v : Value => v) (fun v => row 36 2 v (xs.map encI) :: coA p s :: m) := by
  refine Con.body (n := 80) Tryz.func323 Z Z _ (env_ok 2 Z) <| J_pick hp <| sr <| L_op <| x_box Z Z Z fun b3 => ag Z Z <| nx <| ag Z Z <| nxx <| fa Z Z fa449_0 <| L_val Z (v_load Z ty3 HS (by exact rfl)) <| nq <| J_block <| sr <| L_pur Z (p_eql Z Z) <| ag Z Z <| nq <| J_bool (t := 17) (c := false) Z (rfl) <| C_false Z <| sr <| L_pur Z (p_eql Z Z) <| ag Z Z <| nq <| J_bool (t := 51) (c := true) Z (rfl) <| C_true Z <| sr <| mv Z Z <| fa Z Z fa449_1 <| L_val Z (v_load Z ty3 HS (by exact rfl)) <| xo fc170 (A2 Z Z) Z (coNotif (s := s) (u := u) PC) fun _ => J_slot (t := 56) (v := .pointer (some ⟨b, 0, none⟩)) Z (by rw [look_is hl]; rfl) <| ag Z Z <| nx <| mv Z Z <| L_pur Z (p_neNilPtr Tryz.underlying223 Z) <| nq <| J_bool (t := 58) (c := true) Z (rfl) <| C_true Z ?_
  refine J_region <| mv Z Z <| xo fc334 (A1 Z) Z (coNtWaits (s := s) (u := u) PC hl hb) <| JR fun a60 c60 hw60 hl60 hm60 hz60 => ag Z Z <| L_nil <| Q_blk_normal <| qx <| mv Z Z <| ag Z Z <| nq <| J_ret ?_
  exact J_return (_) Tryz.results323 (.tmp Z .nil) Z SU
theorem coWaitsRp (hp : Pick (coA p s) l m) {c : ID × Bool} (hl : look s.rp u = some (b, c)) :
  Con Tryz.prog 323 #[.pointer (some ⟨p, 0, none⟩), .agg (encI (7, u)).toArray] E l (fun v : Value => v) (fun v => row 36 2 v ((if c.2 = true then [c.1] else []).map encI) :: coA p s :: m) := by
 refine Con.body (n := 80) Tryz.func323 Z Z _ (env_ok 2 Z) <| J_pick hp <| sr <| L_op <| x_box Z Z Z fun b3 => ag Z Z <| nx <| ag Z Z <| J_nil (el := 36) (sz := 2) <| nxx <| fa Z Z fa449_0 <| L_val Z (v_load Z ty3 HS (by exact rfl)) <| nq <| J_block <| sr <| L_pur Z (p_eql Z Z) <| ag Z Z <| nq <| J_bool (t := 17) (c := false) Z (rfl) <| C_false Z <| sr <| L_pur Z (p_eql Z Z) <| ag Z Z <| nq <| J_bool (t := 51) (c := false) Z (rfl) <| C_false Z <| sr <| L_pur Z (p_eql Z Z) <| ag Z Z <| nq <| J_bool (t := 61) (c := true) Z (rfl) <| C_true Z <| sr <| mv Z Z <| fa Z Z fa449_1 <| L_val Z (v_load Z ty3 HS (by exact rfl)) <| xo fc172 (A2 Z Z) Z (coReply (s := s) (u := u) PC) fun _ => ?_
 refine J_slot (t := 66) (v := .pointer (some ⟨b, 0, none⟩)) Z (by rw [look_is hl]; rfl) <| ag Z Z <| nx <| mv Z Z <| L_pur Z (p_neNilPtr Tryz.underlying241 Z) <| nq <| J_bool (t := 68) (c := true) Z (rfl) <| C_true Z <| sr <| mv Z Z <| xo fc289 (A1 Z) Z (coRpCaller (s := s) (u := u) (c := c) PC hl) fun _ => mv Z Z <| L_pur Z (p_extract Z Z) <| L_pur Z (p_extract Z Z) <| L_op <| x_alloc ty36 Z fun b13 => L_op <| x_store Z Z ty36 Z SM SM RO PT <| J_pick (A := blk b13 _ _) PC <| J_asTo (B := blk b13 36 (encI c.1)) (by rfl) <| ag Z Z <| nx <| mv Z Z <| nq <| C_split Z (fun h74 => ?_) (fun h74 => ?_)
 refine J_region <| mv Z Z <| L_val Z (v_loadA Z ty36 HS CT) <| L_op <| x_lit (vals := [_]) Tryz.underlying224 ty36 Z (.cons Z .nil) (.agg .nil) (Wf.cons Z Z Wf.nil) Z (by decide) Z Z <| JR fun a77 c77 hw77 hl77 hm77 hz77 => L_op <| x_app Z Z Tryz.underlying224 ty36 Z Z PC (fun w H => sep_reads HS H) (by simp) (by simp) Z <| JE ((if c.2 = true then [c.1] else []).map encI) (by rw [if_pos h74]; rfl) fun a78 c78 hw78 hl78 hm78 hz78 => ag Z Z <| L_nil <| Q_blk_normal <| qx <| mv Z Z <| ag Z Z <| nq <| J_ret ?_
 exact J_return (_) Tryz.results323 (.tmp Z .nil) Z SU
 refine J_pick (A := row 36 2 (.slice none 0 0) []) PC <| J_rowEq (ys := (if c.2 = true then [c.1] else []).map encI) (by rw [h74]; rfl) <| J_skip <| Q_blk_normal <| qx <| mv Z Z <| ag Z Z <| nq <| J_ret ?_
 exact J_return (_) Tryz.results323 (.tmp Z .nil) Z SU
def kEnds (s : KS) (l : List ID) : KS := l.foldl (fun s i => kDec s.rt.length s i (-9) 0) s
theorem kEnds_snoc {l : List ID} : kEnds s (l ++ [i]) = kDec (kEnds s l).rt.length (kEnds s l) i (-9) 0 := by unfold kEnds; rw [List.foldl_append]; rfl
theorem Fits.ends {N M : Nat} : ∀ {l : List ID} {s : KS}, Fits s N M → Fits (kEnds s l) N M
  | [], _, h => h
  | i :: l, s, h => Fits.ends (l := l) (Fits.dec _ (i := i) (r := -9) (v := 0) h).1
section
variable {P : Program} {ops : Array Oper} {Q : Exit → Act → World → Prop} {E : World} {l L : List As} {n : Nat} {F : Env}
theorem I_takeOnP {i : Nat} {o : Oper} {v : Value} {d : Nat} {g : Option Nat} {fuel : Nat} {listed : Array Bool} (ho : ops[i]? = some o) (hd : o.dst = some d) (hdn : Nat.blt d n = true) {j t : Nat} {c : Bool} {og : Oper} (hg : o.guard = some (j, c)) (hj : ops[j]? = some og) (ht : og.dst = some t) (hb : get F t = some (.bool c))
    (hok : takeOkP g ops listed i = true)
    (hQ : ∀ c a v w, Q (.panic c) (a.put (some d) v) w → Q (.panic c) a w) (hv : Pur P o F n v)
    (k : Jk E l n ((d, v) :: F) (wpI P .any ops Q (Inv L) g fuel (listed.setIfInBounds i true))) : Jk E l n F (wpI P .any ops Q (Inv L) g (fuel + 1) listed) := fun w a H hF => by
  simp only [takeOkP, Bool.and_eq_true] at hok
  obtain ⟨⟨⟨h1, h2⟩, h3⟩, h4⟩ := hok
  have h0 : yielded ops a.tmps j = some c := by simp [yielded, hj, ht, hF.get t _ hb]
  exact wpI_firstP ho (Region.noSelect_spec h1) (by rw [hd]; exact fun c a w => hQ c a v w) (fun e => by subst e; simp at h4) fuel listed a w (Region.free_spec ho h2) (by simpa using h3) (Or.inl ⟨by simp [Region.wanted, hg, h0], fun w _ => hv a hF w⟩) (by rw [hd]; exact k w _ H (hF.put hdn))
end
/-! ### plain: what is decided, one thing at a time; all but rings, memory, the journal stays -/
def atJ (jn : List Deed) (i : ID) : Option Deed := jn.find? fun d => decide (d.1 = i)
theorem atJ_none {jn : List Deed} (h0 : ∀ e ∈ jn, e.1 ≠ i) : atJ jn i = none := List.find?_eq_none.2 fun e he => by simpa using h0 e he
def askR (jn : List Deed) (i : ID) : Int × Int × Bool := match atJ jn i with
  | none => (0, 0, false)
  | some d => (d.2.2.2.1, d.2.2.2.2.1, true)
def rqN (i : ID) (e : Sqe) : Rq := ⟨i, e, 0, false, false⟩
def rtS (ps : List (ID × Rq)) (i : ID) : List (ID × Rq) := match look ps i with
  | none => ps
  | some q => ins ps i { q with started := true }
/-! ### How all begins: what hangs on the number of threads, of units, on what is shared, and on nothing else -/
abbrev Core := Int × Bool × List (Place × SV) × List (Place × M1) × List (Int × Th) × List (Int × Int)
def kCore (s : KS) : Core := (s.cu, s.sh, s.sl, s.mp, s.th, s.q)
def kStep (k : Core) (b t h : Int) : Core := (k.1, k.2.1, tput b k.2.2.1 0 (tcap8 b k.1 ++ if k.2.1 then tcap2 t h else []), tmap b k.2.2.2.1 2, ins k.2.2.2.2.1 (b + 1) (thOf b), qAdd k.2.2.2.2.2 (b + 1) 4)
def cTh (k : Core) (u h : Int) : Nat → Core
  | 0 => k
  | i + 1 => kStep (cTh k u h i) (bOf u i) (i : Int) h
variable {t : Int}
theorem kThread_core {b h : Int} {r c : Nat} : kCore (kThread s b t h r c) = kStep (kCore s) b t h := by
  simp only [kCore, kStep, kThread, tcaps]
  congr 1
theorem kTh_core {s : KS} {h : Int} {bs : Nat → Nat × Nat} : ∀ i, kCore (kTh s h bs i) = cTh (kCore s) s.cu h i
  | 0 => rfl
  | i + 1 => by
    rw [kTh, kThread_core, kTh_core i, cTh]
def coreN (ct cu : Nat) (sh : Bool) : Core := cTh ((cu : Int), sh, [], [], [], []) (cu : Int) (hOf (ct : Int) (cu : Int)) ct
theorem cut_id {n lo hi : Int} (h : lo ≤ n ∧ n ≤ hi) : cutI n lo hi = n := by unfold cutI; split <;> split <;> omega
section
variable {ct cu : Nat} {cs cc : Int} {sh : Bool} {g : NewG} (h1 : 1 ≤ ct ∧ ct ≤ 3) (h2 : 1 ≤ cu ∧ cu ≤ 12)
include h1 h2 in
theorem kNew_is : kNew (ct : Int) (cu : Int) cs cc sh g = kTh (kBase (ct : Int) (cu : Int) (cutI cs 0 3) (cutI cc 0 4) sh g.mb g.be g.bn) (hOf (ct : Int) (cu : Int)) g.bs ct := by
  unfold kNew
  rw [cut_id (show (1 : Int) ≤ (ct : Int) ∧ (ct : Int) ≤ 3 by omega), cut_id (show (1 : Int) ≤ (cu : Int) ∧ (cu : Int) ≤ 12 by omega), Int.toNat_natCast]
include h1 h2 in
theorem kNew_core : kCore (kNew (ct : Int) (cu : Int) cs cc sh g) = coreN ct cu sh := by
  rw [kNew_is h1 h2, kTh_core]
  cases sh <;> rfl
include h1 h2 in
include h1 h2 in
end
/-! ### plain: one thread alone, two that share: how they begin -/
structure Al1 (K : KS) (g : NewG) : Prop where
 rt : K.rt = []
 jn : K.jn = []
 tm : K.tm = []
 nt : K.nt = []
 ep : K.ep = []
 rp : K.rp = [(7, (g.bs 0).2, (0, 0), false)]
 rg : K.rg = [(4, (g.bs 0).1, rgNew 5 6 3 4)]
 be : look K.be 4 = none
 mem : K.mem = List.replicate 64 zrow
 tk : K.tk = [(4, 0)]
 th : K.th = [(2, thOf 1)]
 q : K.q = [(2, 4)]
 pr : K.pr = []
 mr : K.mr = []
 sp : K.sp = [(3, true)]
 mp : K.mp = [((3, 0), (5, 3)), ((3, 1), (6, 3))]
 sl : K.sl = (coreN 1 6 false).2.2.1
 fit : Fits K 40 60
theorem al1_sl (g : NewG) : (kNew 1 6 3 4 false g).sl = (coreN 1 6 false).2.2.1 := by
  have hc : kCore (kNew ((1 : Nat) : Int) ((6 : Nat) : Int) 3 4 false g) = coreN 1 6 false := kNew_core (by omega) (by omega)
  rw [show ((1 : Nat) : Int) = 1 from rfl, show ((6 : Nat) : Int) = 6 from rfl] at hc
  unfold kCore at hc
  rw [← hc]
theorem al1_fit (g : NewG) : Fits (kNew 1 6 3 4 false g) 40 60 := by
  refine ⟨by omega, by omega, Ids.nil, by show 0 ≤ 60; omega, by show 0 ≤ 40; omega, fun x hx => (by cases hx), fun x hx => (by cases hx), fun x hx => ?_, fun x hx => ?_, zrow_ok⟩
  · obtain rfl := List.mem_singleton.1 (show x ∈ [(7, (g.bs 0).2, (0, 0), false)] from hx)
    exact ⟨by show (1 : Int) ≤ 7; omega, by show (7 : Int) ≤ 64; omega⟩
  · obtain rfl := List.mem_singleton.1 (show x ∈ [(4, (g.bs 0).1, rgNew 5 6 3 4)] from hx)
    exact ⟨rgNew_ok (a := 5) (by omega), by show 0 ≤ 60; omega⟩
theorem al1_is (g : NewG) : Al1 (kNew 1 6 3 4 false g) g := ⟨rfl, rfl, rfl, rfl, rfl, rfl, rfl, rfl, rfl, rfl, rfl, rfl, rfl, rfl, rfl, rfl, al1_sl g, al1_fit g⟩
section
variable {K : KS} {g : NewG} {L : List (Place × SV)} {q pr : List (Int × Int)} {c w : Int} {jn : List Deed} {RG : List (Int × Nat × Rg)} {MS : List (List Int)} {e : Sqe}
end
/-! ### plain: addresses of a node's slots -/
theorem addr_or : ∀ k : Nat, k < 16 → bits .or .u32 ((k : Int) * 256) 4 = (k : Int) * 256 + 4 := by decide
theorem addr_shl : ∀ k : Nat, k < 16 → IntKind.u32.wrap ((k : Int) * 2 ^ 8) = (k : Int) * 256 := by decide
abbrev atK (k : Nat) : Int := (k : Int) * 256 + 4
variable {k : Nat}
theorem joinC (hk : k < 16) :
    Con Tryz.prog 18 #[.int .i64 (k : Int), .int .i64 4] E l (fun _ : Unit => .int .u32 (atK k)) (fun _ => l) := by
  refine Con.body (n := 12) Tryz.func18 Z Z _ (env_ok 2 Z) <| sr <| ag Z Z <| nx <| mv Z Z <| L_pur Z (p_conv Z Tryz.underlying3 Tryz.underlying22) <| J_slot (t := 6) (v := .int .u32 (k : Int)) Z (by rw [wrap32u_of (by omega)]) <| L_pur Z (p_shl Z Z (by omega) (by have : (IntKind.u32.bits : Int) = 32 := rfl; omega)) <| J_slot (t := 7) (v := .int .u32 ((k : Int) * 256)) Z (by rw [← addr_shl k hk]; rfl) <| mv Z Z <| L_pur Z (p_conv Z Tryz.underlying3 Tryz.underlying22) <| J_slot (t := 9) (v := .int .u32 4) Z Z <| L_pur Z (p_and Z Z) <| J_slot (t := 10) (v := .int .u32 4) Z Z <| L_pur Z (p_or Z Z) <| J_slot (t := 11) (v := .int .u32 (atK k)) Z (by rw [addr_or k hk]) <| ag Z Z <| nq <| J_ret <| J_return (()) Tryz.results18 (.tmp Z .nil) ?_ ?_
  · rfl
  · exact SU
theorem slotC (hk : k < 16) :
    Con Tryz.prog 26 #[.int .i64 (k : Int)] E l (fun _ : Unit => .int .u32 (atK k)) (fun _ => l) := by
  refine Con.body (n := 5) Tryz.func26 Z Z _ (env_ok 1 Z) <| sr <| ag Z Z <| nx <| mv Z Z <| xo fc18 (A2 Z Z) Z (joinC hk) fun _ => ag Z Z <| nq <| J_ret ?_
  exact J_return (()) Tryz.results26 (.tmp Z .nil) Z SU
def actA (a p : Nat) (T : Th) (q : Rq) (i : ID) : As := blk a 279 [.pointer (some ⟨p, 0, none⟩), .int .i64 T.unit, .int .i64 T.space, .int .i64 T.ring, .int .i64 T.root.kind, .int .i64 T.root.obj, .int .i64 T.root.size, .int .i64 T.root.badge, .int .i64 T.root.rights, .int .i64 q.id.1, .int .i64 q.id.2, .int .i64 q.e.op, .int .i64 q.e.flags, .int .u32 q.e.tag, .int .u32 q.e.cap, .int .u32 q.e.a, .int .u32 q.e.b, .int .u32 q.e.c, .int .u32 q.e.time, .int .i64 q.prev, .bool q.soft, .bool q.started, .int .i64 i.1, .int .i64 i.2]
variable {n : Nat}
theorem J_act {F : Env} {K : Act → World → Prop} {a : Nat} {T : Th} {q : Rq} (k : Jk E (blk a 279 [.pointer (some ⟨p, 0, none⟩), .int .i64 T.unit, .int .i64 T.space, .int .i64 T.ring, .int .i64 T.root.kind, .int .i64 T.root.obj, .int .i64 T.root.size, .int .i64 T.root.badge, .int .i64 T.root.rights, .int .i64 q.id.1, .int .i64 q.id.2, .int .i64 q.e.op, .int .i64 q.e.flags, .int .u32 q.e.tag, .int .u32 q.e.cap, .int .u32 q.e.a, .int .u32 q.e.b, .int .u32 q.e.c, .int .u32 q.e.time, .int .i64 q.prev, .bool q.soft, .bool q.started, .int .i64 i.1, .int .i64 i.2] :: l) n F K) : Jk E (actA a p T q i :: l) n F K := k
theorem failsC {n : Int} (hn : 0 ≤ n ∧ n ≤ 100) :
    Con Tryz.prog 167 #[.int .i64 n] E l (fun _ : Unit => .agg #[.int .i64 (-n), .int .u32 0, .bool false]) (fun _ => l) := by
  refine Con.body (n := 6) Tryz.func167 Z Z _ (env_ok 1 Z) <| sr <| L_op <| x_alloc ty276 Z fun b2 => nx <| mv Z Z <| L_pur Z (p_neg64 Z (by omega)) <| L_pur Z (bld276 (.cons Z .nil) (by repeat constructor)) <| L_op <| x_store Z Z ty276 Z SM SM RO PT <| nq <| J_ret <| J_return (()) Tryz.results167 (.cellA Z ty276 HS CT .nil) ?_ ?_
  · rfl
  · exact SU
variable {o : Nat}
theorem rtStartC  {ps : List (ID × Rq)} (hp : Pick (rtA b o ps) l m) :
    Con Tryz.prog 70 #[.pointer (some ⟨b, o, none⟩), .agg (encI i).toArray] E l (fun _ : Unit => .bool (look ps i).isSome) (fun _ => rtA b o (rtS ps i) :: m) := by
  refine Con.body (n := 25) Tryz.func70 Z Z _ (env_ok 2 Z) <| J_pick hp <| J_rtO fun ob _ => sr <| L_op <| x_box Z Z Z fun b3 => ag Z Z <| nq <| J_seq <| J_drawL none mixed <| ip 0 Z Z Z Z (p_move Z) <| ip 1 Z Z Z Z (p_nilCheck Z) <| ip 2 Z Z Z Z (p_fieldAddr Z fa138_0) <| iv 3 Z Z Z Z (fun _ => v_loadL Z ty136 HS Z (by exact rfl)) <| iv 4 Z Z Z Z (fun _ => v_loadA Z ty36 HS CT) <| iv 5 Z Z Z Z (fun _ => v_lookOk (ek := kI) (ev := evQ) (a := i) Z Z ky36 Tryz.underlying136 zv122 HS) <| J_slot (t := 13) (v := .tuple #[evQ ((look ps i).getD q00), .bool (look ps i).isSome]) Z (by cases look ps i <;> rfl) <| ip 6 Z Z Z Z (p_move Z) <| ip 7 Z Z Z Z (p_extract Z Z) <| ip 8 Z Z Z Z (p_extract Z Z) <| i1 9 Z <| x_alloc ty122 Z fun b5 => i1 10 Z <| x_store Z Z ty122 Z SM SM RO PT <| ip 11 Z Z Z Z (p_assign Z) <| i0 <| Q_then <| J_seq <| sr <| mv Z Z <| nq ?_
  refine C_split Z (fun h16 => ?_) (fun h16 => ?_)
  obtain ⟨q, hq⟩ : ∃ q, look ps i = some q := by
    cases hz : look ps i with
    | none => rw [hz] at h16; simp at h16
    | some q => exact ⟨q, rfl⟩
  rcases ob with _ | bm
  · exact J_mapNone (ps := ps) HS fun hps => by rw [hps] at hq; cases hq
  refine J_pick (A := blk b5 _ _) PC <| J_asTo (B := blk b5 122 (encQ q)) (by rw [hq]; rfl) ?_
  have hrs : rtS ps i = ins ps i { q with started := true } := by unfold rtS; rw [hq]
  refine sr <| fa Z Z fa122_4 <| L_op <| x_store Z Z ty4 Z SM SM RO PT <| J_pick (A := blk b5 _ _) PC <| J_asTo (B := blk b5 122 (encQ { q with started := true })) (by rfl) <| nq <| J_drawT 6 mixed (by kernel_rfl) <| sm Z Z <| sp Z (p_nilCheck Z) <| sp Z (p_fieldAddr Z fa138_0) <| S_val Z (v_loadL Z ty136 HS Z (by exact rfl)) <| S_val Z (v_loadA Z ty36 HS CT) <| S_val Z (v_loadA Z ty122 HS CT) <| S_nil <| L_op <| x_mapUpdate (ek := kI) (ev := evQ) (a := i) (c := { q with started := true }) Z Z Z ky36 Tryz.underlying136 PC <| nx <| mv Z Z <| ag Z Z <| nq <| J_ret <| J_pick (A := mapV kI evQ _ _) PC <| J_mapEq (qs := rtS ps i) (by rw [hrs]) <| J_rtS (b := b) (o := o) (ps := rtS ps i) _ PX trivial ?_
  exact J_return (()) Tryz.results70 (.tmp Z .nil) Z SU
  have hno : look ps i = none := by
    cases hz : look ps i with
    | none => rfl
    | some q => rw [hz] at h16; simp at h16
  have hrs : rtS ps i = ps := by unfold rtS; rw [hno]
  refine J_skip <| qx <| mv Z Z <| ag Z Z <| nq <| J_ret <| J_rtS (b := b) (o := o) (ps := ps) _ PX trivial <| J_asTo (B := rtA b o (rtS ps i)) (by rw [hrs]) ?_
  exact J_return (()) Tryz.results70 (.tmp Z .nil) Z SU
theorem coRqStart (hp : Pick (coA p s) l m) :
    Con Tryz.prog 70 #[.pointer (some ⟨p, 10, none⟩), .agg (encI i).toArray] E l (fun _ : Unit => .bool (look s.rt i).isSome) (fun _ => coA p { s with rt := rtS s.rt i } :: m) := fun w H => by
  refine (?_ : Jk E l 0 [] fun _ w => Calls Tryz.prog 70 #[.pointer (some ⟨p, 10, none⟩), .agg (encI i).toArray] w fun e w' => ∃ x, e = .returned ((fun _ : Unit => .bool (look s.rt i).isSome) x) ∧ Sep E w' ((fun _ : Unit => coA p { s with rt := rtS s.rt i } :: m) x)) w _ H fr0
  refine J_pick hp <| J_coO fun bn be br bg bt bs bp bl bk _ => J_con (rtStartC (ps := s.rt) (i := i) PC) fun x => J_coS (p := p) (s := { s with rt := rtS s.rt i }) bn be br bg bt bs bp bl bk PX trivial ?_
  exact J_end SU
def idxJ (xs : List Deed) (i : ID) : Option Nat := xs.findIdx? fun d => decide (d.1 = i)
variable {d : Deed}
theorem idxJ_some {xs : List Deed} (h : xs[k]? = some d) (hd : d.1 = i) (h0 : ∀ e ∈ xs.take k, e.1 ≠ i) : idxJ xs i = some k ∧ atJ xs i = some d := by
  obtain ⟨hk, he⟩ := List.getElem?_eq_some_iff.1 h
  have hj : ∀ j (hj : j < k), xs[j].1 ≠ i := fun j hj => h0 _ (List.mem_iff_getElem.2 ⟨j, by simp; omega, by simp⟩)
  constructor
  · unfold idxJ
    rw [List.findIdx?_eq_some_iff_getElem]
    exact ⟨hk, by rw [he]; simpa using hd, fun j hj' => by simpa using hj j hj'⟩
  · unfold atJ
    rw [List.find?_eq_some_iff_getElem]
    exact ⟨by simpa using hd, k, hk, he, fun j hj' => by simpa using hj j hj'⟩
theorem idxJ_none {xs : List Deed} (h0 : ∀ e ∈ xs, e.1 ≠ i) : idxJ xs i = none ∧ atJ xs i = none := by
  constructor
  · unfold idxJ
    rw [List.findIdx?_eq_none_iff]
    intro e he
    simpa using h0 e he
  · exact atJ_none h0
theorem idxJ_at {xs : List Deed} (h : idxJ xs i = some k) : ∃ d, xs[k]? = some d ∧ atJ xs i = some d := by
  unfold idxJ at h
  rw [List.findIdx?_eq_some_iff_getElem] at h
  obtain ⟨hk, h1, h2⟩ := h
  refine ⟨xs[k], List.getElem?_eq_getElem hk, ?_⟩
  unfold atJ
  rw [List.find?_eq_some_iff_getElem]
  exact ⟨h1, k, hk, rfl, fun j hj => by simpa using h2 j hj⟩
theorem idxJ_no {xs : List Deed} (h : idxJ xs i = none) : atJ xs i = none := by
  unfold idxJ at h
  rw [List.findIdx?_eq_none_iff] at h
  exact atJ_none fun e he => by simpa using h e he
theorem atC {v : Value} {xs : List Deed} (hr : ∀ w, Sep E w l → Reads w 7 v (xs.map encD)) (hb : xs.length ≤ 200000) :
    Con Tryz.prog 22 #[v, .agg (encI i).toArray] E l (fun _ : Unit => .tuple #[.int .i64 (((idxJ xs i).getD 0 : Nat) : Int), .bool (idxJ xs i).isSome]) (fun _ => l) := by
  refine Con.body (n := 21) Tryz.func22 Z Z _ (env_ok 2 Z) <| J_readsB hr fun hw a cap hv h1 h2 h3 => ?_
  subst hv
  have hm : cap ≤ 9223372036854775807 := h2
  have hml : (xs.map encD).length = xs.length := List.length_map _
  refine sr <| L_op <| x_box Z Z Z fun b3 => ag Z Z <| ag Z Z <| nq <| J_seq <| J_seq <| J_pick (A := blk b3 _ _) PC <| J_asTo (B := blk b3 36 (encI i)) (by rfl) <| J_region <| ag Z Z <| nq <| J_block <| J_loop (α := Nat) (fun k => k ≤ xs.length ∧ ∀ e ∈ xs.take k, e.1 ≠ i) (fun k => blk b3 36 (encI i) :: l) (fun k => [(6, .int .i64 (k : Int)), (0, .slice a (xs.map encD).length cap), (3, .pointer (some ⟨b3, 0, none⟩))]) (fun k => xs.length - k) 0 ⟨by omega, by simp⟩ SU KE ?_
  intro k hk
  obtain ⟨hk, h0⟩ := hk
  refine J_seq <| sr <| mv Z Z <| mv Z Z <| L_pur Z (p_len Z Tryz.underlying40) <| L_pur Z (p_lss Z Z) <| nq <| C_dec Z (fun h10 => ?_) (fun h10 => ?_)
  have hlt : k < xs.length := by omega
  obtain ⟨bx, ox, rfl⟩ := h3 (by intro h; rw [h] at hml; simp at hml; omega)
  obtain ⟨c, hcc⟩ : ∃ c, xs[k]? = some c := ⟨_, List.getElem?_eq_getElem hlt⟩
  refine J_skip <| Q_then <| J_seq <| J_block <| J_seq <| J_drawS mixed (by kernel_rfl) <| sm Z Z <| sm Z Z <| sp Z (p_indexAddr Z Z Tryz.underlying40 ty45 (by omega) (by omega)) <| sp Z (p_fieldAddr Z fa45_0) <| S_val Z (by first | exact v_loadFA Z ty36 HS (by first | (simp only [Int.toNat_natCast, List.getElem?_map, hcc]; rfl) | (simp only [Int.toNat_natCast, List.getElem?_map, hcd]; rfl) | simp | rfl) CT | exact v_loadRFA Z ty36 (fun w H => hr w (Sub.sep SU H)) (by first | (simp only [Int.toNat_natCast, List.getElem?_map, hcc]; rfl) | (simp only [Int.toNat_natCast, List.getElem?_map, hcd]; rfl) | simp | rfl) CT) ?_
  refine S_val Z (v_loadA Z ty36 HS CT) <| sp Z (p_eqv Z Z (fun w => eg36 _ _ _ _ _ w) (fun w => eqv36 _ _ _ _ w)) <| J_slot (t := 19) (v := .bool (decide (c.1 = i))) Z (by congr 1; simp [Prod.ext_iff]) <| sq <| C_dec Z (fun h19 => ?_) (fun h19 => ?_)
  have hix := idxJ_some hcc h19 h0
  refine sr <| mv Z Z <| ag Z Z <| ag Z Z <| nq <| J_ret <| Q_blk_ret <| Q_then_ret <| Q_then_ret <| Q_blk_ret <| Q_then_ret <| J_return (()) Tryz.results22 (.tmp Z (.tmp Z .nil)) ?_ ?_
  · simp [one, hix.1]
  · exact SU
  refine J_skip <| Q_blk_normal <| qr <| mv Z Z <| L_pur Z (p_add64 Z Z (by omega)) <| ag Z Z <| nq ?_
  exact J_again (k + 1) (by omega) (⟨by omega, fun e he => by
      rw [List.take_add_one, hcc] at he
      rcases List.mem_append.1 he with h | h
      · exact h0 e h
      · rw [List.mem_singleton.1 h]; exact h19⟩) SU KE
  have hkx : k = xs.length := by omega
  rw [hkx, List.take_length] at h0
  have hix := idxJ_none h0
  refine J_exit <| Q_then_exit <| Q_then_exit <| Q_blk_this <| qx <| ag Z Z <| ag Z Z <| nq <| J_ret <| J_return (()) Tryz.results22 (.tmp Z (.tmp Z .nil)) ?_ ?_
  · simp [one, hix.1]
  · exact SU
abbrev encE (o : Option (Int × Int)) : Value := .agg #[.int .i64 (o.getD (0, 0)).1, .int .u32 (o.getD (0, 0)).2, .bool o.isNone]
/-! ### plain: addresses; the way to a slot -/
theorem shl1_24 : ∀ k : Nat, k ≤ 24 → shl1 (k : Int) = 2 ^ k ∧ (2 : Int) ^ k ≤ 16777216 ∧ (1 : Int) ≤ 2 ^ k := by decide
theorem and_mask64 {n : Int} (hk : k ≤ 24) (hn : 0 ≤ n ∧ n < 4294967296) : bits .and .i64 n (2 ^ k - 1) = n % 2 ^ k := by
  obtain ⟨X, rfl⟩ := Int.eq_ofNat_of_zero_le hn.1
  have h2 : 1 ≤ 2 ^ k ∧ 2 ^ k ≤ 16777216 := ⟨Nat.one_le_two_pow, by have : (2 : Nat) ^ k ≤ 2 ^ 24 := Nat.pow_le_pow_right (by omega) hk; omega⟩
  have e : ((2 : Int) ^ k - 1) = ((2 ^ k - 1 : Nat) : Int) := by rw [Int.ofNat_sub h2.1]; push_cast; rfl
  have h3 : X % 2 ^ k ≤ X := Nat.mod_le _ _
  rw [e]
  show IntKind.i64.wrap ((BitVec.ofInt 64 (X : Int) &&& BitVec.ofInt 64 ((2 ^ k - 1 : Nat) : Int)).toNat : Nat) = _
  rw [BitVec.toNat_and, BitVec.ofInt_natCast, BitVec.ofInt_natCast, BitVec.toNat_ofNat, BitVec.toNat_ofNat, Nat.mod_eq_of_lt (show X < 2 ^ 64 by omega), Nat.mod_eq_of_lt (show 2 ^ k - 1 < 2 ^ 64 by omega), Nat.and_two_pow_sub_one_eq_mod, wrap64_of (by omega)]
  push_cast; rfl
theorem and15 {n : Int} (hn : 0 ≤ n ∧ n < 4294967296) : bits .and .i64 n 15 = n % 16 := and_mask64 (k := 4) (by omega) hn
def rightB (v d : Int) : Bool := decide (0 ≤ d) && decide (d ≤ 24) && decide (0 ≤ v) && decide (v < 2 ^ d.toNat)
variable {v : Int}
theorem rightB_is {d : Int} (h : rightB v d = true) : (0 ≤ d ∧ d ≤ 24) ∧ (0 ≤ v ∧ v < 16777216) ∧ v < 2 ^ d.toNat := by
  unfold rightB at h
  simp only [Bool.and_eq_true, decide_eq_true_eq] at h
  obtain ⟨k, rfl⟩ : ∃ k : Nat, d = k := ⟨d.toNat, by omega⟩
  have := (shl1_24 k (by omega)).2
  rw [Int.toNat_natCast] at h ⊢
  omega
def splitA (a : Int) : Option (Int × Int) := if decide (a % 256 < 4) || !rightB (a / 256) (a % 256) then none else some (a / 256, a % 256)
def stepA (c : Cap) (v d : Int) : Option (Int × Int) :=
  if decide (c.kind ≠ 2) || !checkC c || !rightB v d || decide (d < c.size + 4) then none
  else if v / 2 ^ (d - c.size).toNat ≠ c.badge then none
  else some (v / 2 ^ (d - c.size - 4).toNat % 16, d - c.size - 4)
def findA (sl : List (Place × SV)) : Nat → Cap → Int → Int → Option Place
  | 0, _, _, _ => none
  | n + 1, c, v, d => match stepA c v d with
    | none => none
    | some (k, r) => if r = 0 then some (c.obj, k) else match look sl (c.obj, k) with
      | none => none
      | some s => findA sl n s.1 (v % 2 ^ r.toNat) r
def kFind (sl : List (Place × SV)) (root : Cap) (a : Int) : Option Place := match splitA a with
  | none => none
  | some x => findA sl 6 root x.1 x.2
def kCap (sl : List (Place × SV)) (root : Cap) (a kind : Int) : Cap × Place × Int := match kFind sl root a with
  | none => (c0, (0, 0), 2)
  | some p => match look sl p with
    | none => (c0, (0, 0), 4)
    | some v => if kind ≠ 0 ∧ v.1.kind ≠ kind then (c0, (0, 0), 5) else (v.1, p, 0)
theorem splitA_is {a d : Int} (h : splitA a = some (v, d)) : (0 ≤ d ∧ d ≤ 24) ∧ (0 ≤ v ∧ v < 16777216) := by
  unfold splitA at h
  split at h
  · cases h
  · rename_i h1
    simp at h1 h
    obtain ⟨rfl, rfl⟩ := h
    have := rightB_is h1.2
    exact ⟨this.1, this.2.1⟩
variable {c : Cap}
theorem checkC_node (h : checkC c = true) (hk : c.kind = 2) : (0 ≤ c.size ∧ c.size ≤ 8) ∧ (1 ≤ c.obj ∧ c.obj ≤ 64) := by
  unfold checkC inB at h
  simp [hk] at h
  omega
theorem stepA_is {d k r : Int} (h : stepA c v d = some (k, r)) : (0 ≤ r ∧ r ≤ 24) ∧ (0 ≤ k ∧ k < 16) := by
  unfold stepA at h
  split at h
  · cases h
  · rename_i h1
    split at h
    · cases h
    · simp at h1 h
      obtain ⟨⟨⟨h3, h4⟩, h5⟩, h6⟩ := h1
      have := checkC_node h4 h3
      have := rightB_is h5
      omega
theorem div_small (h : 0 ≤ v ∧ v < 16777216) : 0 ≤ v / 2 ^ k ∧ v / 2 ^ k < 4294967296 := by
  have h1 : (0 : Int) < 2 ^ k := Int.pow_pos (by omega)
  exact ⟨Int.ediv_nonneg h.1 (by omega), by have := Int.ediv_le_self (2 ^ k) h.1; omega⟩
theorem rightG {d : Int} :
    Con Tryz.prog 332 #[.int .i64 v, .int .i64 d] E l (fun _ : Unit => .bool (rightB v d)) (fun _ => l) := by
  refine Con.body (n := 21) Tryz.func332 Z Z _ (env_ok 2 Z) <| sr <| ag Z Z <| nx <| mv Z Z <| L_pur Z (p_geq Z Z) <| mv Z Z <| J_gsplit (t := 7) Z (fun h7 => ?_) (fun h7 => ?_)
  refine gp Z Z Z (p_move Z) Z <| gp Z Z Z (p_leq Z Z) Z <| L_pur Z (p_pick_t Z Z) <| mv Z Z <| J_gsplit (t := 11) Z (fun h11 => ?_) (fun h11 => ?_)
  refine gp Z Z Z (p_move Z) Z <| gp Z Z Z (p_geq Z Z) Z <| L_pur Z (p_pick_t Z Z) <| mv Z Z <| J_gsplit (t := 15) Z (fun h15 => ?_) (fun h15 => ?_)
  have hd : 0 ≤ d ∧ d ≤ 24 := ⟨by simpa using h7, by simpa using h11⟩
  obtain ⟨k, hk⟩ : ∃ k : Nat, d = k := ⟨d.toNat, by omega⟩
  obtain ⟨g1, g2, g3⟩ := shl1_24 k (by omega)
  have hdk : d.toNat = k := by omega
  refine gp Z Z Z (p_move Z) Z <| gp Z Z Z (p_move Z) Z <| L_op <| G_on Z Z Z <| J_pur (p_shl Z Z (by omega) (by have : (IntKind.i64.bits : Int) = 64 := rfl; omega)) Z Z Z <| J_slot (t := 18) (v := .int .i64 (2 ^ d.toNat)) Z (by congr 1; rw [hk]; exact g1) <| gp Z Z Z (p_lss Z Z) Z <| L_pur Z (p_pick_t Z Z) <| ag Z Z <| nq <| J_ret <| J_return (()) Tryz.results332 (.tmp Z .nil) ?_ ?_
  · first | rfl | (simp_all [one, rightB]; done) | (simp_all [one, rightB] <;> omega) | (simp_all [one, rightB] <;> grind)
  · exact SU
  refine gz Z Z Z Z Z <| gz Z Z Z Z Z <| gz Z Z Z Z Z <| gz Z Z Z Z Z <| L_pur Z (p_pick_f Z Z) <| ag Z Z <| nq <| J_ret <| J_return (()) Tryz.results332 (.tmp Z .nil) ?_ ?_
  · first | rfl | (simp_all [one, rightB]; done) | (simp_all [one, rightB] <;> omega) | (simp_all [one, rightB] <;> grind)
  · exact SU
  refine gz Z Z Z Z Z <| gz Z Z Z Z Z <| L_pur Z (p_pick_f Z Z) <| mv Z Z <| gz Z Z Z Z Z <| gz Z Z Z Z Z <| gz Z Z Z Z Z <| gz Z Z Z Z Z <| L_pur Z (p_pick_f Z Z) <| ag Z Z <| nq <| J_ret <| J_return (()) Tryz.results332 (.tmp Z .nil) ?_ ?_
  · first | rfl | (simp_all [one, rightB]; done) | (simp_all [one, rightB] <;> omega) | (simp_all [one, rightB] <;> grind)
  · exact SU
  refine gz Z Z Z Z Z <| gz Z Z Z Z Z <| L_pur Z (p_pick_f Z Z) <| mv Z Z <| gz Z Z Z Z Z <| gz Z Z Z Z Z <| L_pur Z (p_pick_f Z Z) <| mv Z Z <| gz Z Z Z Z Z <| gz Z Z Z Z Z <| gz Z Z Z Z Z <| gz Z Z Z Z Z <| L_pur Z (p_pick_f Z Z) <| ag Z Z <| nq <| J_ret <| J_return (()) Tryz.results332 (.tmp Z .nil) ?_ ?_
  · first | rfl | (simp_all [one, rightB]; done) | (simp_all [one, rightB] <;> omega) | (simp_all [one, rightB] <;> grind)
  · exact SU
theorem splitG {a : Int} (ha : 0 ≤ a ∧ a < 4294967296) :
    Con Tryz.prog 321 #[.int .u32 a] E l (fun _ : Unit => .tuple #[.int .i64 ((splitA a).getD (0, 0)).1, .int .i64 ((splitA a).getD (0, 0)).2, .bool (splitA a).isSome]) (fun _ => l) := by
  refine Con.body (n := 23) Tryz.func321 Z Z _ (env_ok 1 Z) <| sr <| ag Z Z <| ag Z Z <| ag Z Z <| nx <| mv Z Z <| L_pur Z (p_shr Z Z (by omega) (by decide)) <| J_slot (t := 8) (v := .int .u32 (a / 256)) Z (by rfl) <| L_pur Z (p_conv Z Tryz.underlying22 Tryz.underlying3) <| J_slot (t := 9) (v := .int .i64 (a / 256)) Z (by rw [wrap64_of (by omega)]) <| mv Z Z <| xo fc263 (A3 Z Z Z) Z (fieldC (n := a) (k := 8) (by omega) ha) fun _ => J_slot (t := 11) (v := .int .u32 (a % 256)) Z (by rfl) <| L_pur Z (p_conv Z Tryz.underlying22 Tryz.underlying3) <| J_slot (t := 12) (v := .int .i64 (a % 256)) Z (by rw [wrap64_of (by omega)]) <| ag Z Z <| ag Z Z <| nxx <| mv Z Z <| L_pur Z (p_lss Z Z) <| mv Z Z <| J_gsplit (t := 15) Z (fun h15 => ?_) (fun h15 => ?_)
  have e15 : decide (a % 256 < 4) = true := h15
  refine gz Z Z Z Z Z <| gz Z Z Z Z Z <| gz Z Z Z Z Z <| gz Z Z Z Z Z <| L_pur Z (p_pick_t Z Z) <| nq <| C_true Z <| sr <| ag Z Z <| ag Z Z <| ag Z Z <| nq <| J_ret <| Q_then_ret <| J_return (()) Tryz.results321 (.tmp Z (.tmp Z (.tmp Z .nil))) ?_ ?_
  · rw [show splitA a = none by unfold splitA; rw [e15]; rfl]; rfl
  · exact SU
  have e15 : decide (a % 256 < 4) = false := h15
  refine gp Z Z Z (p_move Z) Z <| gp Z Z Z (p_move Z) Z <| L_op <| G_on Z Z Z <| xc fc332 (A2 Z Z) Z (rightG) fun _ => gp Z Z Z (p_not Z) Z <| L_pur Z (p_pick_f Z Z) <| nq <| C_split Z (fun h20 => ?_) (fun h20 => ?_)
  have e20 : (!rightB (a / 256) (a % 256)) = true := h20
  refine sr <| ag Z Z <| ag Z Z <| ag Z Z <| nq <| J_ret <| Q_then_ret <| J_return (()) Tryz.results321 (.tmp Z (.tmp Z (.tmp Z .nil))) ?_ ?_
  · rw [show splitA a = none by unfold splitA; rw [e15, e20]; rfl]; rfl
  · exact SU
  have e20 : (!rightB (a / 256) (a % 256)) = false := h20
  refine J_skip <| qx <| mv Z Z <| mv Z Z <| ag Z Z <| ag Z Z <| ag Z Z <| nq <| J_ret <| J_return (()) Tryz.results321 (.tmp Z (.tmp Z (.tmp Z .nil))) ?_ ?_
  · rw [show splitA a = some (a / 256, a % 256) by unfold splitA; rw [e15, e20]; rfl]; rfl
  · exact SU
theorem stepG {d : Int} :
    Con Tryz.prog 322 #[.agg (encC c).toArray, .int .i64 v, .int .i64 d] E l (fun _ : Unit => .tuple #[.int .i64 ((stepA c v d).getD (0, 0)).1, .int .i64 ((stepA c v d).getD (0, 0)).2, .bool (stepA c v d).isSome]) (fun _ => l) := by
  refine Con.body (n := 48) Tryz.func322 Z Z _ (env_ok 3 Z) <| sr <| L_op <| x_box Z Z Z fun b3 => ag Z Z <| ag Z Z <| ag Z Z <| nxx <| fa Z Z fa110_0 <| L_val Z (v_load Z ty3 HS (by exact rfl)) <| L_pur Z (p_neq Z Z) <| mv Z Z <| J_gsplit (t := 13) Z (fun h13 => ?_) (fun h13 => ?_)
  refine gz Z Z Z Z Z <| gz Z Z Z Z Z <| gz Z Z Z Z Z <| L_pur Z (p_pick_t Z Z) <| mv Z Z <| gz Z Z Z Z Z <| gz Z Z Z Z Z <| gz Z Z Z Z Z <| gz Z Z Z Z Z <| L_pur Z (p_pick_t Z Z) <| mv Z Z <| gz Z Z Z Z Z <| gz Z Z Z Z Z <| gz Z Z Z Z Z <| gz Z Z Z Z Z <| gz Z Z Z Z Z <| L_pur Z (p_pick_t Z Z) <| nq <| C_true Z <| sr <| ag Z Z <| ag Z Z <| ag Z Z <| nq <| J_ret <| Q_then_ret <| J_return (()) Tryz.results322 (.tmp Z (.tmp Z (.tmp Z .nil))) ?_ ?_
  · rw [show stepA c v d = none by unfold stepA; simp_all]; rfl
  · exact SU
  refine L_op <| G_on Z Z Z <| J_val (v_loadA Z ty110 HS CT) Z Z Z <| L_op <| G_on Z Z Z <| xc fc104 (A1 Z) Z (cCheck (c := c)) fun _ => gp Z Z Z (p_not Z) Z <| L_pur Z (p_pick_f Z Z) <| mv Z Z <| J_gsplit (t := 18) Z (fun h18 => ?_) (fun h18 => ?_)
  refine gz Z Z Z Z Z <| gz Z Z Z Z Z <| gz Z Z Z Z Z <| gz Z Z Z Z Z <| L_pur Z (p_pick_t Z Z) <| mv Z Z <| gz Z Z Z Z Z <| gz Z Z Z Z Z <| gz Z Z Z Z Z <| gz Z Z Z Z Z <| gz Z Z Z Z Z <| L_pur Z (p_pick_t Z Z) <| nq <| C_true Z <| sr <| ag Z Z <| ag Z Z <| ag Z Z <| nq <| J_ret <| Q_then_ret <| J_return (()) Tryz.results322 (.tmp Z (.tmp Z (.tmp Z .nil))) ?_ ?_
  · rw [show stepA c v d = none by unfold stepA; simp_all]; rfl
  · exact SU
  refine gp Z Z Z (p_move Z) Z <| gp Z Z Z (p_move Z) Z <| L_op <| G_on Z Z Z <| xc fc332 (A2 Z Z) Z (rightG) fun _ => gp Z Z Z (p_not Z) Z <| L_pur Z (p_pick_f Z Z) <| mv Z Z <| J_gsplit (t := 24) Z (fun h24 => ?_) (fun h24 => ?_)
  refine gz Z Z Z Z Z <| gz Z Z Z Z Z <| gz Z Z Z Z Z <| gz Z Z Z Z Z <| gz Z Z Z Z Z <| L_pur Z (p_pick_t Z Z) <| nq <| C_true Z <| sr <| ag Z Z <| ag Z Z <| ag Z Z <| nq <| J_ret <| Q_then_ret <| J_return (()) Tryz.results322 (.tmp Z (.tmp Z (.tmp Z .nil))) ?_ ?_
  · rw [show stepA c v d = none by unfold stepA; simp_all]; rfl
  · exact SU
  have hk2 : c.kind = 2 := by simpa using h13
  have hck : checkC c = true := by simpa using h18
  have hri : rightB v d = true := by simpa using h24
  have hcn := checkC_node hck hk2
  have hrb := rightB_is hri
  refine gp Z Z Z (p_move Z) Z <| gp Z Z Z (p_fieldAddr Z fa110_2) Z <| L_op <| G_on Z Z Z <| J_val (v_load Z ty3 HS (by exact rfl)) Z Z Z <| gp Z Z Z (p_add64 Z Z (by omega)) Z <| gp Z Z Z (p_lss Z Z) Z <| L_pur Z (p_pick_f Z Z) <| nq <| C_split Z (fun h30 => ?_) (fun h30 => ?_)
  refine sr <| ag Z Z <| ag Z Z <| ag Z Z <| nq <| J_ret <| Q_then_ret <| J_return (()) Tryz.results322 (.tmp Z (.tmp Z (.tmp Z .nil))) ?_ ?_
  · rw [show stepA c v d = none by unfold stepA; simp_all]; rfl
  · exact SU
  have hge : c.size + 4 ≤ d := by simpa using h30
  refine J_skip <| qx <| mv Z Z <| fa Z Z fa110_2 <| L_val Z (v_load Z ty3 HS (by exact rfl)) <| L_pur Z (p_sub64 Z Z (by omega)) <| ag Z Z <| nq <| J_seq <| J_seq <| J_drawS mixed (by kernel_rfl) <| sm Z Z <| sm Z Z <| sp Z (p_shr Z Z (by omega) (by have : (IntKind.i64.bits : Int) = 64 := rfl; omega)) <| sp Z (p_fieldAddr Z fa110_3) <| S_val Z (v_load Z ty3 HS (by exact rfl)) <| sp Z (p_neq Z Z) <| sq <| C_split Z (fun h40 => ?_) (fun h40 => ?_)
  refine sr <| ag Z Z <| ag Z Z <| ag Z Z <| nq <| J_ret <| Q_then_ret <| J_return (()) Tryz.results322 (.tmp Z (.tmp Z (.tmp Z .nil))) ?_ ?_
  · rw [show stepA c v d = none by unfold stepA; simp_all]; rfl
  · exact SU
  refine J_skip <| qx <| mv Z Z <| L_pur Z (p_sub64 Z Z (by omega)) <| ag Z Z <| nx <| mv Z Z <| mv Z Z <| L_pur Z (p_shr Z Z (by omega) (by have : (IntKind.i64.bits : Int) = 64 := rfl; omega)) <| L_pur Z (p_and Z Z) <| J_slot (t := 46) (v := .int .i64 (v / 2 ^ (d - c.size - 4).toNat % 16)) Z (by rw [and15 (div_small hrb.2.1)]) <| mv Z Z <| ag Z Z <| ag Z Z <| ag Z Z <| nq <| J_ret <| J_return (()) Tryz.results322 (.tmp Z (.tmp Z (.tmp Z .nil))) ?_ ?_
  · rw [show stepA c v d = some (v / 2 ^ (d - c.size - 4).toNat % 16, d - c.size - 4) by unfold stepA; simp_all]; rfl
  · exact SU
variable {ps : List (Place × SV)}
theorem findG (hp : Pick (slA b o ps) l m) {root : Cap} {a : Int} (ha : 0 ≤ a ∧ a < 4294967296) :
    Con Tryz.prog 309 #[.pointer (some ⟨b, o, none⟩), .agg (encC root).toArray, .int .u32 a] E l (fun _ : Unit => .tuple #[.agg (encI ((kFind ps root a).getD (0, 0))).toArray, .int .i64 (if (kFind ps root a).isSome then 0 else 2)]) (fun _ => slA b o ps :: m) := by
  refine Con.body (n := 63) Tryz.func309 Z Z _ (env_ok 3 Z) <| J_pick hp <| sr <| L_op <| x_box Z Z Z fun b4 => L_op <| x_alloc ty108 Z fun b6 => ag Z Z <| nx <| mv Z Z <| xo fc321 (A1 Z) Z (splitG ha) fun _ => mv Z Z <| L_pur Z (p_extract Z Z) <| L_pur Z (p_extract Z Z) <| L_pur Z (p_extract Z Z) <| ag Z Z <| ag Z Z <| ag Z Z <| nxx <| mv Z Z <| L_pur Z (p_not Z) <| nq <| C_split Z (fun h23 => ?_) (fun h23 => ?_)
  have hsp : splitA a = none := by
    cases hq : splitA a with
    | none => rfl
    | some y => rw [hq] at h23; simp at h23
  have hfk : kFind ps root a = none := by unfold kFind; rw [hsp]
  refine sr <| L_pur Z (bld108 .nil (by repeat constructor)) <| L_op <| x_store Z Z ty108 Z SM SM RO PT <| ag Z Z <| nq <| J_ret <| Q_then_ret <| J_return (()) Tryz.results309 (.cellA Z ty108 HS CT (.tmp Z .nil)) ?_ ?_
  · rw [hfk]; rfl
  · exact SU
  obtain ⟨⟨v0, d0⟩, hsp⟩ : ∃ x, splitA a = some x := by
    cases hq : splitA a with
    | none => rw [hq] at h23; simp at h23
    | some y => exact ⟨y, rfl⟩
  have hs0 := splitA_is hsp
  have hf0 : findA ps 6 root v0 d0 = kFind ps root a := by unfold kFind; rw [hsp]
  refine J_slot (t := 8) (v := .int .i64 (v0)) Z (by rw [hsp]; rfl) <| J_slot (t := 9) (v := .int .i64 (d0)) Z (by rw [hsp]; rfl) <| J_skip <| qx <| L_val Z (v_loadA Z ty110 HS CT) <| L_op <| x_alloc ty110 Z fun b11 => L_op <| x_store Z Z ty110 Z SM SM RO PT <| nq <| J_seq <| J_seq <| J_pick (A := blk b11 _ _) PC ?_
  refine J_asTo (B := blk b11 110 (encC root)) (by rfl) <| J_region <| mv Z Z <| nq <| J_block <| J_loop (α := Nat × Cap × Int × Int) (fun x => x.1 ≤ 6 ∧ ((0 ≤ x.2.2.2 ∧ x.2.2.2 ≤ 24) ∧ (0 ≤ x.2.2.1 ∧ x.2.2.1 < 16777216)) ∧ findA ps (6 - x.1) x.2.1 x.2.2.1 x.2.2.2 = kFind ps root a) (fun x => blk b11 110 (encC x.2.1) :: blk b6 108 [.int .i64 0, .int .i64 0] :: slA b o ps :: m) (fun x => [(26, .int .i64 (x.1 : Int)), (8, .int .i64 x.2.2.1), (9, .int .i64 x.2.2.2), (0, .pointer (some ⟨b, o, none⟩)), (11, .pointer (some ⟨b11, 0, none⟩)), (6, .pointer (some ⟨b6, 0, none⟩))]) (fun x => 6 - x.1) (0, root, v0, d0) ⟨by omega, hs0, hf0⟩ SU KE ?_
  intro x hx
  obtain ⟨k, c, v, d⟩ := x
  obtain ⟨hk, hv, hf⟩ := hx
  dsimp only at hk hv hf ⊢
  refine sr <| L_pur Z (p_lss Z Z) <| nq <| J_seq <| C_dec Z (fun h27 => ?_) (fun h27 => ?_)
  obtain ⟨n, hn⟩ : ∃ n, 6 - k = n + 1 := ⟨5 - k, by omega⟩
  rw [hn, findA] at hf
  refine J_skip <| Q_then <| J_seq <| J_block <| sr <| L_val Z (v_loadA Z ty110 HS CT) <| mv Z Z <| mv Z Z <| xo fc322 (A3 Z Z Z) Z (stepG (c := c) (v := v) (d := d)) fun _ => mv Z Z <| L_pur Z (p_extract Z Z) <| L_pur Z (p_extract Z Z) <| L_pur Z (p_extract Z Z) <| ag Z Z <| ag Z Z <| ag Z Z <| nxx <| mv Z Z <| L_pur Z (p_not Z) <| nq <| C_split Z (fun h37 => ?_) (fun h37 => ?_)
  have hst : stepA c v d = none := by
    cases hq : stepA c v d with
    | none => rfl
    | some y => rw [hq] at h37; simp at h37
  rw [hst] at hf
  have hfk : kFind ps root a = none := hf.symm
  refine sr <| L_pur Z (bld108 .nil (by repeat constructor)) <| L_op <| x_store Z Z ty108 Z SM SM RO PT <| ag Z Z <| nq <| J_ret <| Q_then_ret <| Q_blk_ret <| Q_then_ret <| Q_then_ret <| Q_blk_ret <| Q_then_ret <| J_return (()) Tryz.results309 (.cellA Z ty108 HS CT (.tmp Z .nil)) ?_ ?_
  · rw [hfk]; rfl
  · exact SU
  obtain ⟨⟨j, r⟩, hst⟩ : ∃ x, stepA c v d = some x := by
    cases hq : stepA c v d with
    | none => rw [hq] at h37; simp at h37
    | some y => exact ⟨y, rfl⟩
  rw [hst] at hf
  have hjr := stepA_is hst
  refine J_slot (t := 12) (v := .int .i64 (j)) Z (by rw [hst]; rfl) <| J_slot (t := 13) (v := .int .i64 (r)) Z (by rw [hst]; rfl) <| J_skip <| qx <| fa Z Z fa110_1 <| L_val Z (v_load Z ty3 HS (by exact rfl)) <| mv Z Z <| L_pur Z (bld108 (.cons Z (.cons Z .nil)) (by repeat constructor)) <| L_op <| x_alloc ty108 Z fun b15 => L_op <| x_store Z Z ty108 Z SM SM RO PT <| J_pick (A := blk b15 _ _) PC <| J_asTo (B := blk b15 108 (encI (c.obj, j))) (by rfl) <| nxx <| mv Z Z <| L_pur Z (p_eql Z Z) <| nq <| C_dec Z (fun h44 => ?_) (fun h44 => ?_)
  have hfk : kFind ps root a = some (c.obj, j) := by rw [← hf]; exact if_pos h44
  refine sr <| L_val Z (v_loadA Z ty108 HS CT) <| L_op <| x_store Z Z ty108 Z SM SM RO PT <| ag Z Z <| nq <| J_ret <| Q_then_ret <| Q_blk_ret <| Q_then_ret <| Q_then_ret <| Q_blk_ret <| Q_then_ret <| J_return (()) Tryz.results309 (.cellA Z ty108 HS CT (.tmp Z .nil)) ?_ ?_
  · rw [hfk]; rfl
  · exact SU
  dsimp only at hf
  rw [if_neg h44] at hf
  refine J_skip <| Q_then <| J_seq <| sr <| mv Z Z <| L_val Z (v_loadA Z ty108 HS CT) <| xo fc277 (A2 Z Z) Z (slGetC (ps := ps) (p := (c.obj, j)) PC) fun _ => mv Z Z <| L_pur Z (p_extract Z Z) <| L_pur Z (p_extract Z Z) <| L_op <| x_store Z Z ty110 Z SM SM RO PT <| ag Z Z <| nx <| mv Z Z <| L_pur Z (p_not Z) <| nq <| C_split Z (fun h53 => ?_) (fun h53 => ?_)
  have hsl : look ps (c.obj, j) = none := by
    cases hq : look ps (c.obj, j) with
    | none => rfl
    | some y => rw [hq] at h53; simp at h53
  rw [hsl] at hf
  have hfk : kFind ps root a = none := hf.symm
  refine sr <| L_pur Z (bld108 .nil (by repeat constructor)) <| L_op <| x_store Z Z ty108 Z SM SM RO PT <| ag Z Z <| nq <| J_ret <| Q_then_ret <| Q_blk_ret <| Q_then_ret <| Q_then_ret <| Q_blk_ret <| Q_then_ret <| J_return (()) Tryz.results309 (.cellA Z ty108 HS CT (.tmp Z .nil)) ?_ ?_
  · rw [hfk]; rfl
  · exact SU
  obtain ⟨sv, hsv⟩ : ∃ x, look ps (c.obj, j) = some x := by
    cases hq : look ps (c.obj, j) with
    | none => rw [hq] at h53; simp at h53
    | some y => exact ⟨y, rfl⟩
  rw [hsv] at hf
  refine J_pick (A := blk b11 _ _) PC <| J_asTo (B := blk b11 110 (encC sv.1)) (by rw [hsv]; rfl) ?_
  obtain ⟨rk, hrk⟩ : ∃ rk : Nat, r = rk := ⟨r.toNat, by omega⟩
  obtain ⟨g1, g2, g3⟩ := shl1_24 rk (by omega)
  have hrt : r.toNat = rk := by omega
  have hvm : 0 ≤ v % 2 ^ r.toNat ∧ v % 2 ^ r.toNat < 16777216 := by
    rw [hrt]
    exact ⟨Int.emod_nonneg _ (by omega), by have := Int.emod_lt_of_pos v (b := 2 ^ rk) (by omega); omega⟩
  refine J_skip <| qr <| mv Z Z <| mv Z Z <| L_pur Z (p_shl Z Z (by omega) (by have : (IntKind.i64.bits : Int) = 64 := rfl; omega)) <| J_slot (t := 57) (v := .int .i64 (2 ^ rk)) Z (by rw [← g1]; unfold shl1; rw [hrk]) <| L_pur Z (p_sub64 Z Z (by omega)) <| L_pur Z (p_and Z Z) <| J_slot (t := 59) (v := .int .i64 (v % 2 ^ r.toNat)) Z (by rw [hrt, and_mask64 (by omega) (by omega)]) <| mv Z Z <| ag Z Z <| ag Z Z <| L_nil <| Q_blk_normal <| qr <| L_pur Z (p_add64 Z Z (by omega)) <| mv Z Z <| nq ?_
  exact J_again ((k + 1, sv.1, v % 2 ^ r.toNat, r)) (by show 6 - (k + 1) < 6 - k; omega) (⟨by show k + 1 ≤ 6; omega, ⟨hjr.1, hvm⟩, by rw [← hf]; show findA ps (6 - (k + 1)) _ _ _ = _; rw [show 6 - (k + 1) = n by omega]⟩) SU KE
  have hfk : kFind ps root a = none := by rw [← hf, show 6 - k = 0 by omega]; rfl
  refine J_exit <| Q_then_exit <| Q_then_exit <| Q_blk_this <| qx <| L_pur Z (bld108 .nil (by repeat constructor)) <| L_op <| x_store Z Z ty108 Z SM SM RO PT <| ag Z Z <| nq <| J_ret <| J_return (()) Tryz.results309 (.cellA Z ty108 HS CT (.tmp Z .nil)) ?_ ?_
  · rw [hfk]; rfl
  · exact SU
theorem capG (hp : Pick (slA b o ps) l m) {root : Cap} {a kind : Int} (ha : 0 ≤ a ∧ a < 4294967296) :
    Con Tryz.prog 285 #[.pointer (some ⟨b, o, none⟩), .agg (encC root).toArray, .int .u32 a, .int .i64 kind] E l (fun _ : Unit => .tuple #[.agg (encC (kCap ps root a kind).1).toArray, .agg (encI (kCap ps root a kind).2.1).toArray, .int .i64 (kCap ps root a kind).2.2]) (fun _ => slA b o ps :: m) := by
  refine Con.body (n := 51) Tryz.func285 Z Z _ (env_ok 4 Z) <| J_pick hp <| sr <| L_op <| x_box Z Z Z fun b5 => L_op <| x_alloc ty110 Z fun b8 => L_op <| x_alloc ty108 Z fun b9 => ag Z Z <| nx <| mv Z Z <| L_val Z (v_loadA Z ty110 HS CT) <| mv Z Z <| xo fc309 (A3 Z Z Z) Z (findG (ps := ps) (root := root) (a := a) PC ha) fun _ => mv Z Z <| L_pur Z (p_extract Z Z) <| L_pur Z (p_extract Z Z) <| L_op <| x_alloc ty108 Z fun b11 => L_op <| x_store Z Z ty108 Z SM SM RO PT <| ag Z Z <| nxx <| mv Z Z <| L_pur Z (p_neq Z Z) <| nq <| C_split Z (fun h23 => ?_) (fun h23 => ?_)
  have hfi : kFind ps root a = none := by
    cases hq : kFind ps root a with
    | none => rfl
    | some y => rw [hq] at h23; simp at h23
  have hca : (kCap ps root a kind) = (c0, (0, 0), 2) := by unfold kCap; rw [hfi]
  refine J_slot (t := 12) (v := .int .i64 (2)) Z (by rw [hfi]; rfl) <| sr <| L_pur Z (bld110 .nil (by repeat constructor)) <| L_pur Z (bld108 .nil (by repeat constructor)) <| mv Z Z <| L_op <| x_store Z Z ty110 Z SM SM RO PT <| L_op <| x_store Z Z ty108 Z SM SM RO PT <| ag Z Z <| nq <| J_ret <| Q_then_ret <| J_return (()) Tryz.results285 (.cellA Z ty110 HS CT (.cellA Z ty108 HS CT (.tmp Z .nil))) ?_ ?_
  · rw [hca]; rfl
  · exact SU
  obtain ⟨pl, hfi⟩ : ∃ x, kFind ps root a = some x := by
    cases hq : kFind ps root a with
    | none => rw [hq] at h23; simp at h23
    | some y => exact ⟨y, rfl⟩
  refine J_pick (A := blk b11 _ _) PC <| J_asTo (B := blk b11 108 (encI pl)) (by rw [hfi]; rfl) <| J_skip <| qx <| mv Z Z <| L_val Z (v_loadA Z ty108 HS CT) <| xo fc277 (A2 Z Z) Z (slGetC (ps := ps) (p := pl) PC) fun _ => mv Z Z <| L_pur Z (p_extract Z Z) <| L_pur Z (p_extract Z Z) <| L_op <| x_alloc ty110 Z fun b13 => L_op <| x_store Z Z ty110 Z SM SM RO PT <| ag Z Z <| nq <| J_seq <| J_block <| sr <| mv Z Z <| L_pur Z (p_not Z) <| ag Z Z <| nq <| C_split Z (fun h33 => ?_) (fun h33 => ?_)
  have hno : look ps pl = none := by
    cases hq : look ps pl with
    | none => rfl
    | some y => rw [hq] at h33; simp at h33
  have hca : (kCap ps root a kind) = (c0, (0, 0), 4) := by unfold kCap; rw [hfi]; dsimp only; rw [hno]
  refine sr <| L_pur Z (bld110 .nil (by repeat constructor)) <| L_pur Z (bld108 .nil (by repeat constructor)) <| L_op <| x_store Z Z ty110 Z SM SM RO PT <| L_op <| x_store Z Z ty108 Z SM SM RO PT <| ag Z Z <| nq <| J_ret <| Q_blk_ret <| Q_then_ret <| J_return (()) Tryz.results285 (.cellA Z ty110 HS CT (.cellA Z ty108 HS CT (.tmp Z .nil))) ?_ ?_
  · rw [hca]; rfl
  · exact SU
  obtain ⟨sv, hsv⟩ : ∃ x, look ps pl = some x := by
    cases hq : look ps pl with
    | none => rw [hq] at h33; simp at h33
    | some y => exact ⟨y, rfl⟩
  refine J_pick (A := blk b13 _ _) PC <| J_asTo (B := blk b13 110 (encC sv.1)) (by rw [hsv]; rfl) <| sr <| mv Z Z <| L_pur Z (p_neq Z Z) <| mv Z Z <| J_gsplit (t := 41) Z (fun h41 => ?_) (fun h41 => ?_)
  refine gp Z Z Z (p_fieldAddr Z fa110_0) Z <| L_op <| G_on Z Z Z <| J_val (v_load Z ty3 HS (by exact rfl)) Z Z Z <| gp Z Z Z (p_move Z) Z <| gp Z Z Z (p_neq Z Z) Z <| L_pur Z (p_pick_t Z Z) <| ag Z Z <| nq <| C_split Z (fun h38 => ?_) (fun h38 => ?_)
  have hca : (kCap ps root a kind) = (c0, (0, 0), 5) := by unfold kCap; rw [hfi]; dsimp only; rw [hsv]; simp_all
  refine sr <| L_pur Z (bld110 .nil (by repeat constructor)) <| L_pur Z (bld108 .nil (by repeat constructor)) <| L_op <| x_store Z Z ty110 Z SM SM RO PT <| L_op <| x_store Z Z ty108 Z SM SM RO PT <| ag Z Z <| nq <| J_ret <| Q_blk_ret <| Q_then_ret <| J_return (()) Tryz.results285 (.cellA Z ty110 HS CT (.cellA Z ty108 HS CT (.tmp Z .nil))) ?_ ?_
  · rw [hca]; rfl
  · exact SU
  have hca : (kCap ps root a kind) = (sv.1, pl, 0) := by unfold kCap; rw [hfi]; dsimp only; rw [hsv]; simp_all
  refine J_skip <| Q_blk_normal <| Q_then <| J_seq <| J_drawL (some 2) mixed <| iv 0 Z Z Z Z (fun _ => v_loadA Z ty110 HS CT) <| I_ready (rs := [1, 2]) SI (by kernel_rfl) (by simp) <| (I_cons Z ?_ (I_cons Z ?_ I_nil))
  refine J_val (v_loadA Z ty108 HS CT) Z Z Z <| i1 2 Z <| x_store Z Z ty110 Z SM SM RO PT <| i1 3 Z <| x_store Z Z ty108 Z SM SM RO PT <| ip 4 Z Z Z Z (p_assign Z) <| i0 <| Q_then <| J_ret <| J_return (()) Tryz.results285 (.cellA Z ty110 HS CT (.cellA Z ty108 HS CT (.tmp Z .nil))) ?_ ?_
  · rw [hca]; rfl
  · exact SU
  refine x_store Z Z ty110 Z SM SM RO PT <| i1 1 Z <| J_val (v_loadA Z ty108 HS CT) Z Z Z <| i1 3 Z <| x_store Z Z ty108 Z SM SM RO PT <| ip 4 Z Z Z Z (p_assign Z) <| i0 <| Q_then <| J_ret <| J_return (()) Tryz.results285 (.cellA Z ty110 HS CT (.cellA Z ty108 HS CT (.tmp Z .nil))) ?_ ?_
  · rw [hca]; rfl
  · exact SU
  have hca : (kCap ps root a kind) = (sv.1, pl, 0) := by unfold kCap; rw [hfi]; dsimp only; rw [hsv]; simp_all
  refine gz Z Z Z Z Z <| gz Z Z Z Z Z <| gz Z Z Z Z Z <| gz Z Z Z Z Z <| L_pur Z (p_pick_f Z Z) <| ag Z Z <| nq <| C_false Z <| J_skip <| Q_blk_normal <| Q_then <| J_seq <| J_drawL (some 2) mixed <| iv 0 Z Z Z Z (fun _ => v_loadA Z ty110 HS CT) <| I_ready (rs := [1, 2]) SI (by kernel_rfl) (by simp) <| (I_cons Z ?_ (I_cons Z ?_ I_nil))
  refine J_val (v_loadA Z ty108 HS CT) Z Z Z <| i1 2 Z <| x_store Z Z ty110 Z SM SM RO PT <| i1 3 Z <| x_store Z Z ty108 Z SM SM RO PT <| ip 4 Z Z Z Z (p_assign Z) <| i0 <| Q_then <| J_ret <| J_return (()) Tryz.results285 (.cellA Z ty110 HS CT (.cellA Z ty108 HS CT (.tmp Z .nil))) ?_ ?_
  · rw [hca]; rfl
  · exact SU
  refine x_store Z Z ty110 Z SM SM RO PT <| i1 1 Z <| J_val (v_loadA Z ty108 HS CT) Z Z Z <| i1 3 Z <| x_store Z Z ty108 Z SM SM RO PT <| ip 4 Z Z Z Z (p_assign Z) <| i0 <| Q_then <| J_ret <| J_return (()) Tryz.results285 (.cellA Z ty110 HS CT (.cellA Z ty108 HS CT (.tmp Z .nil))) ?_ ?_
  · rw [hca]; rfl
  · exact SU
/-! ### plain: slots, by what they hold; a tree of slots -/
def heirs (ps : List (Place × SV)) (q : SV → Bool) : List Place := sortP ((ps.filter fun e => q e.2).map Prod.fst)
def kids (ps : List (Place × SV)) (p : Place) : List Place := if (look ps p).isSome then heirs ps fun s => decide (s.2 = p) else []
def namesC (a b : Cap) : Bool := decide (a.kind = b.kind) && decide (a.obj = b.obj) && (decide (a.kind ≠ 1) || decide (a.size = b.size))
def named (ps : List (Place × SV)) (c : Cap) : List Place := heirs ps fun s => namesC s.1 c
theorem heirs_len (ps : List (Place × SV)) (q : SV → Bool) : (heirs ps q).length ≤ ps.length := by
  unfold heirs; rw [sortP_len, List.length_map]; exact List.length_filter_le _ _
theorem kids_len (ps : List (Place × SV)) (p : Place) : (kids ps p).length ≤ ps.length := by
  unfold kids; split
  · exact heirs_len _ _
  · exact Nat.zero_le _
variable {a : Place}
theorem heirs_mem {q : SV → Bool} : a ∈ heirs ps q ↔ ∃ s, (a, s) ∈ ps ∧ q s = true := by
  unfold heirs sortP
  rw [sortF_mem, List.mem_map]
  constructor
  · rintro ⟨e, he, rfl⟩
    have := List.mem_filter.1 he
    exact ⟨e.2, this.1, this.2⟩
  · rintro ⟨s, h1, h2⟩
    exact ⟨(a, s), List.mem_filter.2 ⟨h1, h2⟩, rfl⟩
def comeS (ps : List (Place × SV)) (q : SV → Bool) (done : List Place) : List Place := done.filter fun k => q ((look ps k).getD s0)
variable {done : List Place}
theorem comeS_on {q : SV → Bool} {k : Place} {u : SV} (hK : Keyd ps) (hm : (k, u) ∈ ps) (h : q u = true) : comeS ps q (done ++ [k]) = comeS ps q done ++ [k] := by
  unfold comeS
  rw [List.filter_append]
  congr 1
  simp [look_mem hK hm, h]
theorem comeS_off {q : SV → Bool} {k : Place} {u : SV} (hK : Keyd ps) (hm : (k, u) ∈ ps) (h : q u = false) : comeS ps q (done ++ [k]) = comeS ps q done := by
  unfold comeS
  rw [List.filter_append]
  simp [look_mem hK hm, h]
theorem comeS_len (ps : List (Place × SV)) (q : SV → Bool) (done : List Place) : (comeS ps q done).length ≤ done.length := List.length_filter_le _ _
theorem comeS_perm {q : SV → Bool} (hK : Keyd ps) (h : done.Perm (ps.map Prod.fst)) : (comeS ps q done).Perm ((ps.filter fun e => q e.2).map Prod.fst) := by
  unfold comeS
  have h1 := h.filter fun k => q ((look ps k).getD s0)
  rw [List.filter_map] at h1
  have h2 : (ps.filter ((fun k => q ((look ps k).getD s0)) ∘ Prod.fst)) = ps.filter fun e => q e.2 := List.filter_congr fun e he => by
    simp only [Function.comp]
    rw [look_mem hK (show (e.1, e.2) ∈ ps from he)]; rfl
  rw [h2] at h1
  exact h1
def turnL (ps : List (Place × SV)) (to : Place) (l : List Place) : List (Place × SV) := l.foldl (fun t k => ins t k (((look t k).getD s0).1, to)) ps
def turnS (ps : List (Place × SV)) (a to : Place) : List (Place × SV) := turnL ps to (kids ps a)
theorem turnL_snoc {to k : Place} {l : List Place} : turnL ps to (l ++ [k]) = ins (turnL ps to l) k (((look (turnL ps to l) k).getD s0).1, to) := by unfold turnL; rw [List.foldl_append]; rfl
theorem turnL_some {to a : Place} : ∀ {l : List Place} {ps : List (Place × SV)}, (look ps a).isSome = true → (look (turnL ps to l) a).isSome = true
  | [], _, h => h
  | k :: l, ps, h => turnL_some (l := l) (ps := ins ps k (((look ps k).getD s0).1, to)) (by rw [look_ins]; split <;> simp [h])
theorem kids_some {p : Place} (hK : Keyd ps) (h : a ∈ kids ps p) : (look ps a).isSome = true := by
  unfold kids at h
  split at h
  · obtain ⟨s, h1, _⟩ := heirs_mem.1 h
    rw [look_mem hK h1]; rfl
  · cases h
def dropS (ps : List (Place × SV)) (p : Place) : List (Place × SV) := match look ps p with
  | none => ps
  | some s => del (turnS ps p s.2) p
def moveOk (ps : List (Place × SV)) (a b : Place) : Bool := (look ps a).isSome && canP b && !(look ps b).isSome
def moveS (ps : List (Place × SV)) (a b : Place) : List (Place × SV) := if moveOk ps a b then ins (del (turnS ps a b) a) b ((look ps a).getD s0) else ps
def belowL (ps : List (Place × SV)) : Nat → List Place → List Place → Option (List Place)
  | _, done, [] => some done
  | 0, _, _ :: _ => none
  | n + 1, done, p :: ts => belowL ps n (done ++ [p]) (ts ++ kids ps p)
theorem belowL_len {ps : List (Place × SV)} : ∀ {n : Nat} {done todo L : List Place}, belowL ps n done todo = some L → (done ++ todo).length ≤ L.length
  | n, done, [], L, h => by
    unfold belowL at h
    cases h; simp
  | 0, done, p :: ts, L, h => by simp [belowL] at h
  | n + 1, done, p :: ts, L, h => by
    rw [belowL] at h
    have := belowL_len h
    simp at this ⊢
    omega
theorem J_slKeyd {F : Env} {K : Act → World → Prop} (k : Keyd ps → Jk E (slA b o ps :: l) n F K) : Jk E (slA b o ps :: l) n F K :=
  J_slO fun ob _ => J_mapV (ek := kI) (ev := evS) (ps := ps) HS (fun _ h1 => by
    subst h1
    exact J_slS (b := b) (o := o) (ps := []) ob PX trivial (k Keyd.nil)) (fun bm _ hK => J_slS (b := b) (o := o) (ps := ps) ob PX trivial (k hK))
theorem whichC {g : FuncId} {caps : Array Value} {fn : Func} (hf : Tryz.prog.funcs[g]? = some fn) (hn : (fn.name == "runtime.NumGoroutine") = false) (hb : fn.body.isNone = false) {q : SV → Bool} {C : As} (hg : ∀ (l' : List As) (s : SV), Has C l' → Con Tryz.prog g (#[evS s] ++ caps) E l' (fun _ : Unit => .bool (q s)) (fun _ => l')) (hp : Picks [C, slA b o ps] l m) (hz : ps.length ≤ 100000) :
  Con Tryz.prog 328 #[.pointer (some ⟨b, o, none⟩), .func (.func g) #[] caps] E l (fun v : Value => v) (fun v => row 108 2 v ((heirs ps q).map encI) :: C :: slA b o ps :: m) := by
 refine Con.body (n := 28) Tryz.func328 Z Z _ (env_ok 2 Z) <| J_picks2 hp <| J_pick (A := slA b o ps) PC <| J_slO fun ob _ => sr <| ag Z Z <| nx <| ag Z Z <| J_nil (el := 108) (sz := 2) <| nxx <| mv Z Z <| nc Z Z <| fa Z Z fa126_0 <| L_val Z (v_loadL Z ty124 HS Z (by exact rfl)) <| L_op <| x_range (ek := kI) (ev := evS) Z Tryz.underlying124 PC Z fun r12 => nq <| J_block <| J_rangeKeyd (ek := kI) (ev := evS) (ps := ps) HS fun hK => J_loop2 (fun done v => Come ps done) (fun done v => rangeA kI evS (.map ob) r12 ps done :: row 108 2 v ((comeS ps q done).map encI) :: C :: fld b o [.map ob] :: m) (fun done v => [(12, .pointer (some ⟨r12, 0, none⟩)), (5, v), (0, .pointer (some ⟨b, o, none⟩)), (1, .func (.func g) #[] caps)]) (fun done v => ps.length - done.length) [] _ Come.nil SU KE ?_
 intro done v hC
 refine sr <| L_op (x_next (ek := kI) (ev := evS) Z PC Z (fun k13 u13 hm13 hn13 => ?_) (fun hd13 => ?_))
 have hlt := hC.lt hK hm13 hn13
 have hcl := comeS_len ps q done
 refine L_pur Z (p_extract Z Z) <| nq <| J_seq <| C_true Z <| J_skip <| Q_then <| J_block <| sr <| L_val Z (v_entry (ek := kI) (ev := evS) Z HS (by simp) hm13) <| L_pur Z (p_extract Z Z) <| L_pur Z (p_extract Z Z) <| L_op <| x_alloc ty108 Z fun b6 => L_op <| x_alloc ty195 Z fun b7 => L_op <| x_store Z Z ty108 Z SM SM RO PT <| L_op <| x_store Z Z ty195 Z SM SM RO PT <| nx <| mv Z Z <| L_val Z (v_loadA Z ty195 HS CT) <| L_op <| x_callc Z hf hn hb (.cons Z .nil) Z (hg _ u13 HS) fun _ => nq <| C_split Z (fun h20 => ?_) (fun h20 => ?_)
 refine J_region <| mv Z Z <| L_val Z (v_loadA Z ty108 HS CT) <| L_op <| x_lit (vals := [_]) Tryz.underlying57 ty108 Z (.cons Z .nil) (.agg .nil) (Wf.cons Z Z Wf.nil) Z (by decide) Z Z <| JR fun a23 c23 hw23 hl23 hm23 hz23 => L_op <| x_app Z Z Tryz.underlying57 ty108 Z Z PC (fun w H => sep_reads HS H) (by simp; omega) (by simp; omega) Z <| JE ((comeS ps q (done ++ [k13])).map encI) (by rw [comeS_on hK hm13 h20]; simp [encI]) fun a24 c24 hw24 hl24 hm24 hz24 => ag Z Z <| J_nil (el := 108) (sz := 2) <| L_nil <| Q_blk_normal <| Q_then ?_
 
 exact J_again2 (done ++ [k13]) _ (by have := hC.lt hK hm13 hn13; simp; omega) (hC.step hm13 hn13) SU KE
 refine J_skip <| Q_blk_normal <| Q_then <| J_pick (A := row 108 2 v _) PC <| J_rowEq (ys := (comeS ps q (done ++ [k13])).map encI) (by rw [comeS_off hK hm13 h20]) ?_
 exact J_again2 (done ++ [k13]) _ (by have := hC.lt hK hm13 hn13; simp; omega) (hC.step hm13 hn13) SU KE
 have hperm := comeS_perm (q := q) hK (hC.perm hK hd13)
 have hlen : (comeS ps q done).length ≤ 1000000 := by
  rw [hperm.length_eq, List.length_map]
  have := List.length_filter_le (fun e : Place × SV => q e.2) ps
  omega
 refine L_pur Z (p_extract Z Z) <| nq <| J_seq <| C_false Z <| J_exit <| Q_then_exit <| Q_then_exit <| Q_blk_this <| qx <| mv Z Z <| xo fc127 (A2 Z Z) Z (slSort (xs := comeS ps q done) PC hlen) fun _ => nx <| mv Z Z <| ag Z Z <| nq <| J_ret <| J_pick (A := row 108 2 v _) PC <| J_rowEq (ys := (heirs ps q).map encI) (by rw [sortP_perm hperm]; rfl) <| J_pick (A := rangeA kI evS _ _ _ _) PC <| J_rangeEnd <| J_slS (b := b) (o := o) (ps := ps) _ PX trivial ?_
 exact J_return (v) Tryz.results328 (.tmp Z .nil) Z SU
theorem childClo {bc : Nat} {i : Place} {s : SV} (hc : Has (blk bc 108 (encI i)) l) :
    Con Tryz.prog 331 #[evS s, .pointer (some ⟨bc, 0, none⟩)] E l (fun _ : Unit => .bool (decide (s.2 = i))) (fun _ => l) := by
  refine Con.body (n := 8) Tryz.func331 Z Z _ (env_ok 2 Z) <| sr <| L_op <| x_box Z Z Z fun b2 => ag Z Z <| nx <| fa Z Z fa195_1 <| L_val Z (v_loadA Z ty108 HS CT) <| L_val Z (v_loadA Z ty108 HS CT) <| L_pur Z (p_eqv Z Z (fun w => eg108 _ _ _ _ _ w) (fun w => eqv108 _ _ _ _ w)) <| J_slot (t := 7) (v := .bool (decide (s.2 = i))) Z (by congr 1; simp [Prod.ext_iff]) <| ag Z Z <| nq <| J_ret <| J_return (()) Tryz.results331 (.tmp Z .nil) ?_ ?_
  · rfl
  · exact SU
theorem namesG {d : Cap} :
    Con Tryz.prog 330 #[.agg (encC c).toArray, .agg (encC d).toArray] E l (fun _ : Unit => .bool (namesC c d)) (fun _ => l) := by
  refine Con.body (n := 29) Tryz.func330 Z Z _ (env_ok 2 Z) <| sr <| L_op <| x_box Z Z Z fun b2 => L_op <| x_box Z Z Z fun b3 => ag Z Z <| nx <| fa Z Z fa110_0 <| L_val Z (v_load Z ty3 HS (by exact rfl)) <| fa Z Z fa110_0 <| L_val Z (v_load Z ty3 HS (by exact rfl)) <| L_pur Z (p_eql Z Z) <| mv Z Z <| J_gsplit (t := 10) Z (fun h10 => ?_) (fun h10 => ?_)
  refine gp Z Z Z (p_fieldAddr Z fa110_1) Z <| L_op <| G_on Z Z Z <| J_val (v_load Z ty3 HS (by exact rfl)) Z Z Z <| gp Z Z Z (p_fieldAddr Z fa110_1) Z <| L_op <| G_on Z Z Z <| J_val (v_load Z ty3 HS (by exact rfl)) Z Z Z <| gp Z Z Z (p_eql Z Z) Z <| L_pur Z (p_pick_t Z Z) <| mv Z Z <| J_gsplit (t := 17) Z (fun h17 => ?_) (fun h17 => ?_)
  refine gp Z Z Z (p_fieldAddr Z fa110_0) Z <| L_op <| G_on Z Z Z <| J_val (v_load Z ty3 HS (by exact rfl)) Z Z Z <| gp Z Z Z (p_neq Z Z) Z <| gp Z Z Z (p_move Z) Z <| J_gsplit (t := 21) Z (fun h21 => ?_) (fun h21 => ?_)
  refine gz Z Z Z Z Z <| gz Z Z Z Z Z <| gz Z Z Z Z Z <| gz Z Z Z Z Z <| gz Z Z Z Z Z <| gp Z Z Z (p_pick_t Z Z) Z <| L_pur Z (p_pick_t Z Z) <| ag Z Z <| nq <| J_ret <| J_return (()) Tryz.results330 (.tmp Z .nil) ?_ ?_
  · first | rfl | (simp_all [one, namesC]; done) | (simp_all [one, namesC] <;> omega) | (simp_all [one, namesC] <;> grind)
  · exact SU
  refine gp Z Z Z (p_fieldAddr Z fa110_2) Z <| L_op <| G_on Z Z Z <| J_val (v_load Z ty3 HS (by exact rfl)) Z Z Z <| gp Z Z Z (p_fieldAddr Z fa110_2) Z <| L_op <| G_on Z Z Z <| J_val (v_load Z ty3 HS (by exact rfl)) Z Z Z <| gp Z Z Z (p_eql Z Z) Z <| gp Z Z Z (p_pick_f Z Z) Z <| L_pur Z (p_pick_t Z Z) <| ag Z Z <| nq <| J_ret <| J_return (()) Tryz.results330 (.tmp Z .nil) ?_ ?_
  · first | rfl | (simp_all [one, namesC]; done) | (simp_all [one, namesC] <;> omega) | (simp_all [one, namesC] <;> grind)
  · exact SU
  refine gz Z Z Z Z Z <| gz Z Z Z Z Z <| gz Z Z Z Z Z <| gz Z Z Z Z Z <| L_op <| G_offU Z Z Z Z Z <| L_op <| G_offU Z Z Z Z Z <| L_op <| G_offU Z Z Z Z Z <| L_op <| G_offU Z Z Z Z Z <| L_op <| G_offU Z Z Z Z Z <| gz Z Z Z Z Z <| L_pur Z (p_pick_f Z Z) <| ag Z Z <| nq <| J_ret <| J_return (()) Tryz.results330 (.tmp Z .nil) ?_ ?_
  · first | rfl | (simp_all [one, namesC]; done) | (simp_all [one, namesC] <;> omega) | (simp_all [one, namesC] <;> grind)
  · exact SU
  refine gz Z Z Z Z Z <| gz Z Z Z Z Z <| gz Z Z Z Z Z <| gz Z Z Z Z Z <| gz Z Z Z Z Z <| L_pur Z (p_pick_f Z Z) <| mv Z Z <| gz Z Z Z Z Z <| gz Z Z Z Z Z <| gz Z Z Z Z Z <| gz Z Z Z Z Z <| L_op <| G_offU Z Z Z Z Z <| L_op <| G_offU Z Z Z Z Z <| L_op <| G_offU Z Z Z Z Z <| L_op <| G_offU Z Z Z Z Z <| L_op <| G_offU Z Z Z Z Z <| gz Z Z Z Z Z <| L_pur Z (p_pick_f Z Z) <| ag Z Z <| nq <| J_ret <| J_return (()) Tryz.results330 (.tmp Z .nil) ?_ ?_
  · first | rfl | (simp_all [one, namesC]; done) | (simp_all [one, namesC] <;> omega) | (simp_all [one, namesC] <;> grind)
  · exact SU
theorem namedClo {bc : Nat} {s : SV} (hc : Has (blk bc 110 (encC c)) l) :
    Con Tryz.prog 329 #[evS s, .pointer (some ⟨bc, 0, none⟩)] E l (fun _ : Unit => .bool (namesC s.1 c)) (fun _ => l) := by
  refine Con.body (n := 8) Tryz.func329 Z Z _ (env_ok 2 Z) <| sr <| L_op <| x_box Z Z Z fun b2 => ag Z Z <| nx <| fa Z Z fa195_0 <| L_val Z (v_loadA Z ty110 HS CT) <| L_val Z (v_loadA Z ty110 HS CT) <| xo fc330 (A2 Z Z) Z (namesG (c := s.1) (d := c)) fun _ => ag Z Z <| nq <| J_ret <| J_return (()) Tryz.results329 (.tmp Z .nil) ?_ ?_
  · rfl
  · exact SU
theorem childC (hp : Pick (slA b o ps) l m) {p : Place} (hz : ps.length ≤ 100000) :
  Con Tryz.prog 314 #[.pointer (some ⟨b, o, none⟩), .agg (encI p).toArray] E l (fun v : Value => v) (fun v => row 108 2 v ((kids ps p).map encI) :: slA b o ps :: m) := by
 refine Con.body (n := 12) Tryz.func314 Z Z _ (env_ok 2 Z) <| J_pick hp <| sr <| L_op <| x_box Z Z Z fun b3 => ag Z Z <| nxx <| mv Z Z <| L_val Z (v_loadA Z ty108 HS CT) <| xo fc103 (A2 Z Z) Z (slHas (ps := ps) (p := p) PC) fun _ => L_pur Z (p_not Z) <| nq <| C_split Z (fun h8 => ?_) (fun h8 => ?_)
 have hkd : kids ps p = [] := by
  unfold kids
  rw [if_neg (by simpa using h8)]
 refine J_nil (el := 108) (sz := 2) <| sr <| ag Z Z <| nq <| J_ret <| Q_then_ret <| J_pick (A := row 108 2 _ _) PC <| J_rowEq (ys := (kids ps p).map encI) (by first | (rw [hkd]; done) | (rw [hkd]; rfl)) ?_
 exact J_return (_) Tryz.results314 (.tmp Z .nil) Z SU
 have hkd : kids ps p = heirs ps fun s => decide (s.2 = p) := by
  unfold kids
  rw [if_pos (by simpa using h8)]
 refine J_skip <| qx <| mv Z Z <| L_pur Z (p_makeFunc (.cons Z .nil)) <| xo fc328 (A2 Z Z) Z (whichC (ps := ps) (q := fun s => decide (s.2 = p)) (C := blk b3 108 (encI p)) Tryz.func331 nm331 bd331 (fun l' s h => childClo h) PX hz) <| JR fun a11 c11 hw11 hl11 hm11 hz11 => ag Z Z <| nq <| J_ret <| J_pick (A := row 108 2 _ _) PC <| J_rowEq (ys := (kids ps p).map encI) (by first | (rw [hkd]; done) | (rw [hkd]; rfl)) ?_
 exact J_return (_) Tryz.results314 (.tmp Z .nil) Z SU
theorem namedG (hp : Pick (slA b o ps) l m) (hz : ps.length ≤ 100000) :
    Con Tryz.prog 313 #[.pointer (some ⟨b, o, none⟩), .agg (encC c).toArray] E l (fun v : Value => v) (fun v => row 108 2 v ((named ps c).map encI) :: slA b o ps :: m) := by
  refine Con.body (n := 8) Tryz.func313 Z Z _ (env_ok 2 Z) <| J_pick hp <| sr <| L_op <| x_box Z Z Z fun b3 => ag Z Z <| nx <| mv Z Z <| L_pur Z (p_makeFunc (.cons Z .nil)) <| xo fc328 (A2 Z Z) Z (whichC (ps := ps) (q := fun s => namesC s.1 c) (C := blk b3 110 (encC c)) Tryz.func329 nm329 bd329 (fun l' s h => namedClo h) PX hz) <| JR fun a7 c7 hw7 hl7 hm7 hz7 => ag Z Z <| nq <| J_ret <| J_pick (A := row 108 2 _ _) PC <| J_rowEq (ys := (named ps c).map encI) (by rfl) ?_
  exact J_return (_) Tryz.results313 (.tmp Z .nil) Z SU
theorem turnsC (hp : Pick (slA b o ps) l m) {to : Place} (hz : ps.length ≤ 100000) :
    Con Tryz.prog 310 #[.pointer (some ⟨b, o, none⟩), .agg (encI a).toArray, .agg (encI to).toArray] E l (fun _ : Unit => .tuple #[]) (fun _ => slA b o (turnS ps a to) :: m) := by
  refine Con.body (n := 31) Tryz.func310 Z Z _ (env_ok 3 Z) <| J_pick hp <| sr <| L_op <| x_box Z Z Z fun b4 => L_op <| x_box Z Z Z fun b5 => nx <| mv Z Z <| L_val Z (v_loadA Z ty108 HS CT) <| xo fc314 (A2 Z Z) Z (childC (ps := ps) (p := a) PC hz) <| JR fun a10 c10 hw10 hl10 hm10 hz10 => J_pick (A := slA b o ps) PC <| J_slKeyd fun hK => ?_
  have hkl := kids_len ps a
  obtain ⟨xs, hxs⟩ : ∃ xs, xs = kids ps a := ⟨_, rfl⟩
  refine J_pick (A := row 108 2 _ _) PC <| J_rowTo (ys := xs.map encI) (v' := .slice a10 (xs.map encI).length c10) (by rw [hxs]) (by rw [hxs]) <| J_slot (t := 10) (v := .slice a10 (xs.map encI).length c10) Z (by rw [hxs]) ?_
  rw [← hxs] at hkl hz10
  have hmc : c10 ≤ 9223372036854775807 := hm10
  have hml : (xs.map encI).length = xs.length := List.length_map _
  refine J_pick (A := slA b o ps) PC <| J_asTo (B := slA b o (turnL ps to (xs.take 0))) (by rfl) <| L_pur Z (p_len Z Tryz.underlying57) <| mv Z Z <| nq <| J_block <| J_loop (α := Nat) (fun k => k ≤ xs.length) (fun k => slA b o (turnL ps to (xs.take k)) :: row 108 2 (.slice a10 (xs.map encI).length c10) (xs.map encI) :: blk b5 108 (encI to) :: m) (fun k => [(12, .int .i64 (k : Int)), (10, .slice a10 (xs.map encI).length c10), (11, .int .i64 ((xs.map encI).length : Int)), (0, .pointer (some ⟨b, o, none⟩)), (5, .pointer (some ⟨b5, 0, none⟩))]) (fun k => xs.length - k) 0 (by omega) SU KE ?_
  intro k hk
  refine sr <| L_pur Z (p_lss Z Z) <| nq <| J_seq <| C_dec Z (fun h13 => ?_) (fun h13 => ?_)
  have hlt : k < xs.length := by omega
  obtain ⟨bx, ox, rfl⟩ := hz10 (by intro h; rw [h] at hml; simp at hml; omega)
  obtain ⟨c, hcc⟩ : ∃ c, xs[k]? = some c := ⟨_, List.getElem?_eq_getElem hlt⟩
  have hsm : (look (turnL ps to (xs.take k)) c).isSome = true := turnL_some (kids_some hK (by rw [← hxs]; exact List.mem_of_getElem? hcc))
  refine J_skip <| Q_then <| J_seq <| J_block <| sr <| L_pur Z (p_indexAddr Z Z Tryz.underlying57 ty108 (by omega) (by omega)) <| L_val Z (v_loadE Z ty108 HS (by first | (simp only [Int.toNat_natCast, List.getElem?_map, hcc]; rfl) | (simp only [Int.toNat_natCast, List.getElem?_map, hcd]; rfl) | simp | rfl)) ?_
  refine L_op <| x_alloc ty108 Z fun b7 => L_op <| x_store Z Z ty108 Z SM SM RO PT <| nq <| J_pick (A := blk b7 _ _) PC <| J_asTo (B := blk b7 108 (encI c)) (by rfl) <| J_pick (A := slA b o _) PC <| J_slO fun ob _ => ?_
  obtain rfl | ⟨bm, rfl⟩ : ob = none ∨ ∃ bm, ob = some bm := by
    cases ob with
    | none => exact .inl rfl
    | some x => exact .inr ⟨x, rfl⟩
  · exact J_mapNone (ps := (turnL ps to (xs.take k))) HS fun hps => by rw [hps] at hsm; cases hsm
  refine J_drawT 14 mixed (by kernel_rfl) <| sm Z Z <| sp Z (p_nilCheck Z) <| sp Z (p_fieldAddr Z fa126_0) <| S_val Z (v_loadL Z ty124 HS Z (by exact rfl)) <| S_val Z (v_loadA Z ty108 HS CT) <| sm Z Z <| sp Z (p_nilCheck Z) <| sp Z (p_fieldAddr Z fa126_0) <| S_val Z (v_loadL Z ty124 HS Z (by exact rfl)) <| S_val Z (v_loadA Z ty108 HS CT) <| S_val Z (v_look (ek := kI) (ev := evS) (a := c) Z Z ky108 Tryz.underlying124 zv195 HS) <| J_slot (t := 26) (v := evS ((look (turnL ps to (xs.take k)) c).getD s0)) Z (by cases look (turnL ps to (xs.take k)) c <;> rfl) <| sp Z (p_field Z fd195_0) <| S_val Z (v_loadA Z ty108 HS CT) <| sp Z (bld195 (.cons Z (.cons Z .nil)) (by repeat constructor)) <| S_nil <| L_op <| x_mapUpdate (ek := kI) (ev := evS) (a := c) (c := (((look (turnL ps to (xs.take k)) c).getD s0).1, to)) Z Z Z ky108 Tryz.underlying124 PC <| J_pick (A := mapV kI evS _ _) PC ?_
  refine J_mapEq (qs := turnL ps to (xs.take (k + 1))) (by rw [List.take_add_one, hcc, Option.toList_some, turnL_snoc]) <| J_slS (b := b) (o := o) (ps := turnL ps to (xs.take (k + 1))) _ PX trivial <| L_nil <| Q_blk_normal <| qr <| L_pur Z (p_add64 Z Z (by omega)) <| mv Z Z <| nq ?_
  exact J_again (k + 1) (by omega) (by omega) SU KE
  have hkx : k = xs.length := by omega
  subst hkx
  refine J_pick (A := slA b o _) PC <| J_asTo (B := slA b o (turnS ps a to)) (by rw [List.take_length, hxs]; rfl) <| J_exit <| Q_then_exit <| Q_then_exit <| Q_blk_this <| J_endnormal ?_
  exact J_return (()) Tryz.results310 .nil Z SU
theorem dropG (hp : Pick (slA b o ps) l m) {p : Place} (hz : ps.length ≤ 100000) :
    Con Tryz.prog 312 #[.pointer (some ⟨b, o, none⟩), .agg (encI p).toArray] E l (fun _ : Unit => .bool (look ps p).isSome) (fun _ => slA b o (dropS ps p) :: m) := by
  refine Con.body (n := 28) Tryz.func312 Z Z _ (env_ok 2 Z) <| J_pick hp <| sr <| L_op <| x_box Z Z Z fun b3 => ag Z Z <| nq <| J_seq <| J_pick (A := slA b o ps) PC <| J_slO fun ob _ => J_drawL none mixed <| ip 0 Z Z Z Z (p_move Z) <| ip 1 Z Z Z Z (p_nilCheck Z) <| ip 2 Z Z Z Z (p_fieldAddr Z fa126_0) <| iv 3 Z Z Z Z (fun _ => v_loadL Z ty124 HS Z (by exact rfl)) <| iv 4 Z Z Z Z (fun _ => v_loadA Z ty108 HS CT) <| iv 5 Z Z Z Z (fun _ => v_lookOk (ek := kI) (ev := evS) (a := p) Z Z ky108 Tryz.underlying124 zv195 HS) <| J_slot (t := 13) (v := .tuple #[evS ((look ps p).getD s0), .bool (look ps p).isSome]) Z (by cases look ps p <;> rfl) <| ip 6 Z Z Z Z (p_move Z) <| ip 7 Z Z Z Z (p_extract Z Z) <| ip 8 Z Z Z Z (p_extract Z Z) <| i1 9 Z <| x_alloc ty195 Z fun b5 => i1 10 Z <| x_store Z Z ty195 Z SM SM RO PT ?_
  refine ip 11 Z Z Z Z (p_assign Z) <| i0 <| Q_then <| J_seq <| sr <| mv Z Z <| L_pur Z (p_not Z) <| nq <| C_split Z (fun h17 => ?_) (fun h17 => ?_)
  have hno : look ps p = none := by
    cases hq : look ps p with
    | none => rfl
    | some y => rw [hq] at h17; simp at h17
  have hds : dropS ps p = ps := by unfold dropS; rw [hno]
  refine J_slS (b := b) (o := o) (ps := ps) ob PX trivial <| J_asTo (B := slA b o (dropS ps p)) (by rw [hds]) <| sr <| ag Z Z <| nq <| J_ret <| Q_then_ret <| J_return (()) Tryz.results312 (.tmp Z .nil) ?_ ?_
  · simp_all [one]
  · exact SU
  obtain ⟨s, hs⟩ : ∃ x, look ps p = some x := by
    cases hq : look ps p with
    | none => rw [hq] at h17; simp at h17
    | some y => exact ⟨y, rfl⟩
  have hds : dropS ps p = del (turnS ps p s.2) p := by unfold dropS; rw [hs]
  refine J_slS (b := b) (o := o) (ps := ps) ob PX trivial <| J_pick (A := blk b5 _ _) PC <| J_asTo (B := blk b5 195 (encC s.1 ++ encI s.2)) (by rw [hs]; rfl) <| J_skip <| qx <| mv Z Z <| L_val Z (v_loadA Z ty108 HS CT) <| fa Z Z fa195_1 <| L_val Z (v_loadA Z ty108 HS CT) <| xo fc310 (A3 Z Z Z) Z (turnsC (ps := ps) (a := p) (to := s.2) PC hz) fun _ => nq <| J_seq <| J_pick (A := slA b o (turnS ps p s.2)) PC <| J_slO fun ob _ => J_drawT 5 mixed (by kernel_rfl) <| sm Z Z <| sp Z (p_nilCheck Z) <| sp Z (p_fieldAddr Z fa126_0) <| S_val Z (v_loadL Z ty124 HS Z (by exact rfl)) <| S_val Z (v_loadA Z ty108 HS CT) <| S_nil <| L_op <| x_delete (ek := kI) (ev := evS) (a := p) Z Z ky108 Tryz.underlying124 PC <| J_slS (b := b) (o := o) (ps := del (turnS ps p s.2) p) _ PX trivial <| J_asTo (B := slA b o (dropS ps p)) (by rw [hds]) <| nx <| ag Z Z <| nq <| J_ret ?_
  refine J_return (()) Tryz.results312 (.tmp Z .nil) ?_ ?_
  · simp_all [one]
  · exact SU
theorem moveG (hp : Pick (slA b o ps) l m) {p q : Place} (hz : ps.length ≤ 100000) :
    Con Tryz.prog 275 #[.pointer (some ⟨b, o, none⟩), .agg (encI p).toArray, .agg (encI q).toArray] E l (fun _ : Unit => .bool (moveOk ps p q)) (fun _ => slA b o (moveS ps p q) :: m) := by
  refine Con.body (n := 43) Tryz.func275 Z Z _ (env_ok 3 Z) <| J_pick hp <| sr <| L_op <| x_box Z Z Z fun b4 => L_op <| x_box Z Z Z fun b5 => ag Z Z <| nq <| J_seq <| J_pick (A := slA b o ps) PC <| J_slO fun ob _ => J_drawL none mixed <| ip 0 Z Z Z Z (p_move Z) <| ip 1 Z Z Z Z (p_nilCheck Z) <| ip 2 Z Z Z Z (p_fieldAddr Z fa126_0) <| iv 3 Z Z Z Z (fun _ => v_loadL Z ty124 HS Z (by exact rfl)) <| iv 4 Z Z Z Z (fun _ => v_loadA Z ty108 HS CT) <| iv 5 Z Z Z Z (fun _ => v_lookOk (ek := kI) (ev := evS) (a := p) Z Z ky108 Tryz.underlying124 zv195 HS) <| J_slot (t := 15) (v := .tuple #[evS ((look ps p).getD s0), .bool (look ps p).isSome]) Z (by cases look ps p <;> rfl) <| ip 6 Z Z Z Z (p_move Z) <| ip 7 Z Z Z Z (p_extract Z Z) <| ip 8 Z Z Z Z (p_extract Z Z) <| i1 9 Z <| x_alloc ty195 Z fun b7 => i1 10 Z <| x_store Z Z ty195 Z SM SM RO PT ?_
  refine ip 11 Z Z Z Z (p_assign Z) <| i0 <| Q_then <| J_seq <| J_seq <| J_slS (b := b) (o := o) (ps := ps) ob PX trivial <| J_region <| mv Z Z <| L_pur Z (p_not Z) <| mv Z Z <| J_gsplit (t := 20) Z (fun h20 => ?_) (fun h20 => ?_)
  refine gz Z Z Z Z Z <| gz Z Z Z Z Z <| gz Z Z Z Z Z <| L_pur Z (p_pick_t Z Z) <| mv Z Z <| gz Z Z Z Z Z <| gz Z Z Z Z Z <| gz Z Z Z Z Z <| L_pur Z (p_pick_t Z Z) <| nq <| C_true Z <| J_seq ?_
  have hok : moveOk ps p q = false := by unfold moveOk; simp_all
  have hmv : moveS ps p q = ps := by unfold moveS; rw [if_neg (by rw [hok]; decide)]
  refine J_pick (A := slA b o ps) PC <| J_asTo (B := slA b o (moveS ps p q)) (by rw [hmv]) <| J_region <| ag Z Z <| nq <| J_ret <| Q_then_ret <| J_return (()) Tryz.results275 (.tmp Z .nil) ?_ ?_
  · rw [hok]; rfl
  · exact SU
  refine L_op <| G_on Z Z Z <| J_val (v_loadA Z ty108 HS CT) Z Z Z <| L_op <| G_on Z Z Z <| xc fc102 (A1 Z) Z (sCan (p := q)) fun _ => gp Z Z Z (p_not Z) Z <| L_pur Z (p_pick_f Z Z) <| mv Z Z <| J_gsplit (t := 25) Z (fun h25 => ?_) (fun h25 => ?_)
  refine gz Z Z Z Z Z <| gz Z Z Z Z Z <| gz Z Z Z Z Z <| L_pur Z (p_pick_t Z Z) <| nq <| C_true Z <| J_seq ?_
  have hok : moveOk ps p q = false := by unfold moveOk; simp_all
  have hmv : moveS ps p q = ps := by unfold moveS; rw [if_neg (by rw [hok]; decide)]
  refine J_pick (A := slA b o ps) PC <| J_asTo (B := slA b o (moveS ps p q)) (by rw [hmv]) <| J_region <| ag Z Z <| nq <| J_ret <| Q_then_ret <| J_return (()) Tryz.results275 (.tmp Z .nil) ?_ ?_
  · rw [hok]; rfl
  · exact SU
  refine gp Z Z Z (p_move Z) Z <| L_op <| G_on Z Z Z <| J_val (v_loadA Z ty108 HS CT) Z Z Z <| L_op <| G_on Z Z Z <| xc fc103 (A2 Z Z) Z (slHas (ps := ps) (p := q) PC) fun _ => L_pur Z (p_pick_f Z Z) <| nq <| C_split Z (fun h29 => ?_) (fun h29 => ?_)
  refine J_seq ?_
  have hok : moveOk ps p q = false := by unfold moveOk; simp_all
  have hmv : moveS ps p q = ps := by unfold moveS; rw [if_neg (by rw [hok]; decide)]
  refine J_pick (A := slA b o ps) PC <| J_asTo (B := slA b o (moveS ps p q)) (by rw [hmv]) <| J_region <| ag Z Z <| nq <| J_ret <| Q_then_ret <| J_return (()) Tryz.results275 (.tmp Z .nil) ?_ ?_
  · rw [hok]; rfl
  · exact SU
  have hok : moveOk ps p q = true := by unfold moveOk; simp_all
  have hmv : moveS ps p q = ins (del (turnS ps p q) p) q ((look ps p).getD s0) := by unfold moveS; rw [if_pos hok]
  refine J_pick (A := blk b7 _ _) PC <| J_asTo (B := blk b7 195 (encC ((look ps p).getD s0).1 ++ encI ((look ps p).getD s0).2)) (by rfl) <| J_skip <| qx <| mv Z Z <| L_val Z (v_loadA Z ty108 HS CT) <| L_val Z (v_loadA Z ty108 HS CT) <| xo fc310 (A3 Z Z Z) Z (turnsC (ps := ps) (a := p) (to := q) PC hz) fun _ => nq <| J_seq <| J_pick (A := slA b o (turnS ps p q)) PC <| J_slO fun ob _ => J_drawT 5 mixed (by kernel_rfl) <| sm Z Z <| sp Z (p_nilCheck Z) <| sp Z (p_fieldAddr Z fa126_0) <| S_val Z (v_loadL Z ty124 HS Z (by exact rfl)) <| S_val Z (v_loadA Z ty108 HS CT) <| S_nil <| L_op <| x_delete (ek := kI) (ev := evS) (a := p) Z Z ky108 Tryz.underlying124 PC <| J_slS (b := b) (o := o) (ps := del (turnS ps p q) p) _ PX trivial <| nx <| mv Z Z <| L_val Z (v_loadA Z ty108 HS CT) <| L_val Z (v_loadA Z ty195 HS CT) ?_
  refine xo fc105 (A3 Z Z Z) Z (slLays (ps := del (turnS ps p q) p) (p := q) (s := (look ps p).getD s0) PC) fun _ => nq <| J_seq <| J_pick (A := slA b o _) PC <| J_asTo (B := slA b o (moveS ps p q)) (by rw [hmv]) <| J_region <| ag Z Z <| nq <| J_ret <| J_return (()) Tryz.results275 (.tmp Z .nil) ?_ ?_
  · rw [hok]; rfl
  · exact SU
theorem belowC (hp : Pick (slA b o ps) l m) {p : Place} {L : List Place} (hL : belowL ps N [] (kids ps p) = some L) (hLz : L.length ≤ 100000) (hz : ps.length ≤ 100000) :
  Con Tryz.prog 279 #[.pointer (some ⟨b, o, none⟩), .agg (encI p).toArray] E l (fun v : Value => v) (fun v => row 108 2 v ((sortP L).map encI) :: slA b o ps :: m) := by
 refine Con.body (n := 27) Tryz.func279 Z Z _ (env_ok 2 Z) <| J_pick hp <| sr <| L_op <| x_box Z Z Z fun b3 => ag Z Z <| nx <| mv Z Z <| L_val Z (v_loadA Z ty108 HS CT) <| xo fc314 (A2 Z Z) Z (childC (ps := ps) (p := p) PC hz) <| JR fun a9 c9 hw9 hl9 hm9 hz9 => ag Z Z <| nq <| J_seq <| J_seq <| J_pick (A := row 108 2 _ _) PC <| J_rowEq (ys := (([] : List Place) ++ kids ps p).map encI) (by rfl) <| J_region <| ag Z Z <| nq <| J_block <| J_loop2 (fun (x : List Place × List Place × Nat) v => belowL ps x.2.2 x.1 x.2.1 = some L) (fun x v => row 108 2 v (((x.1 ++ x.2.1)).map encI) :: slA b o ps :: m) (fun x v => [(6, .int .i64 (x.1.length : Int)), (5, v), (0, .pointer (some ⟨b, o, none⟩))]) (fun x v => x.2.2) ([], kids ps p, N) _ hL SU KE ?_
 intro x v hx
 obtain ⟨done, todo, n⟩ := x
 dsimp only at hx ⊢
 have hbl := belowL_len hx
 rw [List.length_append] at hbl
 refine J_row (v := v) HS fun hwv av cv hvv hlv hmv hzv => ?_
 subst hvv
 have hmc : cv ≤ 9223372036854775807 := hmv
 have hml : ((done ++ todo).map encI).length = done.length + todo.length := by rw [List.length_map, List.length_append]
 refine J_seq <| sr <| mv Z Z <| mv Z Z <| L_pur Z (p_len Z Tryz.underlying57) <| J_slot (t := 12) (v := .int .i64 (((done.length + todo.length : Nat) : Int))) Z (by rw [hml]) <| L_pur Z (p_lss Z Z) <| nq <| C_dec Z (fun h13 => ?_) (fun h13 => ?_)
 obtain ⟨a0, ts, rfl⟩ : ∃ a0 ts, todo = a0 :: ts := by
  cases todo with
  | nil => simp at h13
  | cons a0 ts => exact ⟨a0, ts, rfl⟩
 obtain ⟨n1, rfl⟩ : ∃ n1, n = n1 + 1 := by
  cases n with
  | zero => simp [belowL] at hx
  | succ n1 => exact ⟨n1, rfl⟩
 rw [belowL] at hx
 have hbl2 := belowL_len hx
 simp only [List.length_append, List.length_cons] at hbl2
 obtain ⟨bx, ox, rfl⟩ := hzv (by intro h; rw [h] at hml; simp at hml)
 have hcc : (done ++ a0 :: ts)[done.length]? = some a0 := by rw [List.getElem?_append_right (Nat.le_refl _)]; simp
 refine J_skip <| Q_then <| J_seq <| J_block <| J_region <| mv Z Z <| mv Z Z <| mv Z Z <| mv Z Z <| L_pur Z (p_indexAddr Z Z Tryz.underlying57 ty108 (by omega) (by omega)) <| L_val Z (v_loadE Z ty108 HS (by first | (simp only [Int.toNat_natCast, List.getElem?_map, hcc]; rfl) | (simp only [Int.toNat_natCast, List.getElem?_map, hcd]; rfl) | simp | rfl)) ?_
 refine xo fc314 (A2 Z Z) Z (childC (ps := ps) (p := a0) PC hz) <| JR fun a22 c22 hw22 hl22 hm22 hz22 => L_op <| x_app Z Z Tryz.underlying57 ty108 Z Z PC (fun w H => sep_reads HS H) (by simp; omega) (by simp; omega) Z <| JE (((done ++ [a0]) ++ (ts ++ kids ps a0)).map encI) (by simp) fun a23 c23 hw23 hl23 hm23 hz23 => ag Z Z <| L_nil <| Q_blk_normal <| qr <| mv Z Z <| L_pur Z (p_add64 Z Z (by omega)) <| ag Z Z <| nq <| J_slot (t := 6) (v := .int .i64 (((done ++ [a0]).length : Nat) : Int)) Z (by simp) ?_
 exact J_again2 (done ++ [a0], ts ++ kids ps a0, n1) _ (by show n1 < n1 + 1; omega) (hx) SU KE
 obtain rfl : todo = [] := by
  cases todo with
  | nil => rfl
  | cons a0 ts => exfalso; simp at h13; omega
 obtain rfl : done = L := by
  unfold belowL at hx
  exact Option.some.inj hx
 refine J_pick (A := row 108 2 _ _) PC <| J_rowEq (ys := done.map encI) (by rw [List.append_nil]) <| J_exit <| Q_then_exit <| Q_then_exit <| Q_blk_this <| qx <| mv Z Z <| xo fc127 (A2 Z Z) Z (slSort (xs := done) PC (by omega)) fun _ => nx <| mv Z Z <| ag Z Z <| nq <| J_ret ?_
 exact J_return (_) Tryz.results279 (.tmp Z .nil) Z SU
/-! ### plain: copies, moves; what a deletion takes -/
def bothS (ps : List (Place × SV)) (p q : Place) : Cap × Int := match look ps p with
  | none => (c0, 4)
  | some s => if canP q = false then (c0, 7) else if (look ps q).isSome then (c0, 3) else (s.1, 0)
def lessC (c : Cap) (r : Int) : Cap := { c with rights := bits .and .i64 c.rights (bits .and .i64 r 7) }
def badgeC (c : Cap) (n : Int) : Cap × Int :=
  if c.kind = 4 ∨ c.kind = 5 then (if c.badge ≠ 0 ∨ n = 0 then (c0, 12) else if n > 2147483647 then (c0, 7) else ({ c with badge := n }, 0))
  else if c.kind = 2 then (if checkC { c with size := n % 256, badge := n / 256 } = true then ({ c with size := n % 256, badge := n / 256 }, 0) else (c0, 7))
  else (c0, 5)
def copyS (ps : List (Place × SV)) (p q : Place) (r : Int) : List (Place × SV) × Int :=
  if (bothS ps p q).2 ≠ 0 then (ps, (bothS ps p q).2) else if r < 0 ∨ r > 7 then (ps, 7) else (slPut ps q (lessC (bothS ps p q).1 r) p, 0)
def mintS (ps : List (Place × SV)) (p q : Place) (n : Int) : List (Place × SV) × Int :=
  if (bothS ps p q).2 ≠ 0 then (ps, (bothS ps p q).2) else if (badgeC (bothS ps p q).1 n).2 ≠ 0 then (ps, (badgeC (bothS ps p q).1 n).2) else (slPut ps q (badgeC (bothS ps p q).1 n).1 p, 0)
def dmoveS (ps : List (Place × SV)) (p q : Place) : List (Place × SV) × Int := (if (bothS ps p q).2 = 0 then moveS ps p q else ps, (bothS ps p q).2)
theorem has_some {p : Place} (h : a ∈ kids ps p) : (look ps a).isSome = true := by
  unfold kids at h
  split at h
  · obtain ⟨s, h1, _⟩ := heirs_mem.1 h
    cases hq : look ps a with
    | none => exact absurd (List.mem_map.2 ⟨(a, s), h1, rfl⟩) (look_none_iff.1 hq)
    | some y => rfl
  · cases h
theorem ins_len {u : SV} (h : (look ps a).isSome = true) : (ins ps a u).length = ps.length := by
  unfold Go.Pse.ins; rw [if_pos h, List.length_map]
theorem turnL_len {to : Place} : ∀ {l : List Place} {ps : List (Place × SV)}, (∀ a ∈ l, (look ps a).isSome = true) → (turnL ps to l).length = ps.length
  | [], _, _ => rfl
  | k :: l, ps, h => by
    have h1 := turnL_len (to := to) (l := l) (ps := ins ps k (((look ps k).getD s0).1, to)) fun a ha => by
      rw [look_ins]; split
      · rfl
      · exact h a (List.mem_cons_of_mem _ ha)
    show (turnL (ins ps k (((look ps k).getD s0).1, to)) to l).length = _
    rw [h1, ins_len (h k List.mem_cons_self)]
theorem turnS_len (ps : List (Place × SV)) (a to : Place) : (turnS ps a to).length = ps.length := turnL_len fun _ h => has_some h
theorem dropS_len {p : Place} {s : SV} (h : look ps p = some s) : (dropS ps p).length + 1 ≤ ps.length := by
  have e : dropS ps p = del (turnS ps p s.2) p := by unfold dropS; rw [h]
  have h1 : (look (turnS ps p s.2) p).isSome = true := turnL_some (by rw [h]; rfl)
  obtain ⟨y, hy⟩ := Option.isSome_iff_exists.1 h1
  have := del_less hy
  rw [e, turnS_len] at *
  exact this
abbrev Obj2 := Int × Int
def dropK1 (D : List (Place × SV) → Place → List (Place × SV) × List Obj2) (u : Int) (x : List (Place × SV) × List Obj2) (k : Nat) : List (Place × SV) × List Obj2 := match D x.1 (u, (k : Int)) with
  | (t, o) => (t, x.2 ++ o)
def dropK (D : List (Place × SV) → Place → List (Place × SV) × List Obj2) (u : Int) (n : Nat) (x : List (Place × SV) × List Obj2) : List (Place × SV) × List Obj2 := (List.range n).foldl (dropK1 D u) x
def kDropT : Nat → List (Place × SV) → Place → List (Place × SV) × List Obj2
  | 0, ps, _ => (ps, [])
  | n + 1, ps, p => match look ps p with
    | none => (ps, [])
    | some s => match named (dropS ps p) s.1 with
      | _ :: _ => (dropS ps p, [])
      | [] => if s.1.kind = 2 then dropK (kDropT n) s.1.obj 16 (dropS ps p, [(s.1.kind, s.1.obj)]) else (dropS ps p, [(s.1.kind, s.1.obj)])
theorem dropK_succ {D : List (Place × SV) → Place → List (Place × SV) × List Obj2} {x : List (Place × SV) × List Obj2} : dropK D u (n + 1) x = ((D (dropK D u n x).1 (u, (n : Int))).1, (dropK D u n x).2 ++ (D (dropK D u n x).1 (u, (n : Int))).2) := by
  unfold dropK
  rw [List.range_succ, List.foldl_append]
  rfl
theorem dropK_len {D : List (Place × SV) → Place → List (Place × SV) × List Obj2} (hD : ∀ ps p, (D ps p).1.length + (D ps p).2.length ≤ ps.length) {u : Int} {x : List (Place × SV) × List Obj2} : ∀ n, (dropK D u n x).1.length + (dropK D u n x).2.length ≤ x.1.length + x.2.length
  | 0 => Nat.le_refl _
  | n + 1 => by
    rw [dropK_succ]
    have h1 := dropK_len hD (u := u) (x := x) n
    have h2 := hD (dropK D u n x).1 (u, (n : Int))
    simp only [List.length_append]
    omega
theorem kDropT_len : ∀ n ps p, (kDropT n ps p).1.length + (kDropT n ps p).2.length ≤ ps.length
  | 0, ps, p => Nat.le_refl _
  | n + 1, ps, p => by
    rw [kDropT]
    split
    · simp
    · rename_i s hs
      have h1 := dropS_len hs
      split
      · simp; omega
      · split
        · have := dropK_len (kDropT_len n) (u := s.1.obj) (x := (dropS ps p, [(s.1.kind, s.1.obj)])) 16
          simp at this ⊢
          omega
        · simp; omega
theorem dropK_le {D : List (Place × SV) → Place → List (Place × SV) × List Obj2} (hD : ∀ ps p, (D ps p).1.length + (D ps p).2.length ≤ ps.length) {x : List (Place × SV) × List Obj2} (n : Nat) : (dropK D u n x).1.length ≤ x.1.length := by
  induction n with
  | zero => exact Nat.le_refl _
  | succ n ih =>
    rw [dropK_succ]
    have h2 := hD (dropK D u n x).1 (u, (n : Int))
    show (D (dropK D u n x).1 (u, (n : Int))).1.length ≤ _
    omega
theorem kDropT_less {p : Place} {s : SV} (h : look ps p = some s) : (kDropT (n + 1) ps p).1.length < ps.length := by
  have h1 := dropS_len h
  rw [kDropT, h]
  dsimp only
  split
  · exact h1
  · split
    · have := dropK_le (kDropT_len n) (u := s.1.obj) (x := (dropS ps p, [(s.1.kind, s.1.obj)])) 16
      simp only at this
      omega
    · exact h1
def deleteS (ps : List (Place × SV)) (p : Place) : (List (Place × SV) × List Obj2) × Int := match look ps p with
  | none => ((ps, []), 4)
  | some _ => (kDropT ps.length ps p, 0)
def belowS (ps : List (Place × SV)) (p : Place) : Option (List Place) := (belowL ps ps.length [] (kids ps p)).map sortP
def revL (p : Place) : Nat → List (Place × SV) → List Obj2 → Option (List (Place × SV) × List Obj2)
  | 0, _, _ => none
  | n + 1, ps, out => match belowS ps p with
    | none => none
    | some [] => some (ps, out)
    | some (a :: _) => match kDropT ps.length ps a with
      | (t, o) => revL p n t (out ++ o)
def revokeS (ps : List (Place × SV)) (p : Place) : (List (Place × SV) × List Obj2) × Int := match look ps p with
  | none => ((ps, []), 4)
  | some _ => ((revL p (ps.length + 1) ps []).getD (ps, []), 0)
def RevOk (ps : List (Place × SV)) (p : Place) : Prop := (look ps p).isSome = true → (revL p (ps.length + 1) ps []).isSome = true
theorem belowL_fuel {ps : List (Place × SV)} : ∀ {n : Nat} {done todo L : List Place}, belowL ps n done todo = some L → L.length ≤ done.length + n
  | n, done, [], L, h => by
    unfold belowL at h
    cases h; omega
  | 0, done, p :: ts, L, h => by simp [belowL] at h
  | n + 1, done, p :: ts, L, h => by
    rw [belowL] at h
    have := belowL_fuel h
    simp at this
    omega
theorem belowS_is {p : Place} {L : List Place} (h : belowS ps p = some L) : ∃ L0, belowL ps ps.length [] (kids ps p) = some L0 ∧ sortP L0 = L ∧ L0.length ≤ ps.length := by
  unfold belowS at h
  obtain ⟨L0, h1, h2⟩ := Option.map_eq_some_iff.1 h
  have := belowL_fuel h1
  exact ⟨L0, h1, h2, by simpa using this⟩
theorem revL_below {p : Place} {out : List Obj2} {r : List (Place × SV) × List Obj2} (h : revL p n ps out = some r) : ∃ L, belowS ps p = some L := by
  cases n with
  | zero => simp [revL] at h
  | succ n =>
    cases hb : belowS ps p with
    | none => rw [revL, hb] at h; cases h
    | some L => exact ⟨L, rfl⟩
theorem revL_step {p : Place} {out : List Obj2} {ls : List Place} (hb : belowS ps p = some (a :: ls)) : revL p (n + 1) ps out = revL p n (kDropT ps.length ps a).1 (out ++ (kDropT ps.length ps a).2) := by rw [revL, hb]
theorem bothG (hp : Pick (slA b o ps) l m) {p q : Place} :
    Con Tryz.prog 272 #[.pointer (some ⟨b, o, none⟩), .agg (encI p).toArray, .agg (encI q).toArray] E l (fun _ : Unit => .tuple #[.agg (encC (bothS ps p q).1).toArray, .int .i64 (bothS ps p q).2]) (fun _ => slA b o ps :: m) := by
  refine Con.body (n := 49) Tryz.func272 Z Z _ (env_ok 3 Z) <| J_pick hp <| sr <| L_op <| x_box Z Z Z fun b4 => L_op <| x_box Z Z Z fun b5 => L_op <| x_alloc ty110 Z fun b6 => ag Z Z <| nx <| mv Z Z <| L_val Z (v_loadA Z ty108 HS CT) <| xo fc277 (A2 Z Z) Z (slGetC (ps := ps) (p := p) PC) fun _ => mv Z Z <| L_pur Z (p_extract Z Z) <| L_pur Z (p_extract Z Z) <| L_op <| x_alloc ty110 Z fun b8 => L_op <| x_store Z Z ty110 Z SM SM RO PT <| ag Z Z <| nxx <| mv Z Z <| L_pur Z (p_not Z) <| nq <| C_split Z (fun h19 => ?_) (fun h19 => ?_)
  have hno : look ps p = none := by
    cases hq : look ps p with
    | none => rfl
    | some y => rw [hq] at h19; simp at h19
  have hbs : (bothS ps p q) = (c0, 4) := by unfold bothS; rw [hno]
  refine sr <| L_pur Z (bld110 .nil (by repeat constructor)) <| L_op <| x_store Z Z ty110 Z SM SM RO PT <| ag Z Z <| nq <| J_ret <| Q_then_ret <| J_return (()) Tryz.results272 (.cellA Z ty110 HS CT (.tmp Z .nil)) ?_ ?_
  · rw [hbs]; rfl
  · exact SU
  obtain ⟨s, hs⟩ : ∃ x, look ps p = some x := by
    cases hq : look ps p with
    | none => rw [hq] at h19; simp at h19
    | some y => exact ⟨y, rfl⟩
  refine J_pick (A := blk b8 _ _) PC <| J_asTo (B := blk b8 110 (encC s.1)) (by rw [hs]; rfl) <| J_skip <| Q_then <| J_seq <| sr <| fa Z Z fa108_0 <| L_val Z (v_load Z ty3 HS (by exact rfl)) <| L_pur Z (p_lss Z Z) <| mv Z Z <| J_gsplit (t := 24) Z (fun h24 => ?_) (fun h24 => ?_)
  refine gz Z Z Z Z Z <| gz Z Z Z Z Z <| gz Z Z Z Z Z <| L_pur Z (p_pick_t Z Z) <| mv Z Z <| gz Z Z Z Z Z <| gz Z Z Z Z Z <| gz Z Z Z Z Z <| L_pur Z (p_pick_t Z Z) <| mv Z Z <| gz Z Z Z Z Z <| gz Z Z Z Z Z <| gz Z Z Z Z Z <| L_pur Z (p_pick_t Z Z) <| nq <| C_true Z <| J_seq ?_
  have hcp : canP q = false := by first | (simp_all [canP]; done) | (simp_all [canP] <;> omega)
  have hbs : (bothS ps p q) = (c0, 7) := by unfold bothS; rw [hs]; exact if_pos hcp
  refine J_region <| L_pur Z (bld110 .nil (by repeat constructor)) <| L_op <| x_store Z Z ty110 Z SM SM RO PT <| ag Z Z <| nq <| J_ret <| Q_then_ret <| J_return (()) Tryz.results272 (.cellA Z ty110 HS CT (.tmp Z .nil)) ?_ ?_
  · rw [hbs]; rfl
  · exact SU
  refine gp Z Z Z (p_fieldAddr Z fa108_0) Z <| L_op <| G_on Z Z Z <| J_val (v_load Z ty3 HS (by exact rfl)) Z Z Z <| gp Z Z Z (p_gtr Z Z) Z <| L_pur Z (p_pick_f Z Z) <| mv Z Z <| J_gsplit (t := 29) Z (fun h29 => ?_) (fun h29 => ?_)
  refine gz Z Z Z Z Z <| gz Z Z Z Z Z <| gz Z Z Z Z Z <| L_pur Z (p_pick_t Z Z) <| mv Z Z <| gz Z Z Z Z Z <| gz Z Z Z Z Z <| gz Z Z Z Z Z <| L_pur Z (p_pick_t Z Z) <| nq <| C_true Z <| J_seq ?_
  have hcp : canP q = false := by first | (simp_all [canP]; done) | (simp_all [canP] <;> omega)
  have hbs : (bothS ps p q) = (c0, 7) := by unfold bothS; rw [hs]; exact if_pos hcp
  refine J_region <| L_pur Z (bld110 .nil (by repeat constructor)) <| L_op <| x_store Z Z ty110 Z SM SM RO PT <| ag Z Z <| nq <| J_ret <| Q_then_ret <| J_return (()) Tryz.results272 (.cellA Z ty110 HS CT (.tmp Z .nil)) ?_ ?_
  · rw [hbs]; rfl
  · exact SU
  refine gp Z Z Z (p_fieldAddr Z fa108_1) Z <| L_op <| G_on Z Z Z <| J_val (v_load Z ty3 HS (by exact rfl)) Z Z Z <| gp Z Z Z (p_lss Z Z) Z <| L_pur Z (p_pick_f Z Z) <| mv Z Z <| J_gsplit (t := 34) Z (fun h34 => ?_) (fun h34 => ?_)
  refine gz Z Z Z Z Z <| gz Z Z Z Z Z <| gz Z Z Z Z Z <| L_pur Z (p_pick_t Z Z) <| nq <| C_true Z <| J_seq ?_
  have hcp : canP q = false := by first | (simp_all [canP]; done) | (simp_all [canP] <;> omega)
  have hbs : (bothS ps p q) = (c0, 7) := by unfold bothS; rw [hs]; exact if_pos hcp
  refine J_region <| L_pur Z (bld110 .nil (by repeat constructor)) <| L_op <| x_store Z Z ty110 Z SM SM RO PT <| ag Z Z <| nq <| J_ret <| Q_then_ret <| J_return (()) Tryz.results272 (.cellA Z ty110 HS CT (.tmp Z .nil)) ?_ ?_
  · rw [hbs]; rfl
  · exact SU
  refine gp Z Z Z (p_fieldAddr Z fa108_1) Z <| L_op <| G_on Z Z Z <| J_val (v_load Z ty3 HS (by exact rfl)) Z Z Z <| gp Z Z Z (p_geq Z Z) Z <| L_pur Z (p_pick_f Z Z) <| nq <| C_split Z (fun h38 => ?_) (fun h38 => ?_)
  refine J_seq ?_
  have hcp : canP q = false := by first | (simp_all [canP]; done) | (simp_all [canP] <;> omega)
  have hbs : (bothS ps p q) = (c0, 7) := by unfold bothS; rw [hs]; exact if_pos hcp
  refine J_region <| L_pur Z (bld110 .nil (by repeat constructor)) <| L_op <| x_store Z Z ty110 Z SM SM RO PT <| ag Z Z <| nq <| J_ret <| Q_then_ret <| J_return (()) Tryz.results272 (.cellA Z ty110 HS CT (.tmp Z .nil)) ?_ ?_
  · rw [hbs]; rfl
  · exact SU
  refine J_skip <| Q_then <| J_seq <| J_seq ?_
  have hcp : canP q = true := by first | (simp_all [canP]; done) | (simp_all [canP] <;> omega)
  refine J_region <| mv Z Z <| L_val Z (v_loadA Z ty108 HS CT) <| xo fc277 (A2 Z Z) Z (slGetC (ps := ps) (p := q) PC) fun _ => mv Z Z <| L_pur Z (p_extract Z Z) <| L_pur Z (p_extract Z Z) <| L_op <| x_alloc ty110 Z fun b10 => L_op <| x_store Z Z ty110 Z SM SM RO PT <| ag Z Z <| nx <| mv Z Z <| nq <| C_split Z (fun h46 => ?_) (fun h46 => ?_)
  have hbs : (bothS ps p q) = (c0, 3) := by unfold bothS; rw [hs]; dsimp only; rw [if_neg (by rw [hcp]; decide), if_pos h46]
  refine sr <| L_pur Z (bld110 .nil (by repeat constructor)) <| L_op <| x_store Z Z ty110 Z SM SM RO PT <| ag Z Z <| nq <| J_ret <| Q_then_ret <| J_return (()) Tryz.results272 (.cellA Z ty110 HS CT (.tmp Z .nil)) ?_ ?_
  · rw [hbs]; rfl
  · exact SU
  have hbs : (bothS ps p q) = (s.1, 0) := by unfold bothS; rw [hs]; dsimp only; rw [if_neg (by rw [hcp]; decide), if_neg (by rw [h46]; decide)]
  refine J_skip <| qx <| L_val Z (v_loadA Z ty110 HS CT) <| L_op <| x_store Z Z ty110 Z SM SM RO PT <| ag Z Z <| nq <| J_ret <| J_return (()) Tryz.results272 (.cellA Z ty110 HS CT (.tmp Z .nil)) ?_ ?_
  · rw [hbs]; rfl
  · exact SU
theorem lessG {r : Int} :
    Con Tryz.prog 273 #[.agg (encC c).toArray, .int .i64 r] E l (fun _ : Unit => .agg (encC (lessC c r)).toArray) (fun _ => l) := by
  refine Con.body (n := 12) Tryz.func273 Z Z _ (env_ok 2 Z) <| sr <| L_op <| x_box Z Z Z fun b2 => L_op <| x_alloc ty110 Z fun b4 => nx <| fa Z Z fa110_4 <| L_val Z (v_load Z ty3 HS (by exact rfl)) <| mv Z Z <| L_pur Z (p_and Z Z) <| L_pur Z (p_and Z Z) <| fa Z Z fa110_4 <| L_op <| x_store Z Z ty3 Z SM SM RO PT <| nx <| L_val Z (v_loadA Z ty110 HS CT) <| L_op <| x_store Z Z ty110 Z SM SM RO PT <| nq <| J_ret <| J_return (()) Tryz.results273 (.cellA Z ty110 HS CT .nil) ?_ ?_
  · rfl
  · exact SU
theorem badgeG {n : Int} (hn : 0 ≤ n ∧ n < 4294967296) :
    Con Tryz.prog 274 #[.agg (encC c).toArray, .int .u32 n] E l (fun _ : Unit => .tuple #[.agg (encC (badgeC c n).1).toArray, .int .i64 (badgeC c n).2]) (fun _ => l) := by
  refine Con.body (n := 42) Tryz.func274 Z Z _ (env_ok 2 Z) <| sr <| L_op <| x_box Z Z Z fun b2 => L_op <| x_alloc ty110 Z fun b4 => ag Z Z <| nxx <| fa Z Z fa110_0 <| L_val Z (v_load Z ty3 HS (by exact rfl)) <| nq <| J_block <| J_seq <| sr <| L_pur Z (p_eql Z Z) <| ag Z Z <| nq <| C_split Z (fun h8 => ?_) (fun h8 => ?_)
  refine J_skip <| Q_then <| C_split Z (fun h8 => ?_) (fun h8 => ?_)
  refine J_seq <| sr <| fa Z Z fa110_3 <| L_val Z (v_load Z ty3 HS (by exact rfl)) <| L_pur Z (p_neq Z Z) <| mv Z Z <| J_gsplit (t := 14) Z (fun h14 => ?_) (fun h14 => ?_)
  refine gz Z Z Z Z Z <| gz Z Z Z Z Z <| L_pur Z (p_pick_t Z Z) <| nq <| C_true Z <| sr <| L_pur Z (bld110 .nil (by repeat constructor)) <| L_op <| x_store Z Z ty110 Z SM SM RO PT <| ag Z Z <| nq <| J_ret <| Q_then_ret <| Q_blk_ret <| Q_then_ret <| J_return (()) Tryz.results274 (.cellA Z ty110 HS CT (.tmp Z .nil)) ?_ ?_
  · first | rfl | (simp_all [one, badgeC, c0, encC]; done) | (simp_all [one, badgeC, c0, encC] <;> first | omega | (rw [if_neg (by omega)]; simp))
  · exact SU
  refine gp Z Z Z (p_move Z) Z <| gp Z Z Z (p_eql Z Z) Z <| L_pur Z (p_pick_f Z Z) <| nq <| C_split Z (fun h17 => ?_) (fun h17 => ?_)
  refine sr <| L_pur Z (bld110 .nil (by repeat constructor)) <| L_op <| x_store Z Z ty110 Z SM SM RO PT <| ag Z Z <| nq <| J_ret <| Q_then_ret <| Q_blk_ret <| Q_then_ret <| J_return (()) Tryz.results274 (.cellA Z ty110 HS CT (.tmp Z .nil)) ?_ ?_
  · first | rfl | (simp_all [one, badgeC, c0, encC]; done) | (simp_all [one, badgeC, c0, encC] <;> first | omega | (rw [if_neg (by omega)]; simp))
  · exact SU
  refine J_skip <| Q_then <| J_seq <| sr <| mv Z Z <| L_pur Z (p_gtr Z Z) <| nq <| C_split Z (fun h20 => ?_) (fun h20 => ?_)
  refine sr <| L_pur Z (bld110 .nil (by repeat constructor)) <| L_op <| x_store Z Z ty110 Z SM SM RO PT <| ag Z Z <| nq <| J_ret <| Q_then_ret <| Q_blk_ret <| Q_then_ret <| J_return (()) Tryz.results274 (.cellA Z ty110 HS CT (.tmp Z .nil)) ?_ ?_
  · first | rfl | (simp_all [one, badgeC, c0, encC]; done) | (simp_all [one, badgeC, c0, encC] <;> first | omega | (rw [if_neg (by omega)]; simp))
  · exact SU
  refine J_skip <| qx <| mv Z Z <| L_pur Z (p_conv Z Tryz.underlying22 Tryz.underlying3) <| J_slot (t := 23) (v := .int .i64 (n)) Z (by rw [wrap64_of (by omega)]) <| fa Z Z fa110_3 <| L_op <| x_store Z Z ty3 Z SM SM RO PT <| nx <| L_val Z (v_loadA Z ty110 HS CT) <| L_op <| x_store Z Z ty110 Z SM SM RO PT <| ag Z Z <| nq <| J_ret <| Q_blk_ret <| Q_then_ret <| J_return (()) Tryz.results274 (.cellA Z ty110 HS CT (.tmp Z .nil)) ?_ ?_
  · first | rfl | (simp_all [one, badgeC, c0, encC]; done) | (simp_all [one, badgeC, c0, encC] <;> first | omega | (rw [if_neg (by omega)]; simp))
  · exact SU
  refine sr <| L_pur Z (p_eql Z Z) <| ag Z Z <| nq <| C_split Z (fun h26 => ?_) (fun h26 => ?_)
  refine sr <| mv Z Z <| L_pur Z (p_and Z Z) <| J_slot (t := 29) (v := .int .u32 (n % 256)) Z (by congr 1; exact and_mask (n := n) (k := 8) (by omega) hn) <| L_pur Z (p_conv Z Tryz.underlying22 Tryz.underlying3) <| J_slot (t := 30) (v := .int .i64 (n % 256)) Z (by rw [wrap64_of (by omega)]) <| mv Z Z <| L_pur Z (p_shr Z Z (by omega) (by decide)) <| J_slot (t := 32) (v := .int .u32 (n / 256)) Z (by rfl) <| L_pur Z (p_conv Z Tryz.underlying22 Tryz.underlying3) <| J_slot (t := 33) (v := .int .i64 (n / 256)) Z (by rw [wrap64_of (by omega)]) <| fa Z Z fa110_2 <| L_op <| x_store Z Z ty3 Z SM SM RO PT <| fa Z Z fa110_3 <| L_op <| x_store Z Z ty3 Z SM SM RO PT <| nxx <| L_val Z (v_loadA Z ty110 HS CT) <| xo fc104 (A1 Z) Z (cCheck (c := { c with size := n % 256, badge := n / 256 })) fun _ => L_pur Z (p_not Z) <| nq <| C_split Z (fun h38 => ?_) (fun h38 => ?_)
  refine sr <| L_pur Z (bld110 .nil (by repeat constructor)) <| L_op <| x_store Z Z ty110 Z SM SM RO PT <| ag Z Z <| nq <| J_ret <| Q_then_ret <| Q_blk_ret <| Q_then_ret <| J_return (()) Tryz.results274 (.cellA Z ty110 HS CT (.tmp Z .nil)) ?_ ?_
  · first | rfl | (simp_all [one, badgeC, c0, encC]; done) | (simp_all [one, badgeC, c0, encC] <;> first | omega | (rw [if_neg (by omega)]; simp))
  · exact SU
  refine J_skip <| qx <| L_val Z (v_loadA Z ty110 HS CT) <| L_op <| x_store Z Z ty110 Z SM SM RO PT <| ag Z Z <| nq <| J_ret <| Q_blk_ret <| Q_then_ret <| J_return (()) Tryz.results274 (.cellA Z ty110 HS CT (.tmp Z .nil)) ?_ ?_
  · first | rfl | (simp_all [one, badgeC, c0, encC]; done) | (simp_all [one, badgeC, c0, encC] <;> first | omega | (rw [if_neg (by omega)]; simp))
  · exact SU
  refine J_skip <| Q_blk_normal <| qx <| L_pur Z (bld110 .nil (by repeat constructor)) <| L_op <| x_store Z Z ty110 Z SM SM RO PT <| ag Z Z <| nq <| J_ret <| J_return (()) Tryz.results274 (.cellA Z ty110 HS CT (.tmp Z .nil)) ?_ ?_
  · first | rfl | (simp_all [one, badgeC, c0, encC]; done) | (simp_all [one, badgeC, c0, encC] <;> first | omega | (rw [if_neg (by omega)]; simp))
  · exact SU
  refine J_region <| L_pur Z (p_eql Z Z) <| ag Z Z <| nq <| C_split Z (fun h8 => ?_) (fun h8 => ?_)
  refine J_seq <| sr <| fa Z Z fa110_3 <| L_val Z (v_load Z ty3 HS (by exact rfl)) <| L_pur Z (p_neq Z Z) <| mv Z Z <| J_gsplit (t := 14) Z (fun h14 => ?_) (fun h14 => ?_)
  refine gz Z Z Z Z Z <| gz Z Z Z Z Z <| L_pur Z (p_pick_t Z Z) <| nq <| C_true Z <| sr <| L_pur Z (bld110 .nil (by repeat constructor)) <| L_op <| x_store Z Z ty110 Z SM SM RO PT <| ag Z Z <| nq <| J_ret <| Q_then_ret <| Q_blk_ret <| Q_then_ret <| J_return (()) Tryz.results274 (.cellA Z ty110 HS CT (.tmp Z .nil)) ?_ ?_
  · first | rfl | (simp_all [one, badgeC, c0, encC]; done) | (simp_all [one, badgeC, c0, encC] <;> first | omega | (rw [if_neg (by omega)]; simp))
  · exact SU
  refine gp Z Z Z (p_move Z) Z <| gp Z Z Z (p_eql Z Z) Z <| L_pur Z (p_pick_f Z Z) <| nq <| C_split Z (fun h17 => ?_) (fun h17 => ?_)
  refine sr <| L_pur Z (bld110 .nil (by repeat constructor)) <| L_op <| x_store Z Z ty110 Z SM SM RO PT <| ag Z Z <| nq <| J_ret <| Q_then_ret <| Q_blk_ret <| Q_then_ret <| J_return (()) Tryz.results274 (.cellA Z ty110 HS CT (.tmp Z .nil)) ?_ ?_
  · first | rfl | (simp_all [one, badgeC, c0, encC]; done) | (simp_all [one, badgeC, c0, encC] <;> first | omega | (rw [if_neg (by omega)]; simp))
  · exact SU
  refine J_skip <| Q_then <| J_seq <| sr <| mv Z Z <| L_pur Z (p_gtr Z Z) <| nq <| C_split Z (fun h20 => ?_) (fun h20 => ?_)
  refine sr <| L_pur Z (bld110 .nil (by repeat constructor)) <| L_op <| x_store Z Z ty110 Z SM SM RO PT <| ag Z Z <| nq <| J_ret <| Q_then_ret <| Q_blk_ret <| Q_then_ret <| J_return (()) Tryz.results274 (.cellA Z ty110 HS CT (.tmp Z .nil)) ?_ ?_
  · first | rfl | (simp_all [one, badgeC, c0, encC]; done) | (simp_all [one, badgeC, c0, encC] <;> first | omega | (rw [if_neg (by omega)]; simp))
  · exact SU
  refine J_skip <| qx <| mv Z Z <| L_pur Z (p_conv Z Tryz.underlying22 Tryz.underlying3) <| J_slot (t := 23) (v := .int .i64 (n)) Z (by rw [wrap64_of (by omega)]) <| fa Z Z fa110_3 <| L_op <| x_store Z Z ty3 Z SM SM RO PT <| nx <| L_val Z (v_loadA Z ty110 HS CT) <| L_op <| x_store Z Z ty110 Z SM SM RO PT <| ag Z Z <| nq <| J_ret <| Q_blk_ret <| Q_then_ret <| J_return (()) Tryz.results274 (.cellA Z ty110 HS CT (.tmp Z .nil)) ?_ ?_
  · first | rfl | (simp_all [one, badgeC, c0, encC]; done) | (simp_all [one, badgeC, c0, encC] <;> first | omega | (rw [if_neg (by omega)]; simp))
  · exact SU
  refine sr <| L_pur Z (p_eql Z Z) <| ag Z Z <| nq <| C_split Z (fun h26 => ?_) (fun h26 => ?_)
  refine sr <| mv Z Z <| L_pur Z (p_and Z Z) <| J_slot (t := 29) (v := .int .u32 (n % 256)) Z (by congr 1; exact and_mask (n := n) (k := 8) (by omega) hn) <| L_pur Z (p_conv Z Tryz.underlying22 Tryz.underlying3) <| J_slot (t := 30) (v := .int .i64 (n % 256)) Z (by rw [wrap64_of (by omega)]) <| mv Z Z <| L_pur Z (p_shr Z Z (by omega) (by decide)) <| J_slot (t := 32) (v := .int .u32 (n / 256)) Z (by rfl) <| L_pur Z (p_conv Z Tryz.underlying22 Tryz.underlying3) <| J_slot (t := 33) (v := .int .i64 (n / 256)) Z (by rw [wrap64_of (by omega)]) <| fa Z Z fa110_2 <| L_op <| x_store Z Z ty3 Z SM SM RO PT <| fa Z Z fa110_3 <| L_op <| x_store Z Z ty3 Z SM SM RO PT <| nxx <| L_val Z (v_loadA Z ty110 HS CT) <| xo fc104 (A1 Z) Z (cCheck (c := { c with size := n % 256, badge := n / 256 })) fun _ => L_pur Z (p_not Z) <| nq <| C_split Z (fun h38 => ?_) (fun h38 => ?_)
  refine sr <| L_pur Z (bld110 .nil (by repeat constructor)) <| L_op <| x_store Z Z ty110 Z SM SM RO PT <| ag Z Z <| nq <| J_ret <| Q_then_ret <| Q_blk_ret <| Q_then_ret <| J_return (()) Tryz.results274 (.cellA Z ty110 HS CT (.tmp Z .nil)) ?_ ?_
  · first | rfl | (simp_all [one, badgeC, c0, encC]; done) | (simp_all [one, badgeC, c0, encC] <;> first | omega | (rw [if_neg (by omega)]; simp))
  · exact SU
  refine J_skip <| qx <| L_val Z (v_loadA Z ty110 HS CT) <| L_op <| x_store Z Z ty110 Z SM SM RO PT <| ag Z Z <| nq <| J_ret <| Q_blk_ret <| Q_then_ret <| J_return (()) Tryz.results274 (.cellA Z ty110 HS CT (.tmp Z .nil)) ?_ ?_
  · first | rfl | (simp_all [one, badgeC, c0, encC]; done) | (simp_all [one, badgeC, c0, encC] <;> first | omega | (rw [if_neg (by omega)]; simp))
  · exact SU
  refine J_skip <| Q_blk_normal <| qx <| L_pur Z (bld110 .nil (by repeat constructor)) <| L_op <| x_store Z Z ty110 Z SM SM RO PT <| ag Z Z <| nq <| J_ret <| J_return (()) Tryz.results274 (.cellA Z ty110 HS CT (.tmp Z .nil)) ?_ ?_
  · first | rfl | (simp_all [one, badgeC, c0, encC]; done) | (simp_all [one, badgeC, c0, encC] <;> first | omega | (rw [if_neg (by omega)]; simp))
  · exact SU
theorem copyG (hp : Pick (slA b o ps) l m) {p q : Place} {r : Int} :
    Con Tryz.prog 208 #[.pointer (some ⟨b, o, none⟩), .agg (encI p).toArray, .agg (encI q).toArray, .int .i64 r] E l (fun _ : Unit => .int .i64 (copyS ps p q r).2) (fun _ => slA b o (copyS ps p q r).1 :: m) := by
  refine Con.body (n := 36) Tryz.func208 Z Z _ (env_ok 4 Z) <| J_pick hp <| sr <| L_op <| x_box Z Z Z fun b5 => L_op <| x_box Z Z Z fun b6 => ag Z Z <| nx <| mv Z Z <| L_val Z (v_loadA Z ty108 HS CT) <| L_val Z (v_loadA Z ty108 HS CT) <| xo fc272 (A3 Z Z Z) Z (bothG (ps := ps) (p := p) (q := q) PC) fun _ => mv Z Z <| L_pur Z (p_extract Z Z) <| L_pur Z (p_extract Z Z) <| L_op <| x_alloc ty110 Z fun b9 => L_op <| x_store Z Z ty110 Z SM SM RO PT <| J_pick (A := blk b9 _ _) PC <| J_asTo (B := blk b9 110 (encC (bothS ps p q).1)) (by rfl) <| ag Z Z <| J_slot (t := 10) (v := .int .i64 ((bothS ps p q).2)) Z (by rfl) <| nq <| J_seq <| J_block <| sr <| mv Z Z <| L_pur Z (p_neq Z Z) <| ag Z Z <| nq <| C_split Z (fun h18 => ?_) (fun h18 => ?_)
  refine J_seq ?_
  have hc : copyS ps p q r = (ps, (bothS ps p q).2) := by unfold copyS; exact if_pos (by simpa using h18)
  refine J_region <| mv Z Z <| ag Z Z <| nq <| J_ret <| Q_blk_ret <| Q_then_ret <| J_pick (A := slA b o _) PC <| J_asTo (B := slA b o (copyS ps p q r).1) (by rw [hc]) <| J_return (()) Tryz.results208 (.tmp Z .nil) ?_ ?_
  · rw [hc]; rfl
  · exact SU
  have hz0 : ¬ (bothS ps p q).2 ≠ 0 := by simpa using h18
  refine sr <| mv Z Z <| L_pur Z (p_lss Z Z) <| mv Z Z <| J_gsplit (t := 25) Z (fun h25 => ?_) (fun h25 => ?_)
  refine gz Z Z Z Z Z <| gz Z Z Z Z Z <| L_pur Z (p_pick_t Z Z) <| ag Z Z <| nq <| C_true Z <| J_seq ?_
  have hc : copyS ps p q r = (ps, 7) := by unfold copyS; rw [if_neg hz0]; exact if_pos (by simp_all)
  refine J_region <| ag Z Z <| nq <| J_ret <| Q_blk_ret <| Q_then_ret <| J_pick (A := slA b o _) PC <| J_asTo (B := slA b o (copyS ps p q r).1) (by rw [hc]) <| J_return (()) Tryz.results208 (.tmp Z .nil) ?_ ?_
  · rw [hc]; rfl
  · exact SU
  refine gp Z Z Z (p_move Z) Z <| gp Z Z Z (p_gtr Z Z) Z <| L_pur Z (p_pick_f Z Z) <| ag Z Z <| nq <| C_split Z (fun h22 => ?_) (fun h22 => ?_)
  refine J_seq ?_
  have hc : copyS ps p q r = (ps, 7) := by unfold copyS; rw [if_neg hz0]; exact if_pos (by simp_all)
  refine J_region <| ag Z Z <| nq <| J_ret <| Q_blk_ret <| Q_then_ret <| J_pick (A := slA b o _) PC <| J_asTo (B := slA b o (copyS ps p q r).1) (by rw [hc]) <| J_return (()) Tryz.results208 (.tmp Z .nil) ?_ ?_
  · rw [hc]; rfl
  · exact SU
  refine J_skip <| Q_blk_normal <| Q_then <| J_seq ?_
  have hc : copyS ps p q r = (slPut ps q (lessC (bothS ps p q).1 r) p, 0) := by unfold copyS; rw [if_neg hz0]; exact if_neg (by simp_all)
  refine J_drawL (some 6) mixed <| ip 0 Z Z Z Z (p_move Z) <| iv 1 Z Z Z Z (fun _ => v_loadA Z ty108 HS CT) <| iv 2 Z Z Z Z (fun _ => v_loadA Z ty110 HS CT) <| ip 3 Z Z Z Z (p_move Z) <| iv 5 Z Z Z Z (fun _ => v_loadA Z ty108 HS CT) <| i1 4 Z <| xc fc273 (A2 Z Z) Z (lessG (c := (bothS ps p q).1) (r := r)) fun _ => i1 6 Z <| xc fc58 (A4 Z Z Z Z) Z (slPutC (ps := ps) (p := q) (c := lessC (bothS ps p q).1 r) (q := p) PC) fun _ => i0 <| qx <| ag Z Z <| nq <| J_ret <| J_pick (A := slA b o _) PC <| J_asTo (B := slA b o (copyS ps p q r).1) (by rw [hc]) <| J_return (()) Tryz.results208 (.tmp Z .nil) ?_ ?_
  · rw [hc]; rfl
  · exact SU
theorem mintG (hp : Pick (slA b o ps) l m) {p q : Place} {n : Int} (hn : 0 ≤ n ∧ n < 4294967296) :
    Con Tryz.prog 210 #[.pointer (some ⟨b, o, none⟩), .agg (encI p).toArray, .agg (encI q).toArray, .int .u32 n] E l (fun _ : Unit => .int .i64 (mintS ps p q n).2) (fun _ => slA b o (mintS ps p q n).1 :: m) := by
  refine Con.body (n := 35) Tryz.func210 Z Z _ (env_ok 4 Z) <| J_pick hp <| sr <| L_op <| x_box Z Z Z fun b5 => L_op <| x_box Z Z Z fun b6 => ag Z Z <| nx <| mv Z Z <| L_val Z (v_loadA Z ty108 HS CT) <| L_val Z (v_loadA Z ty108 HS CT) <| xo fc272 (A3 Z Z Z) Z (bothG (ps := ps) (p := p) (q := q) PC) fun _ => mv Z Z <| L_pur Z (p_extract Z Z) <| L_pur Z (p_extract Z Z) <| L_op <| x_alloc ty110 Z fun b9 => L_op <| x_store Z Z ty110 Z SM SM RO PT <| J_pick (A := blk b9 _ _) PC <| J_asTo (B := blk b9 110 (encC (bothS ps p q).1)) (by rfl) <| ag Z Z <| J_slot (t := 10) (v := .int .i64 ((bothS ps p q).2)) Z (by rfl) <| nxx <| mv Z Z <| L_pur Z (p_neq Z Z) <| nq <| C_split Z (fun h19 => ?_) (fun h19 => ?_)
  refine J_seq ?_
  have hc : mintS ps p q n = (ps, (bothS ps p q).2) := by unfold mintS; exact if_pos (by simpa using h19)
  refine J_region <| mv Z Z <| ag Z Z <| nq <| J_ret <| Q_then_ret <| J_pick (A := slA b o _) PC <| J_asTo (B := slA b o (mintS ps p q n).1) (by rw [hc]) <| J_return (()) Tryz.results210 (.tmp Z .nil) ?_ ?_
  · rw [hc]; rfl
  · exact SU
  have hz0 : ¬ (bothS ps p q).2 ≠ 0 := by simpa using h19
  refine J_skip <| Q_then <| J_seq <| sr <| L_val Z (v_loadA Z ty110 HS CT) <| mv Z Z <| xo fc274 (A2 Z Z) Z (badgeG (c := (bothS ps p q).1) (n := n) hn) fun _ => mv Z Z <| L_pur Z (p_extract Z Z) <| L_pur Z (p_extract Z Z) <| L_op <| x_store Z Z ty110 Z SM SM RO PT <| J_pick (A := blk b9 _ _) PC <| J_asTo (B := blk b9 110 (encC (badgeC (bothS ps p q).1 n).1)) (by rfl) <| ag Z Z <| J_slot (t := 10) (v := .int .i64 ((badgeC (bothS ps p q).1 n).2)) Z (by rfl) <| nx <| mv Z Z <| L_pur Z (p_neq Z Z) <| nq <| C_split Z (fun h28 => ?_) (fun h28 => ?_)
  refine J_seq ?_
  have hc : mintS ps p q n = (ps, (badgeC (bothS ps p q).1 n).2) := by unfold mintS; rw [if_neg hz0]; exact if_pos (by simpa using h28)
  refine J_region <| mv Z Z <| ag Z Z <| nq <| J_ret <| Q_then_ret <| J_pick (A := slA b o _) PC <| J_asTo (B := slA b o (mintS ps p q n).1) (by rw [hc]) <| J_return (()) Tryz.results210 (.tmp Z .nil) ?_ ?_
  · rw [hc]; rfl
  · exact SU
  refine J_skip <| Q_then <| J_seq ?_
  have hc : mintS ps p q n = (slPut ps q (badgeC (bothS ps p q).1 n).1 p, 0) := by unfold mintS; rw [if_neg hz0]; exact if_neg (by simpa using h28)
  refine J_region <| mv Z Z <| L_val Z (v_loadA Z ty108 HS CT) <| L_val Z (v_loadA Z ty110 HS CT) <| L_val Z (v_loadA Z ty108 HS CT) <| xo fc58 (A4 Z Z Z Z) Z (slPutC (ps := ps) (p := q) (c := (badgeC (bothS ps p q).1 n).1) (q := p) PC) fun _ => nx <| ag Z Z <| nq <| J_ret <| J_pick (A := slA b o _) PC <| J_asTo (B := slA b o (mintS ps p q n).1) (by rw [hc]) <| J_return (()) Tryz.results210 (.tmp Z .nil) ?_ ?_
  · rw [hc]; rfl
  · exact SU
theorem dmoveG (hp : Pick (slA b o ps) l m) {p q : Place} (hz : ps.length ≤ 100000) :
    Con Tryz.prog 212 #[.pointer (some ⟨b, o, none⟩), .agg (encI p).toArray, .agg (encI q).toArray] E l (fun _ : Unit => .int .i64 (dmoveS ps p q).2) (fun _ => slA b o (dmoveS ps p q).1 :: m) := by
  refine Con.body (n := 23) Tryz.func212 Z Z _ (env_ok 3 Z) <| J_pick hp <| sr <| L_op <| x_box Z Z Z fun b4 => L_op <| x_box Z Z Z fun b5 => ag Z Z <| nx <| mv Z Z <| L_val Z (v_loadA Z ty108 HS CT) <| L_val Z (v_loadA Z ty108 HS CT) <| xo fc272 (A3 Z Z Z) Z (bothG (ps := ps) (p := p) (q := q) PC) fun _ => mv Z Z <| L_pur Z (p_extract Z Z) <| L_pur Z (p_extract Z Z) <| L_op <| x_alloc ty110 Z fun b7 => L_op <| x_store Z Z ty110 Z SM SM RO PT <| ag Z Z <| nxx <| mv Z Z <| L_pur Z (p_eql Z Z) <| nq <| C_split Z (fun h17 => ?_) (fun h17 => ?_)
  have hc : dmoveS ps p q = (moveS ps p q, (bothS ps p q).2) := by unfold dmoveS; rw [if_pos (by simpa using h17)]
  refine J_region <| mv Z Z <| L_val Z (v_loadA Z ty108 HS CT) <| L_val Z (v_loadA Z ty108 HS CT) <| xo fc275 (A3 Z Z Z) Z (moveG (ps := ps) (p := p) (q := q) PC hz) fun _ => nx <| mv Z Z <| ag Z Z <| nq <| J_ret <| J_pick (A := slA b o _) PC <| J_asTo (B := slA b o (dmoveS ps p q).1) (by rw [hc]) <| J_return (()) Tryz.results212 (.tmp Z .nil) ?_ ?_
  · rw [hc]; rfl
  · exact SU
  have hc : dmoveS ps p q = (ps, (bothS ps p q).2) := by unfold dmoveS; rw [if_neg (by simpa using h17)]
  refine J_skip <| qx <| mv Z Z <| ag Z Z <| nq <| J_ret <| J_pick (A := slA b o _) PC <| J_asTo (B := slA b o (dmoveS ps p q).1) (by rw [hc]) <| J_return (()) Tryz.results212 (.tmp Z .nil) ?_ ?_
  · rw [hc]; rfl
  · exact SU
def DropC (n : Nat) : Prop := ∀ (E : World) (l m : List As) (b o : Nat) (ps : List (Place × SV)) (p : Place), Pick (slA b o ps) l m → ps.length ≤ n → n ≤ 100000 →
  Con Tryz.prog 278 #[.pointer (some ⟨b, o, none⟩), .agg (encI p).toArray] E l (fun v : Value => v) (fun v => row 449 2 v (((kDropT n ps p).2).map encI) :: slA b o (kDropT n ps p).1 :: m)
theorem dropStep (hp : Pick (slA b o ps) l m) {p : Place} (hD : ∀ k, n = k + 1 → DropC k) (hn : ps.length ≤ n) (hn1 : n ≤ 100000) :
    Con Tryz.prog 278 #[.pointer (some ⟨b, o, none⟩), .agg (encI p).toArray] E l (fun v : Value => v) (fun v => row 449 2 v (((kDropT n ps p).2).map encI) :: slA b o (kDropT n ps p).1 :: m) := by
  refine Con.body (n := 48) Tryz.func278 Z Z _ (env_ok 2 Z) <| J_pick hp <| sr <| L_op <| x_box Z Z Z fun b3 => ag Z Z <| nx <| mv Z Z <| L_val Z (v_loadA Z ty108 HS CT) <| xo fc277 (A2 Z Z) Z (slGetC (ps := ps) (p := p) PC) fun _ => mv Z Z <| L_pur Z (p_extract Z Z) <| L_pur Z (p_extract Z Z) <| L_op <| x_alloc ty110 Z fun b5 => L_op <| x_store Z Z ty110 Z SM SM RO PT <| ag Z Z <| nxx <| mv Z Z <| L_pur Z (p_not Z) <| nq <| C_split Z (fun h16 => ?_) (fun h16 => ?_)
  have hno : look ps p = none := by
    cases hq : look ps p with
    | none => rfl
    | some y => rw [hq] at h16; simp at h16
  have hkd : (kDropT n ps p) = (ps, []) := by
    cases n with
    | zero => rfl
    | succ n => rw [kDropT, hno]
  refine J_nil (el := 449) (sz := 2) <| sr <| ag Z Z <| nq <| J_ret <| Q_then_ret <| J_pick (A := slA b o _) PC <| J_asTo (B := slA b o (kDropT n ps p).1) (by rw [hkd]) <| J_pick (A := row 449 2 _ _) PC <| J_rowEq (ys := (kDropT n ps p).2.map encI) (by rw [hkd]; try rfl) ?_
  exact J_return (_) Tryz.results278 (.tmp Z .nil) Z SU
  obtain ⟨s, hs⟩ : ∃ x, look ps p = some x := by
    cases hq : look ps p with
    | none => rw [hq] at h16; simp at h16
    | some y => exact ⟨y, rfl⟩
  have hsl := dropS_len hs
  obtain ⟨k, rfl⟩ : ∃ k, n = k + 1 := ⟨n - 1, by omega⟩
  refine J_pick (A := blk b5 _ _) PC <| J_asTo (B := blk b5 110 (encC s.1)) (by rw [hs]; rfl) <| J_skip <| qx <| mv Z Z <| L_val Z (v_loadA Z ty108 HS CT) <| xo fc312 (A2 Z Z) Z (dropG (ps := ps) (p := p) PC (by omega)) fun _ => nxx <| mv Z Z <| L_val Z (v_loadA Z ty110 HS CT) <| xo fc313 (A2 Z Z) Z (namedG (ps := dropS ps p) (c := s.1) PC (by omega)) <| JR fun a22 c22 hw22 hl22 hm22 hz22 => L_pur Z (p_len Z Tryz.underlying57) <| J_slot (t := 23) (v := .int .i64 ((named (dropS ps p) s.1).length : Int)) Z (by rw [List.length_map]) <| L_pur Z (p_gtr Z Z) <| nq <| C_dec Z (fun h24 => ?_) (fun h24 => ?_)
  have hkd : (kDropT (k + 1) ps p) = (dropS ps p, []) := by
    rw [kDropT, hs]
    dsimp only
    split
    · rfl
    · rename_i hq
      rw [hq] at h24; simp at h24
  refine J_nil (el := 449) (sz := 2) <| sr <| ag Z Z <| nq <| J_ret <| Q_then_ret <| J_pick (A := slA b o _) PC <| J_asTo (B := slA b o (kDropT (k + 1) ps p).1) (by rw [hkd]) <| J_pick (A := row 449 2 _ _) PC <| J_rowEq (ys := (kDropT (k + 1) ps p).2.map encI) (by rw [hkd]; try rfl) ?_
  exact J_return (_) Tryz.results278 (.tmp Z .nil) Z SU
  have hnm : named (dropS ps p) s.1 = [] := by
    cases hq : named (dropS ps p) s.1 with
    | nil => rfl
    | cons x xs => rw [hq] at h24; simp at h24 <;> omega
  refine J_skip <| qx <| fa Z Z fa110_0 <| L_val Z (v_load Z ty3 HS (by exact rfl)) <| fa Z Z fa110_1 <| L_val Z (v_load Z ty3 HS (by exact rfl)) <| L_pur Z (bld449 (.cons Z (.cons Z .nil)) (by repeat constructor)) <| L_op <| x_lit (vals := [_]) Tryz.underlying361 ty449 Z (.cons Z .nil) (.agg .nil) (Wf.cons Z Z Wf.nil) Z (by decide) Z Z <| JE ([(s.1.kind, s.1.obj)].map encI) (by rfl) fun a30 c30 hw30 hl30 hm30 hz30 => ag Z Z <| nxx <| fa Z Z fa110_0 <| L_val Z (v_load Z ty3 HS (by exact rfl)) <| L_pur Z (p_neq Z Z) <| nq <| C_dec Z (fun h33 => ?_) (fun h33 => ?_)
  have hkd : (kDropT (k + 1) ps p) = (dropS ps p, [(s.1.kind, s.1.obj)]) := by
    rw [kDropT, hs]
    dsimp only
    rw [hnm]
    exact if_neg h33
  refine sr <| mv Z Z <| ag Z Z <| nq <| J_ret <| Q_then_ret <| J_pick (A := slA b o _) PC <| J_asTo (B := slA b o (kDropT (k + 1) ps p).1) (by rw [hkd]) <| J_pick (A := row 449 2 _ _) PC <| J_rowEq (ys := (kDropT (k + 1) ps p).2.map encI) (by rw [hkd]; try rfl) ?_
  exact J_return (_) Tryz.results278 (.tmp Z .nil) Z SU
  have hkd : (kDropT (k + 1) ps p) = (dropK (kDropT k) s.1.obj 16 (dropS ps p, [(s.1.kind, s.1.obj)])) := by
    rw [kDropT, hs]
    dsimp only
    rw [hnm]
    exact if_pos (by simpa using h33)
  refine J_skip <| Q_then <| J_seq <| sr <| mv Z Z <| J_pick (A := slA b o _) PC <| J_asTo (B := slA b o (dropK (kDropT k) s.1.obj 0 (dropS ps p, [(s.1.kind, s.1.obj)])).1) (by rfl) <| J_pick (A := row 449 2 _ _) PC <| J_rowEq (ys := (dropK (kDropT k) s.1.obj 0 (dropS ps p, [(s.1.kind, s.1.obj)])).2.map encI) (by rfl) <| nq <| J_block <| J_loop2 (fun (j : Nat) v => j ≤ 16) (fun j v => row 449 2 v (((dropK (kDropT k) s.1.obj j (dropS ps p, [(s.1.kind, s.1.obj)])).2).map encI) :: blk b5 110 (encC s.1) :: slA b o (dropK (kDropT k) s.1.obj j (dropS ps p, [(s.1.kind, s.1.obj)])).1 :: m) (fun j v => [(35, .int .i64 (j : Int)), (7, v), (0, .pointer (some ⟨b, o, none⟩)), (5, .pointer (some ⟨b5, 0, none⟩))]) (fun j v => 16 - j) 0 _ (by omega) SU KE ?_
  intro j v hj
  have hlen := dropK_len (kDropT_len k) (u := s.1.obj) (x := (dropS ps p, [(s.1.kind, s.1.obj)])) j
  have hlen1 := dropK_len (kDropT_len k) (u := s.1.obj) (x := (dropS ps p, [(s.1.kind, s.1.obj)])) (j + 1)
  simp only [List.length_cons, List.length_nil] at hlen hlen1
  rw [dropK_succ] at hlen1
  simp only [List.length_append] at hlen1
  have hle := dropK_le (kDropT_len k) (u := s.1.obj) (x := (dropS ps p, [(s.1.kind, s.1.obj)])) j
  simp only at hle
  refine sr <| L_pur Z (p_lss Z Z) <| nq <| J_seq <| C_dec Z (fun h36 => ?_) (fun h36 => ?_)
  refine J_skip <| Q_then <| J_seq <| J_block <| sr <| mv Z Z <| ag Z Z <| ny <| mv Z Z <| mv Z Z <| fa Z Z fa110_1 <| L_val Z (v_load Z ty3 HS (by exact rfl)) <| mv Z Z <| L_pur Z (bld108 (.cons Z (.cons Z .nil)) (by repeat constructor)) <| xo fc278 (A2 Z Z) Z (hD k Z _ _ _ b o (dropK (kDropT k) s.1.obj j (dropS ps p, [(s.1.kind, s.1.obj)])).1 (s.1.obj, (j : Int)) PC (by omega) (by omega)) <| JR fun a44 c44 hw44 hl44 hm44 hz44 => L_op <| x_app Z Z Tryz.underlying361 ty449 Z Z PC (fun w H => sep_reads HS H) (by simp; omega) (by simp; omega) Z <| JE ((dropK (kDropT k) s.1.obj (j + 1) (dropS ps p, [(s.1.kind, s.1.obj)])).2.map encI) (by rw [dropK_succ]; simp) fun a45 c45 hw45 hl45 hm45 hz45 => J_pick (A := slA b o _) PC ?_
  refine J_asTo (B := slA b o (dropK (kDropT k) s.1.obj (j + 1) (dropS ps p, [(s.1.kind, s.1.obj)])).1) (by rw [dropK_succ]) <| ag Z Z <| L_nil <| Q_blk_normal <| qr <| L_pur Z (p_add64 Z Z (by omega)) <| mv Z Z <| nq ?_
  exact J_again2 (j + 1) _ (by omega) (by omega) SU KE
  have hj16 : j = 16 := by omega
  subst hj16
  refine J_exit <| Q_then_exit <| Q_then_exit <| Q_blk_this <| qx <| mv Z Z <| ag Z Z <| nq <| J_ret <| J_pick (A := slA b o _) PC <| J_asTo (B := slA b o (kDropT (k + 1) ps p).1) (by rw [hkd]) <| J_pick (A := row 449 2 _ _) PC <| J_rowEq (ys := (kDropT (k + 1) ps p).2.map encI) (by rw [hkd]; try rfl) ?_
  exact J_return (_) Tryz.results278 (.tmp Z .nil) Z SU
theorem dropAll : ∀ n, DropC n
  | 0 => fun _ _ _ _ _ _ _ hp hn h1 => dropStep hp (fun _ h => by cases h) hn h1
  | n + 1 => fun _ _ _ _ _ _ _ hp hn h1 => dropStep hp (fun k h => by cases h; exact dropAll n) hn h1
theorem deleteG (hp : Pick (slA b o ps) l m) {p : Place} (hz : ps.length ≤ 100000) :
    Con Tryz.prog 215 #[.pointer (some ⟨b, o, none⟩), .agg (encI p).toArray] E l (fun v : Value => .tuple #[v, .int .i64 (deleteS ps p).2]) (fun v => row 449 2 v (((deleteS ps p).1.2).map encI) :: slA b o (deleteS ps p).1.1 :: m) := by
  refine Con.body (n := 19) Tryz.func215 Z Z _ (env_ok 2 Z) <| J_pick hp <| sr <| L_op <| x_box Z Z Z fun b3 => ag Z Z <| ag Z Z <| nxx <| mv Z Z <| L_val Z (v_loadA Z ty108 HS CT) <| xo fc277 (A2 Z Z) Z (slGetC (ps := ps) (p := p) PC) fun _ => mv Z Z <| L_pur Z (p_extract Z Z) <| L_pur Z (p_extract Z Z) <| L_op <| x_alloc ty110 Z fun b6 => L_op <| x_store Z Z ty110 Z SM SM RO PT <| ag Z Z <| nx <| mv Z Z <| L_pur Z (p_not Z) <| nq <| C_split Z (fun h15 => ?_) (fun h15 => ?_)
  have hno : look ps p = none := by
    cases hq : look ps p with
    | none => rfl
    | some y => rw [hq] at h15; simp at h15
  have hkd : (deleteS ps p) = ((ps, []), 4) := by unfold deleteS; rw [hno]
  refine J_nil (el := 449) (sz := 2) <| sr <| ag Z Z <| ag Z Z <| nq <| J_ret <| Q_then_ret <| J_pick (A := slA b o _) PC <| J_asTo (B := slA b o (deleteS ps p).1.1) (by rw [hkd]) <| J_pick (A := row 449 2 _ _) PC <| J_rowEq (ys := (deleteS ps p).1.2.map encI) (by rw [hkd]; try rfl) <| J_return (.slice none 0 0) Tryz.results215 (.tmp Z (.tmp Z .nil)) ?_ ?_
  · rw [hkd]; rfl
  · exact SU
  obtain ⟨s, hs⟩ : ∃ x, look ps p = some x := by
    cases hq : look ps p with
    | none => rw [hq] at h15; simp at h15
    | some y => exact ⟨y, rfl⟩
  have hkd : (deleteS ps p) = (kDropT ps.length ps p, 0) := by unfold deleteS; rw [hs]
  refine J_skip <| qx <| mv Z Z <| L_val Z (v_loadA Z ty108 HS CT) <| xo fc278 (A2 Z Z) Z (dropAll ps.length _ _ _ b o ps p PC (Nat.le_refl _) hz) <| JR fun a18 c18 hw18 hl18 hm18 hz18 => ag Z Z <| ag Z Z <| nq <| J_ret <| J_pick (A := slA b o _) PC <| J_asTo (B := slA b o (deleteS ps p).1.1) (by rw [hkd]) <| J_pick (A := row 449 2 _ _) PC <| J_rowEq (ys := (deleteS ps p).1.2.map encI) (by rw [hkd]; try rfl) <| J_return (.slice a18 ((kDropT ps.length ps p).2.map encI).length c18) Tryz.results215 (.tmp Z (.tmp Z .nil)) ?_ ?_
  · rw [hkd]; rfl
  · exact SU
theorem revokeG (hp : Pick (slA b o ps) l m) {p : Place} (hR : RevOk ps p) (hz : ps.length ≤ 100000) :
    Con Tryz.prog 217 #[.pointer (some ⟨b, o, none⟩), .agg (encI p).toArray] E l (fun v : Value => .tuple #[v, .int .i64 (revokeS ps p).2]) (fun v => row 449 2 v (((revokeS ps p).1.2).map encI) :: slA b o (revokeS ps p).1.1 :: m) := by
  refine Con.body (n := 35) Tryz.func217 Z Z _ (env_ok 2 Z) <| J_pick hp <| sr <| L_op <| x_box Z Z Z fun b3 => ag Z Z <| ag Z Z <| nxx <| mv Z Z <| L_val Z (v_loadA Z ty108 HS CT) <| xo fc277 (A2 Z Z) Z (slGetC (ps := ps) (p := p) PC) fun _ => mv Z Z <| L_pur Z (p_extract Z Z) <| L_pur Z (p_extract Z Z) <| L_op <| x_alloc ty110 Z fun b6 => L_op <| x_store Z Z ty110 Z SM SM RO PT <| ag Z Z <| nx <| mv Z Z <| L_pur Z (p_not Z) <| nq <| C_split Z (fun h17 => ?_) (fun h17 => ?_)
  have hno : look ps p = none := by
    cases hq : look ps p with
    | none => rfl
    | some y => rw [hq] at h17; simp at h17
  have hkd : (revokeS ps p) = ((ps, []), 4) := by unfold revokeS; rw [hno]
  refine J_nil (el := 449) (sz := 2) <| sr <| ag Z Z <| ag Z Z <| nq <| J_ret <| Q_then_ret <| J_pick (A := slA b o _) PC <| J_asTo (B := slA b o (revokeS ps p).1.1) (by rw [hkd]) <| J_pick (A := row 449 2 _ _) PC <| J_rowEq (ys := (revokeS ps p).1.2.map encI) (by rw [hkd]; try rfl) <| J_return (.slice none 0 0) Tryz.results217 (.tmp Z (.tmp Z .nil)) ?_ ?_
  · rw [hkd]; rfl
  · exact SU
  obtain ⟨s, hs⟩ : ∃ x, look ps p = some x := by
    cases hq : look ps p with
    | none => rw [hq] at h17; simp at h17
    | some y => exact ⟨y, rfl⟩
  obtain ⟨R, hRR⟩ := Option.isSome_iff_exists.1 (hR (by rw [hs]; rfl))
  have hkd : (revokeS ps p) = (R, 0) := by unfold revokeS; rw [hs]; dsimp only; rw [hRR]; rfl
  obtain ⟨L, hL⟩ := revL_below hRR
  obtain ⟨L0, hL0, hLs, hLz⟩ := belowS_is hL
  refine J_nil (el := 449) (sz := 2) <| J_skip <| qx <| ag Z Z <| nxx <| mv Z Z <| L_val Z (v_loadA Z ty108 HS CT) <| xo fc279 (A2 Z Z) Z (belowC (ps := ps) (p := p) (N := ps.length) (L := L0) PC hL0 (by omega) hz) <| JE (L.map encI) (by rw [hLs]) fun a20 c20 hw20 hl20 hm20 hz20 => ag Z Z <| nq <| J_block <| J_pick (A := row 449 2 (.slice none 0 0) _) PC ?_
  refine J_rowEq (ys := (([] : List Obj2)).map encI) (by rfl) <| J_loop3 (fun (x : List (Place × SV) × List Obj2 × Nat × List Place) v8 v9 => revL p x.2.2.1 x.1 x.2.1 = some R ∧ belowS x.1 p = some x.2.2.2 ∧ x.1.length + x.2.1.length ≤ ps.length) (fun x v8 v9 => row 449 2 v8 ((x.2.1).map encI) :: row 108 2 v9 ((x.2.2.2).map encI) :: blk b3 108 (encI p) :: slA b o x.1 :: m) (fun x v8 v9 => [(8, v8), (9, v9), (0, .pointer (some ⟨b, o, none⟩)), (3, .pointer (some ⟨b3, 0, none⟩))]) (fun x v8 v9 => x.2.2.1) (ps, [], ps.length + 1, L) _ _ ⟨hRR, hL, by simp⟩ SU KE ?_
  intro x v8 v9 hx
  obtain ⟨t, out, n, ls⟩ := x
  obtain ⟨hx1, hx2, hx3⟩ := hx
  dsimp only at hx1 hx2 hx3 ⊢
  refine J_row (v := v9) HS fun hwv av cv hvv hlv hmv hzv => ?_
  subst hvv
  have hmc : cv ≤ 9223372036854775807 := hmv
  have hml : (ls.map encI).length = ls.length := List.length_map _
  refine J_seq <| sr <| mv Z Z <| L_pur Z (p_len Z Tryz.underlying57) <| J_slot (t := 22) (v := .int .i64 ((ls.length : Int))) Z (by rw [hml]) <| L_pur Z (p_gtr Z Z) <| nq <| C_dec Z (fun h23 => ?_) (fun h23 => ?_)
  obtain ⟨a0, ts, rfl⟩ : ∃ a0 ts, ls = a0 :: ts := by
    cases ls with
    | nil => simp at h23
    | cons a0 ts => exact ⟨a0, ts, rfl⟩
  obtain ⟨n1, rfl⟩ : ∃ n1, n = n1 + 1 := by
    cases n with
    | zero => simp [revL] at hx1
    | succ n1 => exact ⟨n1, rfl⟩
  rw [revL_step hx2] at hx1
  have hkl := kDropT_len t.length t a0
  obtain ⟨L2, hL2⟩ := revL_below hx1
  obtain ⟨L3, hL3, hLs3, hLz3⟩ := belowS_is hL2
  obtain ⟨bx, ox, rfl⟩ := hzv (by simp)
  refine J_skip <| Q_then <| J_seq <| J_block <| J_region <| mv Z Z <| mv Z Z <| mv Z Z <| L_pur Z (p_indexAddr Z Z Tryz.underlying57 ty108 (by simp) (by simp)) <| L_val Z (v_loadE Z ty108 HS (by rfl)) <| xo fc278 (A2 Z Z) Z (dropAll t.length _ _ _ b o t a0 PC (Nat.le_refl _) (by omega)) <| JR fun a32 c32 hw32 hl32 hm32 hz32 => L_op <| x_app Z Z Tryz.underlying361 ty449 Z Z PC (fun w H => sep_reads HS H) (by simp; omega) (by simp; omega) Z <| JE ((out ++ (kDropT t.length t a0).2).map encI) (by simp) fun a33 c33 hw33 hl33 hm33 hz33 => ag Z Z <| L_nil <| Q_blk_normal <| qr <| mv Z Z <| L_val Z (v_loadA Z ty108 HS CT) <| xo fc279 (A2 Z Z) Z (belowC (ps := (kDropT t.length t a0).1) (p := p) (N := (kDropT t.length t a0).1.length) (L := L3) PC hL3 (by omega) (by omega)) <| JE (L2.map encI) (by rw [hLs3]) fun a26 c26 hw26 hl26 hm26 hz26 => ag Z Z <| nq ?_
  exact J_again3 ((kDropT t.length t a0).1, out ++ (kDropT t.length t a0).2, n1, L2) _ _ (by show n1 < n1 + 1; omega) (⟨hx1, hL2, by show (kDropT t.length t a0).1.length + (out ++ (kDropT t.length t a0).2).length ≤ ps.length; rw [List.length_append]; omega⟩) SU KE
  obtain rfl : ls = [] := by
    cases ls with
    | nil => rfl
    | cons a0 ts => exfalso; simp at h23 <;> omega
  obtain rfl : (t, out) = R := by
    cases n with
    | zero => simp [revL] at hx1
    | succ n => rw [revL, hx2] at hx1; exact Option.some.inj hx1
  refine J_exit <| Q_then_exit <| Q_then_exit <| Q_blk_this <| qx <| mv Z Z <| ag Z Z <| ag Z Z <| nq <| J_ret <| J_pick (A := slA b o _) PC <| J_asTo (B := slA b o (revokeS ps p).1.1) (by rw [hkd]) <| J_pick (A := row 449 2 _ _) PC <| J_rowEq (ys := (revokeS ps p).1.2.map encI) (by rw [hkd]; try rfl) <| J_return (v8) Tryz.results217 (.tmp Z (.tmp Z .nil)) ?_ ?_
  · rw [hkd]; rfl
  · exact SU
end Go.Pse
